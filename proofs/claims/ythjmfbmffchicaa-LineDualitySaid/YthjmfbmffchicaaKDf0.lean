/- Walks of functions that the law LineDuality reaches: each theorem '.calls' says that the call comes to what its printed plain function says, under the conditions that stand in it. -/
import Derived.Test.YthjmfbmffchicaaKDHub
namespace Go.Proofs.Ythjmfbmffchicaa.V
open Go.RowKit Go.Proofs.YthjmfbmffchicaaW.PrintWords Go.Proofs.YthjmfbmffchicaaW.PrintLast Go.Proofs.YthjmfbmffchicaaW.PrintMore
attribute [local go_sem] max2_int min2_int max_two min_two max_three min_three max_four min_four
set_option maxHeartbeats 8000000
set_option maxRecDepth 100000
set_option linter.unusedVariables false
set_option linter.unusedSimpArgs false
theorem info3 : (Try.prog.info? 3).map (fun i => (i.zero, i.size, i.bytes)) = some (some (.int .i64 0), 1, 8) := by kernel_rfl
theorem info26 : (Try.prog.info? 26).map (fun i => (i.zero, i.size, i.bytes)) = some (some (.slice none 0 0), 1, 24) := by kernel_rfl
def rd_L1 (xs : List (List Int)) (i : Int) : (List Int) := xs.getD i.toNat ([] : List Int)
theorem at_L1 {w : World} {A : Option Addr} {n : Nat} {xs : List (List Int)} (h : Kd.C (Kd.slice 3 (Kd.int .i64)) w A n xs) (i : Int) (h0 : 0 ≤ i) (h1 : i < n) : ∃ ad A0 c0, A = some ad ∧ w.cell? (ad.add i.toNat) = some (.slice A0 (rd_L1 xs i).length c0) ∧ (rd_L1 xs i).length ≤ c0 ∧ (Kd.int .i64).C w A0 (rd_L1 xs i).length (rd_L1 xs i) := by
 obtain ⟨ad, c, e, _, hK, hc0⟩ := Kd.C_get h ([] : List Int) i h0 h1
 have hc : ∀ j u, c[j]? = some u → w.cell? (ad.add (i.toNat * 1 + j)) = some u := hc0
 obtain ⟨A0, c0, rfl, l0, g0⟩ := hK
 exact ⟨ad, A0, c0, e, by have hq := hc 0 _ rfl; rwa [Nat.mul_one, Nat.add_zero] at hq, l0, g0⟩
theorem eqA37 (d : Nat) (w : World) (x0 y0 : Int) (x1 y1 : Int) :
  (Op.equalIn (d + 2) 37 (.agg #[.int .i64 x0, .int .i64 x1]) (.agg #[.int .i64 y0, .int .i64 y1])).run Try.prog w = .ok (x0 == y0 && (x1 == y1)) w := by
 refine eqA_of Try.underlying37 jk ?_
 refine eqf_cons (by rfl) (by go_simp; rfl) (by go_simp; rfl) (by go_simp) ?_
 exact eqf_last (by rfl) (by go_simp; rfl) (by go_simp; rfl) (by go_simp)
def l5few.l0 : Nat → List (List Int) → Int → Option (Bool)
 | 0, _, _ => none
 | k + 1, x0, x3 => if x3 < (x0.length : Int) then (if x3 ≥ 20 then (some false) else (if 0 ≤ x3 then (if ((rd_L1 x0 x3).length : Int) > 20 then (some false) else (l5few.l0 k x0 (wrap64 (x3 + 1)))) else (none))) else (some true)
def l5few.f (k : Nat) (l0 : List (List Int)) : Option (Bool) := l5few.l0 k l0 0
theorem l5few.calls (k : Nat) (A0 : Option Addr) (c0 : Nat) (l0 : List (List Int)) (r : Bool) (w : World) (hr0 : Kd.C (Kd.slice 3 (Kd.int .i64)) w A0 l0.length l0) (hc0 : l0.length ≤ c0) (h : l5few.f k l0 = some r) :
  Calls Try.prog 12 #[.slice A0 l0.length c0] w fun e w' => e = .returned (.bool r) ∧ Drawn0 w w' := by
 have HR0 := xA.mk hr0
 have HC0 := xA.mk hc0
 clear hr0 hc0
 have H : (l5few.l0 k l0 0) = some r := h
 clear h
 have H' := xA.mk H
 clear H
 go_enter Try.func12, Try.ntmps12
 go_wp2
 go_loopg [3] k (fun kq v3 w' => ∃ (x3_1 : Int), v3 = .int .i64 x3_1 ∧ xA (l5few.l0 kq l0 x3_1 = some r) ∧ xA (kq ≤ k) ∧ Drawn0 w w')
 case atStart => exact ⟨(0), rfl, H', ⟨Nat.le_refl _⟩, qe⟩
 case round =>
  clear H'
  obtain ⟨x3_1, rfl, HA, HK1, ⟨m1, rfl⟩⟩ := hrel
  obtain _ | k1 := gk
  · exact absurd HA.out (by simp [l5few.l0])
  have H := HA.out
  clear HA
  simp only [l5few.l0] at H
  obtain ⟨c2b0, H⟩ | ⟨c2b0, H⟩ := itd_or H
  rotate_left
  ·
   obtain rfl := qx H
   go_wp2
   go_ret
   exact ⟨qf, qe⟩
  by_cases c3 : x3_1 ≥ 20
  ·
   rw [if_pos c3] at H
   have c3b0 : decide (20 ≤ x3_1) = true := qu c3
   clear c3
   obtain rfl := qx H
   go_wp2
   go_ret
   exact ⟨qf, qe⟩
  rw [if_neg c3] at H
  have c3b0 : decide (20 ≤ x3_1) = false := qv c3
  clear c3
  obtain ⟨c4b0, H⟩ := xL H
  by_cases c5 : ((rd_L1 l0 x3_1).length : Int) > 20
  ·
   rw [if_pos c5] at H
   have c5b0 : decide (20 < ((rd_L1 l0 x3_1).length : Int)) = true := qu c5
   clear c5
   obtain rfl := qx H
   have p101 : 0 ≤ (x3_1 : Int) := qq
   have q101 : x3_1 < (l0.length : Int) := qq
   obtain ⟨ad101, A101_0, c101_0, e101, hx101_0, hl101_0, hi101_0⟩ := at_L1 HR0.out x3_1 p101 q101
   cases e101
   have HR101_0 := xA.mk hi101_0
   have HC101_0 := xA.mk hl101_0
   clear hi101_0 hl101_0
   replace p101 := eq_true p101
   replace q101 := eq_true q101
   go_wp2
   go_ret
   exact ⟨qf, qe⟩
  rw [if_neg c5] at H
  have c5b0 : decide (20 < ((rd_L1 l0 x3_1).length : Int)) = false := qv c5
  clear c5
  have H' := xA.mk H
  clear H
  have p101 : 0 ≤ (x3_1 : Int) := qq
  have q101 : x3_1 < (l0.length : Int) := qq
  obtain ⟨ad101, A101_0, c101_0, e101, hx101_0, hl101_0, hi101_0⟩ := at_L1 HR0.out x3_1 p101 q101
  cases e101
  have HR101_0 := xA.mk hi101_0
  have HC101_0 := xA.mk hl101_0
  clear hi101_0 hl101_0
  replace p101 := eq_true p101
  replace q101 := eq_true q101
  go_wp2
  go_roundg k1
  case measure => have := HK1.out; omega
  case rel => exact ⟨(wrap64 (x3_1 + 1)), rfl, H', ⟨by have := HK1.out; omega⟩, qe⟩
def line_of_1.f (a0 : Int) : Option (Bool) := if a0 = (-1152921504606846976) then (some false) else (if a0 < (-1000) then (some true) else (some (decide (a0 > 1000))))
theorem line_of_1.calls (a0 : Int) (r : Bool) (w : World) (h : line_of_1.f a0 = some r) :
  Calls Try.prog 92 #[.int .i64 a0] w fun e w' => e = .returned (.bool r) ∧ Drawn0 w w' := by
 have H : (if a0 = (-1152921504606846976) then (some false) else (if a0 < (-1000) then (some true) else (some (decide (a0 > 1000))))) = some r := h
 clear h
 by_cases c2 : a0 = (-1152921504606846976)
 ·
  rw [if_pos c2] at H
  have c2b0 : (a0 == (-1152921504606846976)) = true := beq_iff_eq.mpr c2
  have c2b1 : (a0 != (-1152921504606846976)) = false := bne_eq_false_iff_eq.mpr c2
  clear c2
  obtain rfl := qx H
  go_enter Try.func92, Try.ntmps92
  go_wp2
  go_ret
  exact ⟨qf, qe⟩
 rw [if_neg c2] at H
 have c2b0 : (a0 == (-1152921504606846976)) = false := jg c2
 obtain ⟨c3b0, H⟩ | ⟨c3b0, H⟩ := itd_or H
 rotate_left
 ·
  obtain rfl := qx H
  go_enter Try.func92, Try.ntmps92
  go_wp2
  go_ret
  exact ⟨qf, qe⟩
 obtain rfl := qx H
 go_enter Try.func92, Try.ntmps92
 go_wp2
 go_ret
 exact ⟨qf, qe⟩
def sifof_1.l0 : Nat → List Int → Int → Int → Option (Int)
 | 0, _, _, _ => none
 | k + 1, x0, x7, x8 => if x8 < x7 then (if 0 ≤ x8 then (if x8 < (x0.length : Int) then ((line_of_1.f (rd x0 x8)).bind fun t103 => (if t103 = true then (some x8) else (sifof_1.l0 k x0 x7 (wrap64 (x8 + 1))))) else (none)) else (none)) else (some (-1))
def sifof_1.f (k : Nat) (l0 : List Int) (a1 : Int) : Option (Int) := sifof_1.l0 k l0 (l0.length : Int) 0
theorem sifof_1.mono_l : ∀ k, (∀ y0 y1 y2, LeO (sifof_1.l0 k y0 y1 y2) (sifof_1.l0 (k + 1) y0 y1 y2))
 | 0 => fun _ _ _ r h => by simp [sifof_1.l0] at h
 | k + 1 => by
  have ih0 := sifof_1.mono_l k
  ·
   intro y0 y1 y2
   unfold sifof_1.l0
   repeat' first
   | (with_reducible exact ih0 _ _ _)
   | (with_reducible exact LeO.refl _)
   | (with_reducible exact LeO.none _)
   | (with_reducible refine LeO.ite ?_ ?_)
   | (with_reducible refine LeO.bind ?_ (fun _ => ?_))
   | exact ih0 _ _ _
theorem sifof_1.mono : ∀ a0 a1 k, LeO (sifof_1.f k a0 a1) (sifof_1.f (k + 1) a0 a1) := by
 intro a0 a1 k
 have ih0 := sifof_1.mono_l k
 unfold sifof_1.f
 repeat' first
   | exact ih0 _ _ _
   | exact LeO.none _
   | refine LeO.ite ?_ ?_
   | refine LeO.bind ?_ (fun _ => ?_)
theorem sifof_1.calls (k : Nat) (A0 : Option Addr) (c0 : Nat) (l0 : List Int) (a1 : Int) (r : Int) (w : World) (hr0 : Kd.C (Kd.int .i64) w A0 l0.length l0) (hc0 : l0.length ≤ c0) (h : sifof_1.f k l0 a1 = some r) :
  Calls Try.prog 93 #[.slice A0 l0.length c0, .func (.func 92) #[] #[]] w fun e w' => e = .returned (.int .i64 r) ∧ Drawn0 w w' := by
 have HR0 := xA.mk hr0
 have HC0 := xA.mk hc0
 clear hr0 hc0
 have H : (sifof_1.l0 k l0 (l0.length : Int) 0) = some r := h
 clear h
 have H' := xA.mk H
 clear H
 go_enter Try.func93, Try.ntmps93
 go_wp2
 go_loopg [8] k (fun kq v8 w' => ∃ (x8_1 : Int), v8 = .int .i64 x8_1 ∧ xA (sifof_1.l0 kq l0 (l0.length : Int) x8_1 = some r) ∧ xA (kq ≤ k) ∧ Drawn0 w w')
 case atStart => exact ⟨(0), rfl, H', ⟨Nat.le_refl _⟩, qe⟩
 case round =>
  clear H'
  obtain ⟨x8_1, rfl, HA, HK1, ⟨m1, rfl⟩⟩ := hrel
  obtain _ | k1 := gk
  · exact absurd HA.out (by simp [sifof_1.l0])
  have H := HA.out
  clear HA
  simp only [sifof_1.l0] at H
  obtain ⟨c3b0, H⟩ | ⟨c3b0, H⟩ := itd_or H
  rotate_left
  ·
   obtain rfl := qx H
   go_wp2
   go_ret
   exact ⟨qf, qe⟩
  obtain ⟨c4b0, H⟩ := xL H
  obtain ⟨c5b0, H⟩ := xL H
  replace H := qw H
  obtain ⟨t103, A60, H⟩ := H
  replace H : (if t103 = true then (some x8_1) else (sifof_1.l0 k1 l0 (l0.length : Int) (wrap64 (x8_1 + 1)))) = some r := H
  have A6 := xA.mk A60
  clear A60
  by_cases c7 : t103 = true
  ·
   subst c7
   have H1 : (some x8_1) = some r := by rw [if_pos rfl] at H; exact H
   clear H
   have H := H1
   clear H1
   obtain rfl := qx H
   have p102 : 0 ≤ (x8_1 : Int) := qq
   have q102 : x8_1 < (l0.length : Int) := qq
   obtain ⟨ad102, e102, hx102_0⟩ := Kd.xU HR0.out x8_1 p102 q102
   cases e102
   replace p102 := eq_true p102
   replace q102 := eq_true q102
   go_wp2_with (first | (go_at_call 92; (with_reducible refine (line_of_1.calls (rd l0 x8_1) true _ A6.out).mono ?_); rintro e w' ⟨rfl, ⟨nd, rfl⟩⟩))
   go_ret
   exact ⟨qf, qe⟩
  replace c7 := Bool.eq_false_iff.mpr c7
  subst c7
  have H1 : (sifof_1.l0 k1 l0 (l0.length : Int) (wrap64 (x8_1 + 1))) = some r := by rw [if_neg (show ¬ (false = true) by decide)] at H; exact H
  clear H
  have H := H1
  clear H1
  have H' := xA.mk H
  clear H
  have p102 : 0 ≤ (x8_1 : Int) := qq
  have q102 : x8_1 < (l0.length : Int) := qq
  obtain ⟨ad102, e102, hx102_0⟩ := Kd.xU HR0.out x8_1 p102 q102
  cases e102
  replace p102 := eq_true p102
  replace q102 := eq_true q102
  go_wp2_with (first | (go_at_call 92; (with_reducible refine (line_of_1.calls (rd l0 x8_1) false _ A6.out).mono ?_); rintro e w' ⟨rfl, ⟨nd, rfl⟩⟩))
  go_roundg k1
  case measure => have := HK1.out; omega
  case rel => exact ⟨(wrap64 (x8_1 + 1)), rfl, H', ⟨by have := HK1.out; omega⟩, qe⟩
def scfof_1.f (k : Nat) (l0 : List Int) (a1 : Int) : Option (Bool) := (sifof_1.f k l0 a1).bind fun t104 => (some (decide (t104 ≥ 0)))
theorem scfof_1.mono : ∀ a0 a1 k, LeO (scfof_1.f k a0 a1) (scfof_1.f (k + 1) a0 a1) := by
 intro a0 a1 k
 unfold scfof_1.f
 repeat' first
   | (with_reducible exact sifof_1.mono _ _ _)
   | (with_reducible exact LeO.refl _)
   | (with_reducible exact LeO.none _)
   | (with_reducible refine LeO.ite ?_ ?_)
   | (with_reducible refine LeO.bind ?_ (fun _ => ?_))
   | exact sifof_1.mono _ _ _
theorem scfof_1.calls (k : Nat) (A0 : Option Addr) (c0 : Nat) (l0 : List Int) (a1 : Int) (r : Bool) (w : World) (hr0 : Kd.C (Kd.int .i64) w A0 l0.length l0) (hc0 : l0.length ≤ c0) (h : scfof_1.f k l0 a1 = some r) :
  Calls Try.prog 68 #[.slice A0 l0.length c0, .func (.func 92) #[] #[]] w fun e w' => e = .returned (.bool r) ∧ Drawn0 w w' := by
 have HR0 := xA.mk hr0
 have HC0 := xA.mk hc0
 clear hr0 hc0
 have H : ((sifof_1.f k l0 a1).bind fun t104 => (some (decide (t104 ≥ 0)))) = some r := h
 clear h
 replace H := qw H
 obtain ⟨t104, A30, H⟩ := H
 replace H : (some (decide (t104 ≥ 0))) = some r := H
 have A3 := xA.mk A30
 clear A30
 obtain rfl := qx H
 go_enter Try.func68, Try.ntmps68
 go_wp2_with (first | ((with_reducible refine xK (f := 93) rfl ?_); refine xS (some 7) rfl rfl Try.func93 jk rfl #[.slice A0 l0.length c0, .func (.func 92) #[] #[]] rfl qc ?_; (with_reducible refine (sifof_1.calls k _ _ l0 a1 t104 _ ?side1 ?side2 A3.out).mono ?_); (case side1 => repeat (first | exact HR0.out)); (case side2 => exact HC0.out); rintro e w' ⟨rfl, ⟨nd, rfl⟩⟩; refine ⟨_, rfl, ?_⟩))
 go_ret
 exact ⟨qf, qe⟩
mutual
def line_of.j0 : Nat → List (List Int) → Bool → Option ((List (List Int)) × Bool)
 | 0, _, _ => none
 | k + 1, x0, x13 => if x13 = true then (some (([] : List (List Int)), false)) else (line_of.l0 k x0 x0 (x0.length : Int) 0)
def line_of.l0 : Nat → List (List Int) → List (List Int) → Int → Int → Option ((List (List Int)) × Bool)
 | 0, _, _, _, _ => none
 | k + 1, x0, x14, x15, x16 => if x16 < x15 then (if 0 ≤ x16 then (if x16 < (x14.length : Int) then (if ((rd_L1 x14 x16).length : Int) = (x0.length : Int) then ((scfof_1.f k (rd_L1 x14 x16) 0).bind fun t106 => (if t106 = true then (some (([] : List (List Int)), false)) else (line_of.l0 k x0 x14 x15 (wrap64 (x16 + 1))))) else (some (([] : List (List Int)), false))) else (none)) else (none)) else (some (x0, true))
end
def line_of.f (k : Nat) (l0 : List (List Int)) : Option ((List (List Int)) × Bool) := if (l0.length : Int) < 1 then (line_of.j0 k l0 true) else (line_of.j0 k l0 (decide ((l0.length : Int) > 6)))
theorem line_of.mono_l : ∀ k, (∀ y0 y1, LeO (line_of.j0 k y0 y1) (line_of.j0 (k + 1) y0 y1)) ∧ (∀ y0 y1 y2 y3, LeO (line_of.l0 k y0 y1 y2 y3) (line_of.l0 (k + 1) y0 y1 y2 y3))
 | 0 => ⟨fun _ _ r h => by simp [line_of.j0] at h, fun _ _ _ _ r h => by simp [line_of.l0] at h⟩
 | k + 1 => by
  obtain ⟨ih0, ih1⟩ := line_of.mono_l k
  refine ⟨?_, ?_⟩
  ·
   intro y0 y1
   unfold line_of.j0
   repeat' first
   | (with_reducible exact LeO.refl _)
   | (with_reducible exact LeO.none _)
   | (with_reducible refine LeO.ite ?_ ?_)
   | (with_reducible refine LeO.bind ?_ (fun _ => ?_))
   | exact ih0 _ _
   | exact ih1 _ _ _ _
   | exact scfof_1.mono _ _ _
  ·
   intro y0 y1 y2 y3
   unfold line_of.l0
   repeat' first
   | (with_reducible exact LeO.refl _)
   | (with_reducible exact LeO.none _)
   | (with_reducible refine LeO.ite ?_ ?_)
   | (with_reducible refine LeO.bind ?_ (fun _ => ?_))
   | exact ih0 _ _
   | exact ih1 _ _ _ _
   | exact scfof_1.mono _ _ _
theorem line_of.mono : ∀ a0 k, LeO (line_of.f k a0) (line_of.f (k + 1) a0) := by
 intro a0 k
 obtain ⟨ih0, ih1⟩ := line_of.mono_l k
 unfold line_of.f
 repeat' first
   | (with_reducible exact LeO.refl _)
   | (with_reducible exact LeO.none _)
   | (with_reducible refine LeO.ite ?_ ?_)
   | (with_reducible refine LeO.bind ?_ (fun _ => ?_))
   | exact ih0 _ _
   | exact ih1 _ _ _ _
   | exact scfof_1.mono _ _ _
theorem line_of.calls (k : Nat) (P0_ : Nat → Prop) (A0 : Option Addr) (c0 : Nat) (l0 : List (List Int)) (r1 : List (List Int)) (r2 : Bool) (w : World) (hs0 : Kd.V (Kd.slice 3 (Kd.int .i64)) 26 w w.heap.size (fun k_ => P0_ k_) (.slice A0 l0.length c0) l0) (h : line_of.f k l0 = some (r1, r2)) :
  Calls Try.prog 64 #[.slice A0 l0.length c0] w fun e w' => ∃ v0_ : Value, e = .returned (.tuple #[v0_, .bool r2]) ∧ Kd.V (Kd.slice 3 (Kd.int .i64)) 26 w' w.heap.size (fun k_ => (P0_ k_ ∨ w.heap.size ≤ k_)) v0_ r1 ∧ Below w.heap.size w w' := by
 have HO0 := xA.mk (show Kd.V (Kd.slice 3 (Kd.int .i64)) 26 w w.heap.size (fun k_ => (P0_ k_ ∨ w.heap.size ≤ k_)) (.slice A0 l0.length c0) l0 from Kd.V_mono hs0 (fun k_ hk => .inl hk))
 have HB := xA.mk (Below.refl w.heap.size w)
 have H : (if (l0.length : Int) < 1 then (line_of.j0 k l0 true) else (line_of.j0 k l0 (decide ((l0.length : Int) > 6)))) = some (r1, r2) := h
 clear h
 have HC2 := xA.mk H
 clear H
 go_enter Try.func64, Try.ntmps64
 go_upto_region 1 with (fail)
 go_cut [13] (fun v13 wc => ∃ (kq : Nat) (x13_1 : Bool), v13 = .bool x13_1 ∧ xA (line_of.j0 kq l0 x13_1 = some (r1, r2)) ∧ xA (kq ≤ k) ∧ xA (Kd.V (Kd.slice 3 (Kd.int .i64)) 26 wc w.heap.size (fun k_ => (P0_ k_ ∨ w.heap.size ≤ k_)) (.slice A0 l0.length c0) l0) ∧ xA (Below w.heap.size w wc))
 case first =>
  have H := HC2.out
  clear HC2
  obtain ⟨c3b0, H⟩ | ⟨c3b0, H⟩ := itd_or H
  rotate_left
  ·
   (first | rw [c3b0] | skip)
   have H' := xA.mk H
   clear H
   go_wp2
   go_meet
   case rel => exact ⟨_, (decide ((l0.length : Int) > 6)), rfl, H', ⟨by first | omega | exact Nat.le_refl _⟩, ⟨by exact HO0.out⟩, ⟨HB.out⟩⟩
  (first | rw [c3b0] | skip)
  have H' := xA.mk H
  clear H
  go_wp2
  go_meet
  case rel => exact ⟨_, (true), rfl, H', ⟨by first | omega | exact Nat.le_refl _⟩, ⟨by exact HO0.out⟩, ⟨HB.out⟩⟩
 case rest =>
  clear HC2
  obtain ⟨kq, x13_1, rfl, HA, HJ1, HO_0, HB⟩ := hcut
  obtain _ | kj1 := kq
  · exact absurd HA.out (by simp [line_of.j0])
  have H := HA.out
  clear HA
  simp only [line_of.j0] at H
  by_cases c4 : x13_1 = true
  ·
   subst c4
   have H1 : (some (([] : List (List Int)), false)) = some (r1, r2) := by rw [if_pos rfl] at H; exact H
   clear H
   have H := H1
   clear H1
   simp only [Option.some.injEq, Prod.mk.injEq] at H
   obtain ⟨rfl, rfl⟩ := H
   go_wp2
   go_ret2
   exact ⟨_, rfl, (show Kd.V _ _ _ _ _ (.slice none 0 0) _ from Kd.V_nil _ _ _ _ _), HB.out⟩
  replace c4 := Bool.eq_false_iff.mpr c4
  subst c4
  have H1 : (line_of.l0 kj1 l0 l0 (l0.length : Int) 0) = some (r1, r2) := by rw [if_neg (show ¬ (false = true) by decide)] at H; exact H
  clear H
  have H := H1
  clear H1
  have H' := xA.mk H
  clear H
  go_wp2
  go_loopg [16] kj1 (fun kq v16 w' => ∃ (x16_2 : Int), v16 = .int .i64 x16_2 ∧ xA (line_of.l0 kq l0 l0 (l0.length : Int) x16_2 = some (r1, r2)) ∧ xA (kq ≤ kj1) ∧ xA (Kd.V (Kd.slice 3 (Kd.int .i64)) 26 w' w.heap.size (fun k_ => (P0_ k_ ∨ w.heap.size ≤ k_)) (.slice A0 l0.length c0) l0) ∧ xA (Kd.V (Kd.slice 3 (Kd.int .i64)) 26 w' w.heap.size (fun k_ => (P0_ k_ ∨ w.heap.size ≤ k_)) (.slice A0 l0.length c0) l0) ∧ xA (Below w.heap.size w w'))
  case atStart => exact ⟨(0), rfl, H', ⟨Nat.le_refl _⟩, ⟨by exact HO_0.out⟩, ⟨by exact HO_0.out⟩, ⟨HB.out⟩⟩
  case round =>
   clear H'
   obtain ⟨x16_2, rfl, HA, HK2, HO_0, HO_14, HB⟩ := hrel
   obtain _ | k2 := gk
   · exact absurd HA.out (by simp [line_of.l0])
   have H := HA.out
   clear HA
   simp only [line_of.l0] at H
   obtain ⟨c5b0, H⟩ | ⟨c5b0, H⟩ := itd_or H
   rotate_left
   ·
    simp only [Option.some.injEq, Prod.mk.injEq] at H
    obtain ⟨rfl, rfl⟩ := H
    go_wp2
    go_ret2
    exact ⟨_, rfl, by exact HO_0.out, HB.out⟩
   obtain ⟨c6b0, H⟩ := xL H
   obtain ⟨c7b0, H⟩ := xL H
   by_cases c8 : ((rd_L1 l0 x16_2).length : Int) = (l0.length : Int)
   rotate_left
   ·
    rw [if_neg c8] at H
    have c8b0 : (((rd_L1 l0 x16_2).length : Int) == (l0.length : Int)) = false := jg c8
    have c8b2 : ((rd_L1 l0 x16_2).length == l0.length) = false := by first | simpa using c8 | (simp at c8 ⊢; omega)
    simp only [Option.some.injEq, Prod.mk.injEq] at H
    obtain ⟨rfl, rfl⟩ := H
    have p105 : 0 ≤ (x16_2 : Int) := qq
    have q105 : x16_2 < (l0.length : Int) := qq
    obtain ⟨ad105, A105_0, c105_0, e105, hx105_0, hl105_0, hi105_0⟩ := at_L1 (Kd.yB HO_14.out).2.2 x16_2 p105 q105
    cases e105
    obtain ⟨ce105, hce105, hMe105, hcc105⟩ := Kd.V_get HO_14.out [] x16_2 p105 (by first | exact q105 | exact qq | (have e_ := (Kd.yB HO_14.out).1; omega))
    obtain ⟨ua105_0, uc105_0, rfl, ul105_0, ge105_0⟩ := Kd.FK_slice_open hMe105
    have hv105_0 := hcc105 0 _ rfl
    rw [Nat.add_zero, show ((Kd.slice 3 (Kd.int .i64))).sz = 1 from rfl, Nat.mul_one] at hv105_0
    replace hv105_0 := qx (hv105_0.symm.trans hx105_0)
    injection hv105_0 with hva_ hvn_ hvc_
    rw [hva_] at ge105_0
    rw [hvc_] at ul105_0
    have HL105_0 := xA.mk (show Kd.V (Kd.int .i64) 3 _ w.heap.size _ _ (rd_L1 l0 x16_2) from Kd.V_mk ul105_0 ge105_0)
    clear hva_ hvn_ hvc_ ge105_0 ul105_0
    clear hcc105 hce105
    have HR105_0 := xA.mk hi105_0
    have HC105_0 := xA.mk hl105_0
    clear hi105_0 hl105_0
    replace p105 := eq_true p105
    replace q105 := eq_true q105
    go_wp2
    go_ret2
    exact ⟨_, rfl, (show Kd.V _ _ _ _ _ (.slice none 0 0) _ from Kd.V_nil _ _ _ _ _), HB.out⟩
   rw [if_pos c8] at H
   have c8b0 : (((rd_L1 l0 x16_2).length : Int) == (l0.length : Int)) = true := beq_iff_eq.mpr c8
   have c8b1 : (((rd_L1 l0 x16_2).length : Int) != (l0.length : Int)) = false := bne_eq_false_iff_eq.mpr c8
   have c8b2 : ((rd_L1 l0 x16_2).length == l0.length) = true := by first | simpa using c8 | (simp at c8 ⊢; omega)
   clear c8
   replace H := qw H
   obtain ⟨t106, A90, H⟩ := H
   replace H : (if t106 = true then (some (([] : List (List Int)), false)) else (line_of.l0 k2 l0 l0 (l0.length : Int) (wrap64 (x16_2 + 1)))) = some (r1, r2) := H
   have A9 := xA.mk A90
   clear A90
   by_cases c10 : t106 = true
   ·
    subst c10
    have H1 : (some (([] : List (List Int)), false)) = some (r1, r2) := by rw [if_pos rfl] at H; exact H
    clear H
    have H := H1
    clear H1
    simp only [Option.some.injEq, Prod.mk.injEq] at H
    obtain ⟨rfl, rfl⟩ := H
    have p105 : 0 ≤ (x16_2 : Int) := qr
    have q105 : x16_2 < (l0.length : Int) := qr
    obtain ⟨ad105, A105_0, c105_0, e105, hx105_0, hl105_0, hi105_0⟩ := at_L1 (Kd.yB HO_14.out).2.2 x16_2 p105 q105
    cases e105
    obtain ⟨ce105, hce105, hMe105, hcc105⟩ := Kd.V_get HO_14.out [] x16_2 p105 (by first | exact q105 | exact qr | (have e_ := (Kd.yB HO_14.out).1; omega))
    obtain ⟨ua105_0, uc105_0, rfl, ul105_0, ge105_0⟩ := Kd.FK_slice_open hMe105
    have hv105_0 := hcc105 0 _ rfl
    rw [Nat.add_zero, show ((Kd.slice 3 (Kd.int .i64))).sz = 1 from rfl, Nat.mul_one] at hv105_0
    replace hv105_0 := qx (hv105_0.symm.trans hx105_0)
    injection hv105_0 with hva_ hvn_ hvc_
    rw [hva_] at ge105_0
    rw [hvc_] at ul105_0
    have HL105_0 := xA.mk (show Kd.V (Kd.int .i64) 3 _ w.heap.size _ _ (rd_L1 l0 x16_2) from Kd.V_mk ul105_0 ge105_0)
    clear hva_ hvn_ hvc_ ge105_0 ul105_0
    clear hcc105 hce105
    have HR105_0 := xA.mk hi105_0
    have HC105_0 := xA.mk hl105_0
    clear hi105_0 hl105_0
    replace p105 := eq_true p105
    replace q105 := eq_true q105
    go_wp2_with (first | (go_at_call 68; (with_reducible refine (scfof_1.calls k2 _ _ (rd_L1 l0 x16_2) 0 true _ ?side1 ?side2 A9.out).mono ?_); (case side1 => repeat (first | exact (by repeat (first | (with_reducible exact HR105_0.out) | (with_reducible refine Kd.C_alloc ?_ _) | (with_reducible refine Kd.C_drewN ?_ _) | (with_reducible refine Kd.C_drew ?_) | exact HR105_0.out)) | (with_reducible refine Kd.C_alloc ?_ _) | (with_reducible refine Kd.C_drewN ?_ _) | (with_reducible refine Kd.C_drew ?_))); (case side2 => exact HC105_0.out); rintro e w' ⟨rfl, ⟨nd, rfl⟩⟩))
    go_ret2
    exact ⟨_, qg, (show Kd.V _ _ _ _ _ (.slice none 0 0) _ from Kd.V_nil _ _ _ _ _), qa⟩
   replace c10 := Bool.eq_false_iff.mpr c10
   subst c10
   have H1 : (line_of.l0 k2 l0 l0 (l0.length : Int) (wrap64 (x16_2 + 1))) = some (r1, r2) := by rw [if_neg (show ¬ (false = true) by decide)] at H; exact H
   clear H
   have H := H1
   clear H1
   have H' := xA.mk H
   clear H
   have p105 : 0 ≤ (x16_2 : Int) := qr
   have q105 : x16_2 < (l0.length : Int) := qr
   obtain ⟨ad105, A105_0, c105_0, e105, hx105_0, hl105_0, hi105_0⟩ := at_L1 (Kd.yB HO_14.out).2.2 x16_2 p105 q105
   cases e105
   obtain ⟨ce105, hce105, hMe105, hcc105⟩ := Kd.V_get HO_14.out [] x16_2 p105 (by first | exact q105 | exact qq | (have e_ := (Kd.yB HO_14.out).1; omega))
   obtain ⟨ua105_0, uc105_0, rfl, ul105_0, ge105_0⟩ := Kd.FK_slice_open hMe105
   have hv105_0 := hcc105 0 _ rfl
   rw [Nat.add_zero, show ((Kd.slice 3 (Kd.int .i64))).sz = 1 from rfl, Nat.mul_one] at hv105_0
   replace hv105_0 := qx (hv105_0.symm.trans hx105_0)
   injection hv105_0 with hva_ hvn_ hvc_
   rw [hva_] at ge105_0
   rw [hvc_] at ul105_0
   have HL105_0 := xA.mk (show Kd.V (Kd.int .i64) 3 _ w.heap.size _ _ (rd_L1 l0 x16_2) from Kd.V_mk ul105_0 ge105_0)
   clear hva_ hvn_ hvc_ ge105_0 ul105_0
   clear hcc105 hce105
   have HR105_0 := xA.mk hi105_0
   have HC105_0 := xA.mk hl105_0
   clear hi105_0 hl105_0
   replace p105 := eq_true p105
   replace q105 := eq_true q105
   go_wp2_with (first | (go_at_call 68; (with_reducible refine (scfof_1.calls k2 _ _ (rd_L1 l0 x16_2) 0 false _ ?side1 ?side2 A9.out).mono ?_); (case side1 => repeat (first | exact (by repeat (first | (with_reducible exact HR105_0.out) | exact HR105_0.out)))); (case side2 => exact HC105_0.out); rintro e w' ⟨rfl, ⟨nd, rfl⟩⟩))
   go_roundg k2
   case measure => have := HJ1.out; have := HK2.out; omega
   case rel => exact ⟨(wrap64 (x16_2 + 1)), rfl, H', ⟨by have := HJ1.out; have := HK2.out; omega⟩, ⟨by exact HO_0.out⟩, ⟨by exact HO_14.out⟩, ⟨qb⟩⟩
def line_never_int.f  : Option (Int) := some (-1152921504606846976)
theorem line_never_int.calls  (r : Int) (w : World) (h : line_never_int.f  = some r) :
  Calls Try.prog 83 #[] w fun e w' => e = .returned (.int .i64 r) ∧ Drawn0 w w' := by
 have H : (some (-1152921504606846976)) = some r := h
 clear h
 obtain rfl := qx H
 go_enter Try.func83, Try.ntmps83
 go_wp2
 go_ret
 exact ⟨qf, qe⟩
def line_both_int.f (a0 : Int) (a1 : Int) : Option (Int) := (line_never_int.f).bind fun t107 => (if a0 = t107 then ((line_never_int.f).bind fun t108 => (some t108)) else ((line_never_int.f).bind fun t109 => (if a1 = t109 then ((line_never_int.f).bind fun t110 => (some t110)) else (some (wrap64 (a0 + a1))))))
theorem line_both_int.calls (a0 : Int) (a1 : Int) (r : Int) (w : World) (h : line_both_int.f a0 a1 = some r) :
  Calls Try.prog 91 #[.int .i64 a0, .int .i64 a1] w fun e w' => e = .returned (.int .i64 r) ∧ Drawn0 w w' := by
 have H : ((line_never_int.f).bind fun t107 => (if a0 = t107 then ((line_never_int.f).bind fun t108 => (some t108)) else ((line_never_int.f).bind fun t109 => (if a1 = t109 then ((line_never_int.f).bind fun t110 => (some t110)) else (some (wrap64 (a0 + a1))))))) = some r := h
 clear h
 replace H := qw H
 obtain ⟨t107, A30, H⟩ := H
 replace H : (if a0 = t107 then ((line_never_int.f).bind fun t108 => (some t108)) else ((line_never_int.f).bind fun t109 => (if a1 = t109 then ((line_never_int.f).bind fun t110 => (some t110)) else (some (wrap64 (a0 + a1)))))) = some r := H
 have A3 := xA.mk A30
 clear A30
 by_cases c4 : a0 = t107
 ·
  rw [if_pos c4] at H
  have c4b0 : (a0 == t107) = true := beq_iff_eq.mpr c4
  clear c4
  replace H := qw H
  obtain ⟨t108, A50, H⟩ := H
  replace H : (some t108) = some r := H
  have A5 := xA.mk A50
  clear A50
  obtain rfl := qx H
  go_enter Try.func91, Try.ntmps91
  go_wp2_with (first | ((with_reducible refine xK (f := 83) rfl ?_); refine xS (some 6) rfl rfl Try.func83 jk rfl #[] rfl qc ?_; (with_reducible refine (line_never_int.calls  t107 _ A3.out).mono ?_); rintro e w' ⟨rfl, ⟨nd, rfl⟩⟩; refine ⟨_, rfl, ?_⟩) | ((with_reducible refine xK (f := 83) rfl ?_); refine xS (some 13) rfl rfl Try.func83 jk rfl #[] rfl qc ?_; (with_reducible refine (line_never_int.calls  t108 _ A5.out).mono ?_); rintro e w' ⟨rfl, ⟨nd, rfl⟩⟩; refine ⟨_, rfl, ?_⟩))
  go_ret
  exact ⟨qf, qe⟩
 rw [if_neg c4] at H
 have c4b0 : (a0 == t107) = false := jg c4
 replace H := qw H
 obtain ⟨t109, A60, H⟩ := H
 replace H : (if a1 = t109 then ((line_never_int.f).bind fun t110 => (some t110)) else (some (wrap64 (a0 + a1)))) = some r := H
 have A6 := xA.mk A60
 clear A60
 by_cases c7 : a1 = t109
 rotate_left
 ·
  rw [if_neg c7] at H
  have c7b0 : (a1 == t109) = false := jg c7
  obtain rfl := qx H
  go_enter Try.func91, Try.ntmps91
  go_wp2_with (first | ((with_reducible refine xK (f := 83) rfl ?_); refine xS (some 6) rfl rfl Try.func83 jk rfl #[] rfl qc ?_; (with_reducible refine (line_never_int.calls  t107 _ A3.out).mono ?_); rintro e w' ⟨rfl, ⟨nd, rfl⟩⟩; refine ⟨_, rfl, ?_⟩) | (go_at_call 83; (with_reducible refine (line_never_int.calls  t109 _ A6.out).mono ?_); rintro e w' ⟨rfl, ⟨nd, rfl⟩⟩))
  go_ret
  exact ⟨qf, qe⟩
 rw [if_pos c7] at H
 have c7b0 : (a1 == t109) = true := beq_iff_eq.mpr c7
 clear c7
 replace H := qw H
 obtain ⟨t110, A80, H⟩ := H
 replace H : (some t110) = some r := H
 have A8 := xA.mk A80
 clear A80
 obtain rfl := qx H
 go_enter Try.func91, Try.ntmps91
 go_wp2_with (first | ((with_reducible refine xK (f := 83) rfl ?_); refine xS (some 6) rfl rfl Try.func83 jk rfl #[] rfl qc ?_; (with_reducible refine (line_never_int.calls  t107 _ A3.out).mono ?_); rintro e w' ⟨rfl, ⟨nd, rfl⟩⟩; refine ⟨_, rfl, ?_⟩) | (go_at_call 83; (with_reducible refine (line_never_int.calls  t109 _ A6.out).mono ?_); rintro e w' ⟨rfl, ⟨nd, rfl⟩⟩) | ((with_reducible refine xK (f := 83) rfl ?_); refine xS (some 13) rfl rfl Try.func83 jk rfl #[] rfl qc ?_; (with_reducible refine (line_never_int.calls  t110 _ A8.out).mono ?_); rintro e w' ⟨rfl, ⟨nd, rfl⟩⟩; refine ⟨_, rfl, ?_⟩))
 go_ret
 exact ⟨qf, qe⟩
mutual
def lgtimes.l0 : Nat → List (List Int) → List (List Int) → List (List Int) → Int → Int → Option ((List (List Int)))
 | 0, _, _, _, _, _ => none
 | k + 1, x0, x1, x5, x14, x15 => if x15 < x14 then (if 0 ≤ (x0.length : Int) then (if ((x0.length : Int) : Int).toNat ≤ 35184372088832 then (if 0 ≤ x15 then (if x15 < (x5.length : Int) then (lgtimes.l1 k x0 x1 (x5.set (x15 : Int).toNat (List.replicate ((x0.length : Int) : Int).toNat 0)) x15 x14 x15 (x0.length : Int) 0) else (none)) else (none)) else (none)) else (none)) else (some x5)
def lgtimes.l1 : Nat → List (List Int) → List (List Int) → List (List Int) → Int → Int → Int → Int → Int → Option ((List (List Int)))
 | 0, _, _, _, _, _, _, _, _ => none
 | k + 1, x0, x1, x5, x6, x14, x15, x25, x26 => if x26 < x25 then ((line_never_int.f).bind fun t118 => (lgtimes.l2 k x0 x1 x5 x6 x26 t118 x14 x15 x25 x26 (x0.length : Int) 0)) else (lgtimes.l0 k x0 x1 x5 x14 (wrap64 (x15 + 1)))
def lgtimes.l2 : Nat → List (List Int) → List (List Int) → List (List Int) → Int → Int → Int → Int → Int → Int → Int → Int → Int → Option ((List (List Int)))
 | 0, _, _, _, _, _, _, _, _, _, _, _, _ => none
 | k + 1, x0, x1, x5, x6, x7, x8, x14, x15, x25, x26, x31, x32 => if x32 < x31 then (if 0 ≤ x6 then (if x6 < (x0.length : Int) then (if 0 ≤ x32 then (if x32 < ((rd_L1 x0 x6).length : Int) then (if x32 < (x1.length : Int) then (if 0 ≤ x7 then (if x7 < ((rd_L1 x1 x32).length : Int) then ((line_both_int.f (rd (rd_L1 x0 x6) x32) (rd (rd_L1 x1 x32) x7)).bind fun t123 => (lgtimes.l2 k x0 x1 x5 x6 x7 (mx x8 t123) x14 x15 x25 x26 x31 (wrap64 (x32 + 1)))) else (none)) else (none)) else (none)) else (none)) else (none)) else (none)) else (none)) else (if 0 ≤ x6 then (if x6 < (x5.length : Int) then (if 0 ≤ x7 then (if x7 < ((rd_L1 x5 x6).length : Int) then (lgtimes.l1 k x0 x1 (x5.set (x6 : Int).toNat ((rd_L1 x5 x6).set (x7 : Int).toNat x8)) x6 x14 x15 x25 (wrap64 (x26 + 1))) else (none)) else (none)) else (none)) else (none))
end
def lgtimes.f (k : Nat) (l0 : List (List Int)) (l1 : List (List Int)) : Option ((List (List Int))) := if 0 ≤ (l0.length : Int) then (if ((l0.length : Int) : Int).toNat ≤ 11728124029610 then (lgtimes.l0 k l0 l1 (List.replicate ((l0.length : Int) : Int).toNat []) (l0.length : Int) 0) else (none)) else (none)
theorem lgtimes.mono_l : ∀ k, (∀ y0 y1 y2 y3 y4, LeO (lgtimes.l0 k y0 y1 y2 y3 y4) (lgtimes.l0 (k + 1) y0 y1 y2 y3 y4)) ∧ (∀ y0 y1 y2 y3 y4 y5 y6 y7, LeO (lgtimes.l1 k y0 y1 y2 y3 y4 y5 y6 y7) (lgtimes.l1 (k + 1) y0 y1 y2 y3 y4 y5 y6 y7)) ∧ (∀ y0 y1 y2 y3 y4 y5 y6 y7 y8 y9 y10 y11, LeO (lgtimes.l2 k y0 y1 y2 y3 y4 y5 y6 y7 y8 y9 y10 y11) (lgtimes.l2 (k + 1) y0 y1 y2 y3 y4 y5 y6 y7 y8 y9 y10 y11))
 | 0 => ⟨fun _ _ _ _ _ r h => by simp [lgtimes.l0] at h, fun _ _ _ _ _ _ _ _ r h => by simp [lgtimes.l1] at h, fun _ _ _ _ _ _ _ _ _ _ _ _ r h => by simp [lgtimes.l2] at h⟩
 | k + 1 => by
  obtain ⟨ih0, ih1, ih2⟩ := lgtimes.mono_l k
  refine ⟨?_, ?_, ?_⟩
  ·
   intro y0 y1 y2 y3 y4
   unfold lgtimes.l0
   repeat' first
   | (with_reducible exact LeO.refl _)
   | (with_reducible exact LeO.none _)
   | (with_reducible refine LeO.ite ?_ ?_)
   | (with_reducible refine LeO.bind ?_ (fun _ => ?_))
   | exact ih0 _ _ _ _ _
   | exact ih1 _ _ _ _ _ _ _ _
   | exact ih2 _ _ _ _ _ _ _ _ _ _ _ _
  ·
   intro y0 y1 y2 y3 y4 y5 y6 y7
   unfold lgtimes.l1
   repeat' first
   | (with_reducible exact LeO.refl _)
   | (with_reducible exact LeO.none _)
   | (with_reducible refine LeO.ite ?_ ?_)
   | (with_reducible refine LeO.bind ?_ (fun _ => ?_))
   | exact ih0 _ _ _ _ _
   | exact ih1 _ _ _ _ _ _ _ _
   | exact ih2 _ _ _ _ _ _ _ _ _ _ _ _
  ·
   intro y0 y1 y2 y3 y4 y5 y6 y7 y8 y9 y10 y11
   unfold lgtimes.l2
   repeat' first
   | (with_reducible exact LeO.refl _)
   | (with_reducible exact LeO.none _)
   | (with_reducible refine LeO.ite ?_ ?_)
   | (with_reducible refine LeO.bind ?_ (fun _ => ?_))
   | exact ih0 _ _ _ _ _
   | exact ih1 _ _ _ _ _ _ _ _
   | exact ih2 _ _ _ _ _ _ _ _ _ _ _ _
theorem lgtimes.mono : ∀ a0 a1 k, LeO (lgtimes.f k a0 a1) (lgtimes.f (k + 1) a0 a1) := by
 intro a0 a1 k
 obtain ⟨ih0, ih1, ih2⟩ := lgtimes.mono_l k
 unfold lgtimes.f
 repeat' first
   | (with_reducible exact LeO.refl _)
   | (with_reducible exact LeO.none _)
   | (with_reducible refine LeO.ite ?_ ?_)
   | (with_reducible refine LeO.bind ?_ (fun _ => ?_))
   | exact ih0 _ _ _ _ _
   | exact ih1 _ _ _ _ _ _ _ _
   | exact ih2 _ _ _ _ _ _ _ _ _ _ _ _
theorem lgtimes.calls (k : Nat) (A0 : Option Addr) (c0 : Nat) (l0 : List (List Int)) (A1 : Option Addr) (c1 : Nat) (l1 : List (List Int)) (r : List (List Int)) (w : World) (hr0 : Kd.C (Kd.slice 3 (Kd.int .i64)) w A0 l0.length l0) (hc0 : l0.length ≤ c0) (hr1 : Kd.C (Kd.slice 3 (Kd.int .i64)) w A1 l1.length l1) (hc1 : l1.length ≤ c1) (h : lgtimes.f k l0 l1 = some r) :
  Calls Try.prog 59 #[.slice A0 l0.length c0, .slice A1 l1.length c1] w fun e w' => ∃ v0_ : Value, e = .returned (v0_) ∧ Kd.S (Kd.slice 3 (Kd.int .i64)) 26 w' w.heap.size (fun _ => True) v0_ r ∧ Below w.heap.size w w' := by
 have HR0 := xA.mk hr0
 have HC0 := xA.mk hc0
 clear hr0 hc0
 have HR1 := xA.mk hr1
 have HC1 := xA.mk hc1
 clear hr1 hc1
 have HB := xA.mk (Below.refl w.heap.size w)
 have H : (if 0 ≤ (l0.length : Int) then (if ((l0.length : Int) : Int).toNat ≤ 11728124029610 then (lgtimes.l0 k l0 l1 (List.replicate ((l0.length : Int) : Int).toNat []) (l0.length : Int) 0) else (none)) else (none)) = some r := h
 clear h
 obtain ⟨c3, H⟩ := ite_some H
 have c3b0 := eq_true c3
 have c3b1 : decide (0 ≤ (l0.length : Int)) = true := qu c3
 clear c3
 obtain ⟨c4, H⟩ := ite_some H
 have c4b0 := eq_true c4
 have c4b1 : decide (((l0.length : Int) : Int).toNat ≤ 11728124029610) = true := qu c4
 clear c4
 obtain ⟨y111, hy111⟩ : ∃ y_ : List (List Int), y_ = (List.replicate ((l0.length : Int) : Int).toNat []) := ⟨_, rfl⟩
 replace H : (lgtimes.l0 k l0 l1 y111 (l0.length : Int) 0) = some r := by first | (rw [hy111]; with_reducible exact H) | (have H2_ := (Option.bind_some _ _).symm.trans H; rw [hy111]; with_reducible exact H2_) | (have H2_ := (Option.bind_some _ _).symm.trans H; with_reducible exact H2_) | with_reducible exact H | (rw [hy111]; exact H) | exact H
 have Ny111 := xA.mk hy111
 clear hy111
 have H' := xA.mk H
 clear H
 go_enter Try.func59, Try.ntmps59
 go_wp2_with (first | ((with_reducible refine xW (N := 12) rfl ?_); refine Kd.S_make (Kd.slice 3 (Kd.int .i64)) _ 26 rfl (N := 12) rfl 56 _ _ rfl (l0.length : Int) rfl rfl Try.underlying56 (.slice none 0 0) 24 info26 rfl (by decide) jj [] (ok := fun _ => True) (okp := fun _ => True) ⟨_, rfl, Kd.R_nil _ _ _ _ _⟩ (fun _ hk => hk) trivial (qr) (Nat.le_trans (Nat.mul_le_mul_right _ (qr : (l0.length : Int).toNat ≤ 11728124029610)) jj) (Below.refl _ _) (Nat.le_refl _) ?_; intro v112 w5 ho6 hb hg_ hnew_; clear hg_ hnew_; (first | rw [← Ny111.out] at ho6 | (simp only [Int.reduceToNat] at ho6; rw [← Ny111.out] at ho6)); have HO113 := xA.mk (Kd.S_lower ho6 (xD qa)); replace HB := xA.mk (xF qa hb); clear hb ho6))
 repeat (go_quiet (first | ((with_reducible refine xW (N := 12) rfl ?_); refine Kd.S_make (Kd.slice 3 (Kd.int .i64)) _ 26 rfl (N := 12) rfl 56 _ _ rfl (l0.length : Int) rfl rfl Try.underlying56 (.slice none 0 0) 24 info26 rfl (by decide) jj [] (ok := fun _ => True) (okp := fun _ => True) ⟨_, rfl, Kd.R_nil _ _ _ _ _⟩ (fun _ hk => hk) trivial (qr) (Nat.le_trans (Nat.mul_le_mul_right _ (qr : (l0.length : Int).toNat ≤ 11728124029610)) jj) (Below.refl _ _) (Nat.le_refl _) ?_; intro v112 w5 ho6 hb hg_ hnew_; clear hg_ hnew_; (first | rw [← Ny111.out] at ho6 | (simp only [Int.reduceToNat] at ho6; rw [← Ny111.out] at ho6)); have HO113 := xA.mk (Kd.S_lower ho6 (xD qa)); replace HB := xA.mk (xF qa hb); clear hb ho6)); try go_wp2_with (first | ((with_reducible refine xW (N := 12) rfl ?_); refine Kd.S_make (Kd.slice 3 (Kd.int .i64)) _ 26 rfl (N := 12) rfl 56 _ _ rfl (l0.length : Int) rfl rfl Try.underlying56 (.slice none 0 0) 24 info26 rfl (by decide) jj [] (ok := fun _ => True) (okp := fun _ => True) ⟨_, rfl, Kd.R_nil _ _ _ _ _⟩ (fun _ hk => hk) trivial (qr) (Nat.le_trans (Nat.mul_le_mul_right _ (qr : (l0.length : Int).toNat ≤ 11728124029610)) jj) (Below.refl _ _) (Nat.le_refl _) ?_; intro v112 w5 ho6 hb hg_ hnew_; clear hg_ hnew_; (first | rw [← Ny111.out] at ho6 | (simp only [Int.reduceToNat] at ho6; rw [← Ny111.out] at ho6)); have HO113 := xA.mk (Kd.S_lower ho6 (xD qa)); replace HB := xA.mk (xF qa hb); clear hb ho6)))
 go_loopg [15] k (fun kq v15 w' => ∃ (x5_1 : List (List Int)) (x15_1 : Int), v15 = .int .i64 x15_1 ∧ xA (lgtimes.l0 kq l0 l1 x5_1 (l0.length : Int) x15_1 = some r) ∧ xA (kq ≤ k) ∧ xA (Kd.S (Kd.slice 3 (Kd.int .i64)) 26 w' w.heap.size (fun _ => True) v112 x5_1) ∧ xA (Below w.heap.size w w'))
 case atStart => exact ⟨(y111), (0), qf, H', ⟨Nat.le_refl _⟩, ⟨qh HO113.out⟩, ⟨qa⟩⟩
 case round =>
  clear H'
  try clear c1
  try clear p2
  try clear c3
  try clear c3b0
  try clear c3b1
  try clear c4
  try clear c4b0
  try clear c4b1
  try clear c5
  obtain ⟨x5_1, x15_1, rfl, HA, HK1, HO_5, HB⟩ := hrel
  obtain _ | k1 := gk
  · exact absurd HA.out (by simp [lgtimes.l0])
  have H := HA.out
  clear HA
  simp only [lgtimes.l0] at H
  obtain ⟨c7b0, H⟩ | ⟨c7b0, H⟩ := itd_or H
  rotate_left
  ·
   obtain rfl := qx H
   go_wp2
   go_ret
   exact ⟨_, rfl, by exact HO_5.out, HB.out⟩
  obtain ⟨c8, H⟩ := ite_some H
  have c8b0 := eq_true c8
  have c8b1 : decide (0 ≤ (l0.length : Int)) = true := qu c8
  clear c8
  obtain ⟨c9, H⟩ := ite_some H
  have c9b0 := eq_true c9
  have c9b1 : decide (((l0.length : Int) : Int).toNat ≤ 35184372088832) = true := qu c9
  clear c9
  obtain ⟨y114, hy114⟩ : ∃ y_ : List Int, y_ = (List.replicate ((l0.length : Int) : Int).toNat 0) := ⟨_, rfl⟩
  replace H : (if 0 ≤ x15_1 then (if x15_1 < (x5_1.length : Int) then (lgtimes.l1 k1 l0 l1 (x5_1.set (x15_1 : Int).toNat y114) x15_1 (l0.length : Int) x15_1 (l0.length : Int) 0) else (none)) else (none)) = some r := by first | (rw [hy114]; with_reducible exact H) | (have H2_ := (Option.bind_some _ _).symm.trans H; rw [hy114]; with_reducible exact H2_) | (have H2_ := (Option.bind_some _ _).symm.trans H; with_reducible exact H2_) | with_reducible exact H | (rw [hy114]; exact H) | exact H
  have Ny114 := xA.mk hy114
  clear hy114
  obtain ⟨c10b0, H⟩ := xL H
  obtain ⟨c11b0, H⟩ := xL H
  obtain ⟨y117, hy117⟩ : ∃ y_ : List (List Int), y_ = (x5_1.set (x15_1 : Int).toNat y114) := ⟨_, rfl⟩
  replace H : (lgtimes.l1 k1 l0 l1 y117 x15_1 (l0.length : Int) x15_1 (l0.length : Int) 0) = some r := by first | (rw [hy117]; with_reducible exact H) | (have H2_ := (Option.bind_some _ _).symm.trans H; rw [hy117]; with_reducible exact H2_) | (have H2_ := (Option.bind_some _ _).symm.trans H; with_reducible exact H2_) | with_reducible exact H | (rw [hy117]; exact H) | exact H
  have Ny117 := xA.mk hy117
  clear hy117
  have H' := xA.mk H
  clear H
  go_wp2_with (first | ((with_reducible refine xW (N := 22) rfl ?_); refine Kd.R_make (Kd.int .i64) _ 3 rfl (N := 22) rfl 26 _ _ rfl (l0.length : Int) rfl rfl Try.underlying26 (.int .i64 0) 8 info3 rfl (by decide) jj 0 (ok := fun _ => True) (okp := fun _ => True) rfl (fun _ hk => hk) trivial (qr) (Nat.le_trans (Nat.mul_le_mul_right _ (qr : (l0.length : Int).toNat ≤ 35184372088832)) jj) (Below.refl _ _) (Nat.le_refl _) ?_; intro v115 w13 ho14 hb hg_ hnew_; clear hg_ hnew_; (first | rw [← Ny114.out] at ho14 | (simp only [Int.reduceToNat] at ho14; rw [← Ny114.out] at ho14)); replace HO_5 := xA.mk (Kd.S_elder' (qh HO_5.out) (Kd.R_base ho14) hb); have HO116 := xA.mk (Kd.R_lower ho14 (xD qa)); replace HB := xA.mk (xF qa hb); clear hb ho14; have p12 : 0 ≤ (x15_1 : Int) := qr; have q12 : (x15_1 : Int) < ((x5_1.length : Int) : Int) := qr; obtain ⟨go12, co12, eo12, gb12, gl12, cl12, HG12⟩ := Kd.S_form HO_5.out jj; (first | cases eo12 | (injection eo12 with ea_ en_ ec_; (first | subst ea_ | (injection ea_ with ea_; subst ea_)); subst ec_; clear en_)); have GB12 := xA.mk gb12; have GG12 := xA.mk HG12; clear gb12 gl12 HG12; obtain ⟨_, ce12, hcl12, hM12, hcc12, hfr12, _, _⟩ := Kd.S_elem HO_5.out [] (x15_1 : Int) p12 q12; obtain ⟨ve12_0, rfl, ge12_0⟩ := hM12; have hx12_0 := hcc12 0 _ rfl; have hf12_0 := hfr12 0; (try simp only [show ((Kd.slice 3 (Kd.int .i64))).sz = 1 from rfl, Nat.mul_one, Nat.add_zero] at hx12_0); (try simp only [show ((Kd.slice 3 (Kd.int .i64))).sz = 1 from rfl, Nat.mul_one, Nat.add_zero] at hf12_0); (try clear hM12); clear hcl12 hcc12 hfr12; replace p12 := eq_true p12; replace q12 := eq_true q12; have n_ := xA.mk (Kd.xQ (ok' := (fun k_ => some k_ ≠ (v115 : Value).ownBlock)) HO_5.out (fun k_ hk => hk.2)); clear HO_5; have HO_5 := n_; clear n_; have HX15 := xA.mk (show Kd.S (Kd.slice 3 (Kd.int .i64)) 26 w13 w.heap.size (fun k_ => ((fun _ => True)) k_ ∧ ¬ ((fun k_ => some k_ = (v115 : Value).ownBlock)) k_) (.slice (some ⟨go12, 0, none⟩) x5_1.length co12) x5_1 from (by (with_reducible repeat (first | apply Kd.S_alloc | apply Kd.yA | apply Kd.xV)); exact Kd.xQ HO_5.out (fun k_ hk => ⟨trivial, fun e_ => hk e_⟩))); obtain ⟨oki15, ce15, hcl15, hM15, hcc15, hfr15, hoki15, hH15⟩ := Kd.S_elem HX15.out [] (x15_1 : Int) (qr) (by have h_ : (x15_1 : Int) < ((x5_1.length : Int) : Int) := qr; first | exact h_ | (have e_ := (Kd.xJ HO_5.out).1; omega) | simpa using h_); obtain ⟨ve15_0, rfl, ge15_0⟩ := hM15; have HP15 := Kd.S_seg hH15 (qr) (by have h_ : (x15_1 : Int) < ((x5_1.length : Int) : Int) := qr; first | exact h_ | (have e_ := (Kd.xJ HO_5.out).1; omega) | simpa using h_) (seg := [v115]) (j := 0) (show 1 ≤ 1 from by decide) (x' := y114) (Kd.M_row (Kd.xZ (Kd.R_tight rfl (Kd.xZ (ok' := fun k_ => ((fun _ => True)) k_ ∧ k_ ≠ go12) (Kd.R_apart' (HO116.out) (Kd.S_typed HO_5.out) (by decide)) (fun k_ hk => ⟨trivial, fun e_ => (hk.2) (by rw [e_]; rfl)⟩))) (fun _ h_ => Or.inr (h_)))) (fun _ hk => hk) (fun k_ hk_ => ((Kd.xZ (ok' := fun k_ => ((fun _ => True)) k_ ∧ k_ ≠ go12) (Kd.R_apart' (HO116.out) (Kd.S_typed HO_5.out) (by decide)) (fun k_ hk => ⟨trivial, fun e_ => (hk.2) (by rw [e_]; rfl)⟩))).1 k_ hk_.symm); have hx15_0 := hcc15 0 _ rfl; (try simp only [show ((Kd.slice 3 (Kd.int .i64))).sz = 1 from rfl, Nat.mul_one, Nat.add_zero] at hx15_0); have hf15_0 := hfr15 0; (try simp only [show ((Kd.slice 3 (Kd.int .i64))).sz = 1 from rfl, Nat.mul_one, Nat.add_zero] at hf15_0); (try clear hM15); clear hcl15 hcc15 hfr15 hoki15 hH15; (try simp only [show ((Kd.slice 3 (Kd.int .i64))).sz = 1 from rfl, Nat.mul_one, Nat.add_zero] at HP15)) | ((with_reducible refine gate_store (t := 26) (p := 23) rfl ?_); (try (rw [drewN_self w13]; generalize hq_ : World.drewN w13 _ = w13; have n0_ := xA.mk (Kd.S_at hq_ HO_5.out); have n1_ := xA.mk (below_at hq_ HB.out); clear hq_ HO_5 HB; have HO_5 := n0_; have HB := n1_; clear n0_ n1_; (try (have n_ := xA.mk (Kd.xQ (ok' := (fun k_ => some k_ ≠ (v115 : Value).ownBlock)) HO_5.out (fun k_ hk => hk.2)); clear HO_5; have HO_5 := n_; clear n_)); (try (have HX15 := xA.mk (show Kd.S (Kd.slice 3 (Kd.int .i64)) 26 w13 w.heap.size (fun k_ => ((fun _ => True)) k_ ∧ ¬ ((fun k_ => some k_ = (v115 : Value).ownBlock)) k_) (.slice (some ⟨go12, 0, none⟩) x5_1.length co12) x5_1 from (by (with_reducible repeat (first | apply Kd.S_alloc | apply Kd.yA | apply Kd.xV)); exact Kd.xQ HO_5.out (fun k_ hk => ⟨trivial, fun e_ => hk e_⟩))))); (try (obtain ⟨oki15, ce15, hcl15, hM15, hcc15, hfr15, hoki15, hH15⟩ := Kd.S_elem HX15.out [] (x15_1 : Int) (qr) (by have h_ : (x15_1 : Int) < ((x5_1.length : Int) : Int) := qr; first | exact h_ | (have e_ := (Kd.xJ HO_5.out).1; omega) | simpa using h_))); (try (obtain ⟨ve15_0, rfl, ge15_0⟩ := hM15)); (try (have HP15 := Kd.S_seg hH15 (qr) (by have h_ : (x15_1 : Int) < ((x5_1.length : Int) : Int) := qr; first | exact h_ | (have e_ := (Kd.xJ HO_5.out).1; omega) | simpa using h_) (seg := [v115]) (j := 0) (show 1 ≤ 1 from by decide) (x' := y114) (Kd.M_row (Kd.xZ (Kd.R_tight rfl (Kd.xZ (ok' := fun k_ => ((fun _ => True)) k_ ∧ k_ ≠ go12) (Kd.R_apart' (HO116.out) (Kd.S_typed HO_5.out) (by decide)) (fun k_ hk => ⟨trivial, fun e_ => (hk.2) (by rw [e_]; rfl)⟩))) (fun _ h_ => Or.inr (h_)))) (fun _ hk => hk) (fun k_ hk_ => ((Kd.xZ (ok' := fun k_ => ((fun _ => True)) k_ ∧ k_ ≠ go12) (Kd.R_apart' (HO116.out) (Kd.S_typed HO_5.out) (by decide)) (fun k_ hk => ⟨trivial, fun e_ => (hk.2) (by rw [e_]; rfl)⟩))).1 k_ hk_.symm))); (try (have hx15_0 := hcc15 0 _ rfl)); (try (try simp only [show ((Kd.slice 3 (Kd.int .i64))).sz = 1 from rfl, Nat.mul_one, Nat.add_zero] at hx15_0)); (try (have hf15_0 := hfr15 0)); (try (try simp only [show ((Kd.slice 3 (Kd.int .i64))).sz = 1 from rfl, Nat.mul_one, Nat.add_zero] at hf15_0)); (try ((try clear hM15); clear hcl15 hcc15 hfr15 hoki15 hH15)); (try (try simp only [show ((Kd.slice 3 (Kd.int .i64))).sz = 1 from rfl, Nat.mul_one, Nat.add_zero] at HP15)))); refine store_event (t := 26) (p := 23) (v := ?vo_w16) (w1 := (w13.setCell ⟨go12, (x15_1 : Int).toNat, none⟩ (v115))) ?hg ?ho ?hn ?hr ?_; (case ho => rfl); (case hg => rfl); (case hn => rfl); (case hr => first | (go_simp; done) | (go_simp; rfl) | (obtain ⟨A_, c_, e_⟩ := Kd.R_slice (xA.out (by assumption : xA (Kd.R _ _ _ _ _ v115 _))); rw [e_]; go_simp; done) | (obtain ⟨A_, c_, e_⟩ := Kd.R_slice (xA.out (by assumption : xA (Kd.R _ _ _ _ _ v115 _))); rw [e_]; go_simp; rfl)); intro w16 hw; have hg : w13.grownBy w16 (some go12) := (by rw [hw]; exact HP15.2); have hp_ : Kd.S (Kd.slice 3 (Kd.int .i64)) 26 w16 w.heap.size (fun _ => True) (.slice (some ⟨go12, 0, none⟩) x5_1.length co12) y117 := (by rw [hw, Ny117.out]; exact HP15.1); clear HP15; have n0_ := xA.mk (hp_); have n1_ := xA.mk ((by rw [hw]; exact xM (HB.out) GB12.out : Below w.heap.size w w16)); clear HO_5; clear HB; clear HO116; have HO_5 := n0_; have HB := n1_; clear n0_ n1_; clear hg hw hp_))
  repeat (go_quiet (first | ((with_reducible refine xW (N := 22) rfl ?_); refine Kd.R_make (Kd.int .i64) _ 3 rfl (N := 22) rfl 26 _ _ rfl (l0.length : Int) rfl rfl Try.underlying26 (.int .i64 0) 8 info3 rfl (by decide) jj 0 (ok := fun _ => True) (okp := fun _ => True) rfl (fun _ hk => hk) trivial (qr) (Nat.le_trans (Nat.mul_le_mul_right _ (qr : (l0.length : Int).toNat ≤ 35184372088832)) jj) (Below.refl _ _) (Nat.le_refl _) ?_; intro v115 w13 ho14 hb hg_ hnew_; clear hg_ hnew_; (first | rw [← Ny114.out] at ho14 | (simp only [Int.reduceToNat] at ho14; rw [← Ny114.out] at ho14)); replace HO_5 := xA.mk (Kd.S_elder' (qh HO_5.out) (Kd.R_base ho14) hb); have HO116 := xA.mk (Kd.R_lower ho14 (xD qa)); replace HB := xA.mk (xF qa hb); clear hb ho14; have p12 : 0 ≤ (x15_1 : Int) := qr; have q12 : (x15_1 : Int) < ((x5_1.length : Int) : Int) := qr; obtain ⟨go12, co12, eo12, gb12, gl12, cl12, HG12⟩ := Kd.S_form HO_5.out jj; (first | cases eo12 | (injection eo12 with ea_ en_ ec_; (first | subst ea_ | (injection ea_ with ea_; subst ea_)); subst ec_; clear en_)); have GB12 := xA.mk gb12; have GG12 := xA.mk HG12; clear gb12 gl12 HG12; obtain ⟨_, ce12, hcl12, hM12, hcc12, hfr12, _, _⟩ := Kd.S_elem HO_5.out [] (x15_1 : Int) p12 q12; obtain ⟨ve12_0, rfl, ge12_0⟩ := hM12; have hx12_0 := hcc12 0 _ rfl; have hf12_0 := hfr12 0; (try simp only [show ((Kd.slice 3 (Kd.int .i64))).sz = 1 from rfl, Nat.mul_one, Nat.add_zero] at hx12_0); (try simp only [show ((Kd.slice 3 (Kd.int .i64))).sz = 1 from rfl, Nat.mul_one, Nat.add_zero] at hf12_0); (try clear hM12); clear hcl12 hcc12 hfr12; replace p12 := eq_true p12; replace q12 := eq_true q12; have n_ := xA.mk (Kd.xQ (ok' := (fun k_ => some k_ ≠ (v115 : Value).ownBlock)) HO_5.out (fun k_ hk => hk.2)); clear HO_5; have HO_5 := n_; clear n_; have HX15 := xA.mk (show Kd.S (Kd.slice 3 (Kd.int .i64)) 26 w13 w.heap.size (fun k_ => ((fun _ => True)) k_ ∧ ¬ ((fun k_ => some k_ = (v115 : Value).ownBlock)) k_) (.slice (some ⟨go12, 0, none⟩) x5_1.length co12) x5_1 from (by (with_reducible repeat (first | apply Kd.S_alloc | apply Kd.yA | apply Kd.xV)); exact Kd.xQ HO_5.out (fun k_ hk => ⟨trivial, fun e_ => hk e_⟩))); obtain ⟨oki15, ce15, hcl15, hM15, hcc15, hfr15, hoki15, hH15⟩ := Kd.S_elem HX15.out [] (x15_1 : Int) (qr) (by have h_ : (x15_1 : Int) < ((x5_1.length : Int) : Int) := qr; first | exact h_ | (have e_ := (Kd.xJ HO_5.out).1; omega) | simpa using h_); obtain ⟨ve15_0, rfl, ge15_0⟩ := hM15; have HP15 := Kd.S_seg hH15 (qr) (by have h_ : (x15_1 : Int) < ((x5_1.length : Int) : Int) := qr; first | exact h_ | (have e_ := (Kd.xJ HO_5.out).1; omega) | simpa using h_) (seg := [v115]) (j := 0) (show 1 ≤ 1 from by decide) (x' := y114) (Kd.M_row (Kd.xZ (Kd.R_tight rfl (Kd.xZ (ok' := fun k_ => ((fun _ => True)) k_ ∧ k_ ≠ go12) (Kd.R_apart' (HO116.out) (Kd.S_typed HO_5.out) (by decide)) (fun k_ hk => ⟨trivial, fun e_ => (hk.2) (by rw [e_]; rfl)⟩))) (fun _ h_ => Or.inr (h_)))) (fun _ hk => hk) (fun k_ hk_ => ((Kd.xZ (ok' := fun k_ => ((fun _ => True)) k_ ∧ k_ ≠ go12) (Kd.R_apart' (HO116.out) (Kd.S_typed HO_5.out) (by decide)) (fun k_ hk => ⟨trivial, fun e_ => (hk.2) (by rw [e_]; rfl)⟩))).1 k_ hk_.symm); have hx15_0 := hcc15 0 _ rfl; (try simp only [show ((Kd.slice 3 (Kd.int .i64))).sz = 1 from rfl, Nat.mul_one, Nat.add_zero] at hx15_0); have hf15_0 := hfr15 0; (try simp only [show ((Kd.slice 3 (Kd.int .i64))).sz = 1 from rfl, Nat.mul_one, Nat.add_zero] at hf15_0); (try clear hM15); clear hcl15 hcc15 hfr15 hoki15 hH15; (try simp only [show ((Kd.slice 3 (Kd.int .i64))).sz = 1 from rfl, Nat.mul_one, Nat.add_zero] at HP15)) | ((with_reducible refine gate_store (t := 26) (p := 23) rfl ?_); (try (rw [drewN_self w13]; generalize hq_ : World.drewN w13 _ = w13; have n0_ := xA.mk (Kd.S_at hq_ HO_5.out); have n1_ := xA.mk (below_at hq_ HB.out); clear hq_ HO_5 HB; have HO_5 := n0_; have HB := n1_; clear n0_ n1_; (try (have n_ := xA.mk (Kd.xQ (ok' := (fun k_ => some k_ ≠ (v115 : Value).ownBlock)) HO_5.out (fun k_ hk => hk.2)); clear HO_5; have HO_5 := n_; clear n_)); (try (have HX15 := xA.mk (show Kd.S (Kd.slice 3 (Kd.int .i64)) 26 w13 w.heap.size (fun k_ => ((fun _ => True)) k_ ∧ ¬ ((fun k_ => some k_ = (v115 : Value).ownBlock)) k_) (.slice (some ⟨go12, 0, none⟩) x5_1.length co12) x5_1 from (by (with_reducible repeat (first | apply Kd.S_alloc | apply Kd.yA | apply Kd.xV)); exact Kd.xQ HO_5.out (fun k_ hk => ⟨trivial, fun e_ => hk e_⟩))))); (try (obtain ⟨oki15, ce15, hcl15, hM15, hcc15, hfr15, hoki15, hH15⟩ := Kd.S_elem HX15.out [] (x15_1 : Int) (qr) (by have h_ : (x15_1 : Int) < ((x5_1.length : Int) : Int) := qr; first | exact h_ | (have e_ := (Kd.xJ HO_5.out).1; omega) | simpa using h_))); (try (obtain ⟨ve15_0, rfl, ge15_0⟩ := hM15)); (try (have HP15 := Kd.S_seg hH15 (qr) (by have h_ : (x15_1 : Int) < ((x5_1.length : Int) : Int) := qr; first | exact h_ | (have e_ := (Kd.xJ HO_5.out).1; omega) | simpa using h_) (seg := [v115]) (j := 0) (show 1 ≤ 1 from by decide) (x' := y114) (Kd.M_row (Kd.xZ (Kd.R_tight rfl (Kd.xZ (ok' := fun k_ => ((fun _ => True)) k_ ∧ k_ ≠ go12) (Kd.R_apart' (HO116.out) (Kd.S_typed HO_5.out) (by decide)) (fun k_ hk => ⟨trivial, fun e_ => (hk.2) (by rw [e_]; rfl)⟩))) (fun _ h_ => Or.inr (h_)))) (fun _ hk => hk) (fun k_ hk_ => ((Kd.xZ (ok' := fun k_ => ((fun _ => True)) k_ ∧ k_ ≠ go12) (Kd.R_apart' (HO116.out) (Kd.S_typed HO_5.out) (by decide)) (fun k_ hk => ⟨trivial, fun e_ => (hk.2) (by rw [e_]; rfl)⟩))).1 k_ hk_.symm))); (try (have hx15_0 := hcc15 0 _ rfl)); (try (try simp only [show ((Kd.slice 3 (Kd.int .i64))).sz = 1 from rfl, Nat.mul_one, Nat.add_zero] at hx15_0)); (try (have hf15_0 := hfr15 0)); (try (try simp only [show ((Kd.slice 3 (Kd.int .i64))).sz = 1 from rfl, Nat.mul_one, Nat.add_zero] at hf15_0)); (try ((try clear hM15); clear hcl15 hcc15 hfr15 hoki15 hH15)); (try (try simp only [show ((Kd.slice 3 (Kd.int .i64))).sz = 1 from rfl, Nat.mul_one, Nat.add_zero] at HP15)))); refine store_event (t := 26) (p := 23) (v := ?vo_w16) (w1 := (w13.setCell ⟨go12, (x15_1 : Int).toNat, none⟩ (v115))) ?hg ?ho ?hn ?hr ?_; (case ho => rfl); (case hg => rfl); (case hn => rfl); (case hr => first | (go_simp; done) | (go_simp; rfl) | (obtain ⟨A_, c_, e_⟩ := Kd.R_slice (xA.out (by assumption : xA (Kd.R _ _ _ _ _ v115 _))); rw [e_]; go_simp; done) | (obtain ⟨A_, c_, e_⟩ := Kd.R_slice (xA.out (by assumption : xA (Kd.R _ _ _ _ _ v115 _))); rw [e_]; go_simp; rfl)); intro w16 hw; have hg : w13.grownBy w16 (some go12) := (by rw [hw]; exact HP15.2); have hp_ : Kd.S (Kd.slice 3 (Kd.int .i64)) 26 w16 w.heap.size (fun _ => True) (.slice (some ⟨go12, 0, none⟩) x5_1.length co12) y117 := (by rw [hw, Ny117.out]; exact HP15.1); clear HP15; have n0_ := xA.mk (hp_); have n1_ := xA.mk ((by rw [hw]; exact xM (HB.out) GB12.out : Below w.heap.size w w16)); clear HO_5; clear HB; clear HO116; have HO_5 := n0_; have HB := n1_; clear n0_ n1_; clear hg hw hp_)); try go_wp2_with (first | ((with_reducible refine xW (N := 22) rfl ?_); refine Kd.R_make (Kd.int .i64) _ 3 rfl (N := 22) rfl 26 _ _ rfl (l0.length : Int) rfl rfl Try.underlying26 (.int .i64 0) 8 info3 rfl (by decide) jj 0 (ok := fun _ => True) (okp := fun _ => True) rfl (fun _ hk => hk) trivial (qr) (Nat.le_trans (Nat.mul_le_mul_right _ (qr : (l0.length : Int).toNat ≤ 35184372088832)) jj) (Below.refl _ _) (Nat.le_refl _) ?_; intro v115 w13 ho14 hb hg_ hnew_; clear hg_ hnew_; (first | rw [← Ny114.out] at ho14 | (simp only [Int.reduceToNat] at ho14; rw [← Ny114.out] at ho14)); replace HO_5 := xA.mk (Kd.S_elder' (qh HO_5.out) (Kd.R_base ho14) hb); have HO116 := xA.mk (Kd.R_lower ho14 (xD qa)); replace HB := xA.mk (xF qa hb); clear hb ho14; have p12 : 0 ≤ (x15_1 : Int) := qr; have q12 : (x15_1 : Int) < ((x5_1.length : Int) : Int) := qr; obtain ⟨go12, co12, eo12, gb12, gl12, cl12, HG12⟩ := Kd.S_form HO_5.out jj; (first | cases eo12 | (injection eo12 with ea_ en_ ec_; (first | subst ea_ | (injection ea_ with ea_; subst ea_)); subst ec_; clear en_)); have GB12 := xA.mk gb12; have GG12 := xA.mk HG12; clear gb12 gl12 HG12; obtain ⟨_, ce12, hcl12, hM12, hcc12, hfr12, _, _⟩ := Kd.S_elem HO_5.out [] (x15_1 : Int) p12 q12; obtain ⟨ve12_0, rfl, ge12_0⟩ := hM12; have hx12_0 := hcc12 0 _ rfl; have hf12_0 := hfr12 0; (try simp only [show ((Kd.slice 3 (Kd.int .i64))).sz = 1 from rfl, Nat.mul_one, Nat.add_zero] at hx12_0); (try simp only [show ((Kd.slice 3 (Kd.int .i64))).sz = 1 from rfl, Nat.mul_one, Nat.add_zero] at hf12_0); (try clear hM12); clear hcl12 hcc12 hfr12; replace p12 := eq_true p12; replace q12 := eq_true q12; have n_ := xA.mk (Kd.xQ (ok' := (fun k_ => some k_ ≠ (v115 : Value).ownBlock)) HO_5.out (fun k_ hk => hk.2)); clear HO_5; have HO_5 := n_; clear n_; have HX15 := xA.mk (show Kd.S (Kd.slice 3 (Kd.int .i64)) 26 w13 w.heap.size (fun k_ => ((fun _ => True)) k_ ∧ ¬ ((fun k_ => some k_ = (v115 : Value).ownBlock)) k_) (.slice (some ⟨go12, 0, none⟩) x5_1.length co12) x5_1 from (by (with_reducible repeat (first | apply Kd.S_alloc | apply Kd.yA | apply Kd.xV)); exact Kd.xQ HO_5.out (fun k_ hk => ⟨trivial, fun e_ => hk e_⟩))); obtain ⟨oki15, ce15, hcl15, hM15, hcc15, hfr15, hoki15, hH15⟩ := Kd.S_elem HX15.out [] (x15_1 : Int) (qr) (by have h_ : (x15_1 : Int) < ((x5_1.length : Int) : Int) := qr; first | exact h_ | (have e_ := (Kd.xJ HO_5.out).1; omega) | simpa using h_); obtain ⟨ve15_0, rfl, ge15_0⟩ := hM15; have HP15 := Kd.S_seg hH15 (qr) (by have h_ : (x15_1 : Int) < ((x5_1.length : Int) : Int) := qr; first | exact h_ | (have e_ := (Kd.xJ HO_5.out).1; omega) | simpa using h_) (seg := [v115]) (j := 0) (show 1 ≤ 1 from by decide) (x' := y114) (Kd.M_row (Kd.xZ (Kd.R_tight rfl (Kd.xZ (ok' := fun k_ => ((fun _ => True)) k_ ∧ k_ ≠ go12) (Kd.R_apart' (HO116.out) (Kd.S_typed HO_5.out) (by decide)) (fun k_ hk => ⟨trivial, fun e_ => (hk.2) (by rw [e_]; rfl)⟩))) (fun _ h_ => Or.inr (h_)))) (fun _ hk => hk) (fun k_ hk_ => ((Kd.xZ (ok' := fun k_ => ((fun _ => True)) k_ ∧ k_ ≠ go12) (Kd.R_apart' (HO116.out) (Kd.S_typed HO_5.out) (by decide)) (fun k_ hk => ⟨trivial, fun e_ => (hk.2) (by rw [e_]; rfl)⟩))).1 k_ hk_.symm); have hx15_0 := hcc15 0 _ rfl; (try simp only [show ((Kd.slice 3 (Kd.int .i64))).sz = 1 from rfl, Nat.mul_one, Nat.add_zero] at hx15_0); have hf15_0 := hfr15 0; (try simp only [show ((Kd.slice 3 (Kd.int .i64))).sz = 1 from rfl, Nat.mul_one, Nat.add_zero] at hf15_0); (try clear hM15); clear hcl15 hcc15 hfr15 hoki15 hH15; (try simp only [show ((Kd.slice 3 (Kd.int .i64))).sz = 1 from rfl, Nat.mul_one, Nat.add_zero] at HP15)) | ((with_reducible refine gate_store (t := 26) (p := 23) rfl ?_); (try (rw [drewN_self w13]; generalize hq_ : World.drewN w13 _ = w13; have n0_ := xA.mk (Kd.S_at hq_ HO_5.out); have n1_ := xA.mk (below_at hq_ HB.out); clear hq_ HO_5 HB; have HO_5 := n0_; have HB := n1_; clear n0_ n1_; (try (have n_ := xA.mk (Kd.xQ (ok' := (fun k_ => some k_ ≠ (v115 : Value).ownBlock)) HO_5.out (fun k_ hk => hk.2)); clear HO_5; have HO_5 := n_; clear n_)); (try (have HX15 := xA.mk (show Kd.S (Kd.slice 3 (Kd.int .i64)) 26 w13 w.heap.size (fun k_ => ((fun _ => True)) k_ ∧ ¬ ((fun k_ => some k_ = (v115 : Value).ownBlock)) k_) (.slice (some ⟨go12, 0, none⟩) x5_1.length co12) x5_1 from (by (with_reducible repeat (first | apply Kd.S_alloc | apply Kd.yA | apply Kd.xV)); exact Kd.xQ HO_5.out (fun k_ hk => ⟨trivial, fun e_ => hk e_⟩))))); (try (obtain ⟨oki15, ce15, hcl15, hM15, hcc15, hfr15, hoki15, hH15⟩ := Kd.S_elem HX15.out [] (x15_1 : Int) (qr) (by have h_ : (x15_1 : Int) < ((x5_1.length : Int) : Int) := qr; first | exact h_ | (have e_ := (Kd.xJ HO_5.out).1; omega) | simpa using h_))); (try (obtain ⟨ve15_0, rfl, ge15_0⟩ := hM15)); (try (have HP15 := Kd.S_seg hH15 (qr) (by have h_ : (x15_1 : Int) < ((x5_1.length : Int) : Int) := qr; first | exact h_ | (have e_ := (Kd.xJ HO_5.out).1; omega) | simpa using h_) (seg := [v115]) (j := 0) (show 1 ≤ 1 from by decide) (x' := y114) (Kd.M_row (Kd.xZ (Kd.R_tight rfl (Kd.xZ (ok' := fun k_ => ((fun _ => True)) k_ ∧ k_ ≠ go12) (Kd.R_apart' (HO116.out) (Kd.S_typed HO_5.out) (by decide)) (fun k_ hk => ⟨trivial, fun e_ => (hk.2) (by rw [e_]; rfl)⟩))) (fun _ h_ => Or.inr (h_)))) (fun _ hk => hk) (fun k_ hk_ => ((Kd.xZ (ok' := fun k_ => ((fun _ => True)) k_ ∧ k_ ≠ go12) (Kd.R_apart' (HO116.out) (Kd.S_typed HO_5.out) (by decide)) (fun k_ hk => ⟨trivial, fun e_ => (hk.2) (by rw [e_]; rfl)⟩))).1 k_ hk_.symm))); (try (have hx15_0 := hcc15 0 _ rfl)); (try (try simp only [show ((Kd.slice 3 (Kd.int .i64))).sz = 1 from rfl, Nat.mul_one, Nat.add_zero] at hx15_0)); (try (have hf15_0 := hfr15 0)); (try (try simp only [show ((Kd.slice 3 (Kd.int .i64))).sz = 1 from rfl, Nat.mul_one, Nat.add_zero] at hf15_0)); (try ((try clear hM15); clear hcl15 hcc15 hfr15 hoki15 hH15)); (try (try simp only [show ((Kd.slice 3 (Kd.int .i64))).sz = 1 from rfl, Nat.mul_one, Nat.add_zero] at HP15)))); refine store_event (t := 26) (p := 23) (v := ?vo_w16) (w1 := (w13.setCell ⟨go12, (x15_1 : Int).toNat, none⟩ (v115))) ?hg ?ho ?hn ?hr ?_; (case ho => rfl); (case hg => rfl); (case hn => rfl); (case hr => first | (go_simp; done) | (go_simp; rfl) | (obtain ⟨A_, c_, e_⟩ := Kd.R_slice (xA.out (by assumption : xA (Kd.R _ _ _ _ _ v115 _))); rw [e_]; go_simp; done) | (obtain ⟨A_, c_, e_⟩ := Kd.R_slice (xA.out (by assumption : xA (Kd.R _ _ _ _ _ v115 _))); rw [e_]; go_simp; rfl)); intro w16 hw; have hg : w13.grownBy w16 (some go12) := (by rw [hw]; exact HP15.2); have hp_ : Kd.S (Kd.slice 3 (Kd.int .i64)) 26 w16 w.heap.size (fun _ => True) (.slice (some ⟨go12, 0, none⟩) x5_1.length co12) y117 := (by rw [hw, Ny117.out]; exact HP15.1); clear HP15; have n0_ := xA.mk (hp_); have n1_ := xA.mk ((by rw [hw]; exact xM (HB.out) GB12.out : Below w.heap.size w w16)); clear HO_5; clear HB; clear HO116; have HO_5 := n0_; have HB := n1_; clear n0_ n1_; clear hg hw hp_)))
  go_loopg [26] k1 (fun kq v26 w' => ∃ (x5_2 : List (List Int)) (x26_2 : Int), v26 = .int .i64 x26_2 ∧ xA (lgtimes.l1 kq l0 l1 x5_2 x15_1 (l0.length : Int) x15_1 (l0.length : Int) x26_2 = some r) ∧ xA (kq ≤ k1) ∧ xA (Kd.S (Kd.slice 3 (Kd.int .i64)) 26 w' w.heap.size (fun _ => True) (.slice (some ⟨go12, 0, none⟩) x5_1.length co12) x5_2) ∧ xA (Below w.heap.size w w'))
  case atStart => exact ⟨(y117), (0), qf, H', ⟨Nat.le_refl _⟩, ⟨qh HO_5.out⟩, ⟨qa⟩⟩
  case round =>
   clear H'
   try clear c1
   try clear p1
   try clear q1
   try clear hx1
   try clear p2
   try clear c3
   try clear c3b0
   try clear c3b1
   obtain ⟨x5_2, x26_2, rfl, HA, HK2, HO_5, HB⟩ := hrel
   have hl5_2 := (Kd.xJ HO_5.out).1
   rw [hl5_2] at HO_5
   obtain _ | k2 := gk
   · exact absurd HA.out (by simp [lgtimes.l1])
   have H := HA.out
   clear HA
   simp only [lgtimes.l1] at H
   obtain ⟨c17b0, H⟩ | ⟨c17b0, H⟩ := itd_or H
   rotate_left
   ·
    have H' := xA.mk H
    clear H
    go_wp2
    go_roundg k2
    case measure => have := HK1.out; have := HK2.out; omega
    case rel => exact ⟨(x5_2), (wrap64 (x15_1 + 1)), rfl, H', ⟨by have := HK1.out; have := HK2.out; omega⟩, ⟨by (try simp only [hl5_2]); exact HO_5.out⟩, ⟨HB.out⟩⟩
   replace H := qw H
   obtain ⟨t118, A180, H⟩ := H
   replace H : (lgtimes.l2 k2 l0 l1 x5_2 x15_1 x26_2 t118 (l0.length : Int) x15_1 (l0.length : Int) x26_2 (l0.length : Int) 0) = some r := H
   have A18 := xA.mk A180
   clear A180
   have H' := xA.mk H
   clear H
   go_wp2_with (first | (go_at_call 83; (with_reducible refine (line_never_int.calls  t118 _ A18.out).mono ?_); rintro e w' ⟨rfl, ⟨nd, rfl⟩⟩; (try exact qp)))
   go_loopg [8, 32] k2 (fun kq v8 v32 w' => ∃ (x8_3 : Int) (x32_3 : Int), v8 = .int .i64 x8_3 ∧ v32 = .int .i64 x32_3 ∧ xA (lgtimes.l2 kq l0 l1 x5_2 x15_1 x26_2 x8_3 (l0.length : Int) x15_1 (l0.length : Int) x26_2 (l0.length : Int) x32_3 = some r) ∧ xA (kq ≤ k2) ∧ xA (Kd.S (Kd.slice 3 (Kd.int .i64)) 26 w' w.heap.size (fun _ => True) (.slice (some ⟨go12, 0, none⟩) x5_2.length co12) x5_2) ∧ xA (Below w.heap.size w w'))
   case atStart => exact ⟨(t118), (0), rfl, rfl, H', ⟨Nat.le_refl _⟩, ⟨by (try simp only [hl5_2]); exact HO_5.out⟩, ⟨qb⟩⟩
   case round =>
    clear H'
    obtain ⟨x8_3, x32_3, rfl, rfl, HA, HK3, HO_5, HB⟩ := hrel
    obtain _ | k3 := gk
    · exact absurd HA.out (by simp [lgtimes.l2])
    have H := HA.out
    clear HA
    simp only [lgtimes.l2] at H
    obtain ⟨c19b0, H⟩ | ⟨c19b0, H⟩ := itd_or H
    ·
     obtain ⟨c20b0, H⟩ := xL H
     obtain ⟨c21b0, H⟩ := xL H
     obtain ⟨c22b0, H⟩ := xL H
     obtain ⟨c23b0, H⟩ := xL H
     obtain ⟨c24b0, H⟩ := xL H
     obtain ⟨c25b0, H⟩ := xL H
     obtain ⟨c26b0, H⟩ := xL H
     replace H := qw H
     obtain ⟨t123, A270, H⟩ := H
     replace H : (lgtimes.l2 k3 l0 l1 x5_2 x15_1 x26_2 (mx x8_3 t123) (l0.length : Int) x15_1 (l0.length : Int) x26_2 (l0.length : Int) (wrap64 (x32_3 + 1))) = some r := H
     have A27 := xA.mk A270
     clear A270
     obtain ⟨ji28, hji28⟩ : ∃ j_ : Int, (mx x8_3 t123) = j_ := ⟨_, rfl⟩
     replace H : (lgtimes.l2 k3 l0 l1 x5_2 x15_1 x26_2 ji28 (l0.length : Int) x15_1 (l0.length : Int) x26_2 (l0.length : Int) (wrap64 (x32_3 + 1))) = some r := by first | (rw [hji28] at H; exact H) | (simp only [hji28] at H ⊢; exact H)
     (try rw [hji28] at A27)
     have hji28_ : (if x8_3 < t123 then t123 else x8_3) = ji28 := hji28
     have H' := xA.mk H
     clear H
     have p119 : 0 ≤ (x15_1 : Int) := qq
     have q119 : x15_1 < (l0.length : Int) := qq
     obtain ⟨ad119, A119_0, c119_0, e119, hx119_0, hl119_0, hi119_0⟩ := at_L1 HR0.out x15_1 p119 q119
     cases e119
     replace hx119_0 := (HB.out.cell (World.block_lt_of_cell? w _ hx119_0)).trans hx119_0
     have HR119_0 := xA.mk hi119_0
     have HC119_0 := xA.mk hl119_0
     clear hi119_0 hl119_0
     replace p119 := eq_true p119
     replace q119 := eq_true q119
     have p120 : 0 ≤ (x32_3 : Int) := qq
     have q120 : x32_3 < ((rd_L1 l0 x15_1).length : Int) := qq
     obtain ⟨ad120, e120, hx120_0⟩ := Kd.xU HR119_0.out x32_3 p120 q120
     cases e120
     replace hx120_0 := (HB.out.cell (World.block_lt_of_cell? w _ hx120_0)).trans hx120_0
     replace p120 := eq_true p120
     replace q120 := eq_true q120
     have p121 : 0 ≤ (x32_3 : Int) := qq
     have q121 : x32_3 < (l1.length : Int) := qq
     obtain ⟨ad121, A121_0, c121_0, e121, hx121_0, hl121_0, hi121_0⟩ := at_L1 HR1.out x32_3 p121 q121
     cases e121
     replace hx121_0 := (HB.out.cell (World.block_lt_of_cell? w _ hx121_0)).trans hx121_0
     have HR121_0 := xA.mk hi121_0
     have HC121_0 := xA.mk hl121_0
     clear hi121_0 hl121_0
     replace p121 := eq_true p121
     replace q121 := eq_true q121
     have p122 : 0 ≤ (x26_2 : Int) := qq
     have q122 : x26_2 < ((rd_L1 l1 x32_3).length : Int) := qq
     obtain ⟨ad122, e122, hx122_0⟩ := Kd.xU HR121_0.out x26_2 p122 q122
     cases e122
     replace hx122_0 := (HB.out.cell (World.block_lt_of_cell? w _ hx122_0)).trans hx122_0
     replace p122 := eq_true p122
     replace q122 := eq_true q122
     go_wp2_with (first | (go_at_call 91; (with_reducible refine (line_both_int.calls (rd (rd_L1 l0 x15_1) x32_3) (rd (rd_L1 l1 x32_3) x26_2) t123 _ A27.out).mono ?_); rintro e w' ⟨rfl, ⟨nd, rfl⟩⟩; (try exact qp)))
     repeat (go_quiet (first | (go_at_call 91; (with_reducible refine (line_both_int.calls (rd (rd_L1 l0 x15_1) x32_3) (rd (rd_L1 l1 x32_3) x26_2) t123 _ A27.out).mono ?_); rintro e w' ⟨rfl, ⟨nd, rfl⟩⟩; (try exact qp))); try go_wp2_with (first | (go_at_call 91; (with_reducible refine (line_both_int.calls (rd (rd_L1 l0 x15_1) x32_3) (rd (rd_L1 l1 x32_3) x26_2) t123 _ A27.out).mono ?_); rintro e w' ⟨rfl, ⟨nd, rfl⟩⟩; (try exact qp))))
     go_roundg k3
     case measure => have := HK1.out; have := HK2.out; have := HK3.out; omega
     case rel => exact ⟨(ji28), (wrap64 (x32_3 + 1)), (by first | rfl | (simp; done) | (simp only [← hji28] <;> (first | rfl | simp)) | (simp [*]; done)), rfl, H', ⟨by have := HK1.out; have := HK2.out; have := HK3.out; omega⟩, ⟨by (try simp only [hl5_2]); exact HO_5.out⟩, ⟨qb⟩⟩
    obtain ⟨c29b0, H⟩ := xL H
    obtain ⟨c30b0, H⟩ := xL H
    obtain ⟨c31b0, H⟩ := xL H
    obtain ⟨c32b0, H⟩ := xL H
    obtain ⟨y125, hy125⟩ : ∃ y_ : List Int, y_ = ((rd_L1 x5_2 x15_1).set (x26_2 : Int).toNat x8_3) := ⟨_, rfl⟩
    replace H : (lgtimes.l1 k3 l0 l1 (x5_2.set (x15_1 : Int).toNat y125) x15_1 (l0.length : Int) x15_1 (l0.length : Int) (wrap64 (x26_2 + 1))) = some r := by rw [hy125]; exact H
    have Ny125 := xA.mk hy125
    clear hy125
    obtain ⟨y127, hy127⟩ : ∃ y_ : List (List Int), y_ = (x5_2.set (x15_1 : Int).toNat y125) := ⟨_, rfl⟩
    replace H : (lgtimes.l1 k3 l0 l1 y127 x15_1 (l0.length : Int) x15_1 (l0.length : Int) (wrap64 (x26_2 + 1))) = some r := by rw [hy127]; exact H
    have Ny127 := xA.mk hy127
    clear hy127
    have H' := xA.mk H
    clear H
    have p124 : 0 ≤ (x15_1 : Int) := qq
    have q124 : x15_1 < (x5_2.length : Int) := qq
    obtain ⟨ad124, A124_0, c124_0, e124, hx124_0, hl124_0, hi124_0⟩ := at_L1 (Kd.xJ HO_5.out).2.2 x15_1 p124 q124
    obtain rfl : (⟨go12, 0, none⟩ : Addr) = ad124 := (by injection e124)
    obtain ⟨ce124, hce124, hMe124, hcc124⟩ := Kd.S_get HO_5.out [] x15_1 p124 (by first | exact q124 | exact qq | (have e_ := (Kd.xJ HO_5.out).1; omega))
    obtain ⟨ve124_0, rfl, ge124_0⟩ := hMe124
    have hv124_0 := hcc124 0 _ rfl
    rw [Nat.add_zero, show ((Kd.slice 3 (Kd.int .i64))).sz = 1 from rfl, Nat.mul_one] at hv124_0
    replace hv124_0 := qx (hv124_0.symm.trans hx124_0)
    rw [hv124_0] at ge124_0
    have HL124_0 := xA.mk (show Kd.R (Kd.int .i64) 3 _ _ _ _ (rd_L1 x5_2 x15_1) from ge124_0)
    clear hv124_0 ge124_0
    have HX124_0 := xA.mk hx124_0
    clear hcc124 hce124
    (first | simp only [add_plain] at hx124_0 | simp only [add_at] at hx124_0 | simp only [Addr.add, Nat.zero_add] at hx124_0 | skip)
    have HR124_0 := xA.mk hi124_0
    have HC124_0 := xA.mk hl124_0
    clear hi124_0 hl124_0
    replace p124 := eq_true p124
    replace q124 := eq_true q124
    have p33 : 0 ≤ (x26_2 : Int) := qq
    have q33 : (x26_2 : Int) < (((rd_L1 x5_2 x15_1).length : Int) : Int) := qq
    obtain ⟨go33, co33, eo33, gb33, gl33, cl33, HG33⟩ := Kd.R_form HL124_0.out jj
    (first | cases eo33 | (injection eo33 with ea_ en_ ec_; (first | subst ea_ | (injection ea_ with ea_; subst ea_)); subst ec_; clear en_))
    have GB33 := xA.mk gb33
    have GG33 := xA.mk HG33
    clear gb33 gl33 HG33
    obtain ⟨hx33_0, hf33_0⟩ := Kd.R_celln 0 HL124_0.out (x26_2 : Int) p33 q33
    replace p33 := eq_true p33
    replace q33 := eq_true q33
    have hq34 : (x15_1 : Int) < (x5_2.length : Int) := (by have h_ : (x15_1 : Int) < ((x5_2.length : Int) : Int) := qq; first | exact h_ | (have e_ := (Kd.xJ HO_5.out).1; omega) | simpa only [List.length_set, List.length_set] using h_)
    obtain ⟨oki34, ce34, hcl34, hM34, hcc34, hok34, hbk34⟩ := Kd.S_borrow HO_5.out [] (x15_1 : Int) (qq) hq34
    obtain ⟨ve34_0, rfl, ge34_0⟩ := hM34
    have hv34 := hcc34 0 _ rfl
    rw [Nat.add_zero, show ((Kd.slice 3 (Kd.int .i64))).sz = 1 from rfl, Nat.mul_one] at hv34
    replace hv34 := qx (hv34.symm.trans HX124_0.out)
    subst hv34
    clear hcc34 hcl34
    replace ge34_0 := (show Kd.R (Kd.int .i64) 3 _ _ _ _ (rd_L1 x5_2 x15_1) from ge34_0)
    have HP34 := Kd.R_putg ge34_0 (x26_2 : Int) x8_3
    go_wp2_with (first | ((with_reducible refine gate_store (t := 3) (p := 59) rfl ?_); (try (rw [drewN_self wr]; generalize hq_ : World.drewN wr _ = wr; have n0_ := xA.mk (Kd.S_at hq_ HO_5.out); have n1_ := xA.mk (Kd.R_at hq_ HL128.out); have n2_ := xA.mk (below_at hq_ HB.out); clear hq_ HO_5 HL128 HB; have HO_5 := n0_; have HL128 := n1_; have HB := n2_; clear n0_ n1_ n2_; (try (have hq34 : (x15_1 : Int) < (x5_2.length : Int) := (by have h_ : (x15_1 : Int) < ((x5_2.length : Int) : Int) := qq; first | exact h_ | (have e_ := (Kd.xJ HO_5.out).1; omega) | simpa only [List.length_set, List.length_set] using h_))); (try (obtain ⟨oki34, ce34, hcl34, hM34, hcc34, hok34, hbk34⟩ := Kd.S_borrow HO_5.out [] (x15_1 : Int) (qq) hq34)); (try (obtain ⟨ve34_0, rfl, ge34_0⟩ := hM34)); (try (have hv34 := hcc34 0 _ rfl)); (try (rw [Nat.add_zero, show ((Kd.slice 3 (Kd.int .i64))).sz = 1 from rfl, Nat.mul_one] at hv34)); (try (replace hv34 := qx (hv34.symm.trans HX124_0.out))); (try (subst hv34)); (try (clear hcc34 hcl34)); (try (replace ge34_0 := (show Kd.R (Kd.int .i64) 3 _ _ _ _ (rd_L1 x5_2 x15_1) from ge34_0))); (try (have HP34 := Kd.R_putg ge34_0 (x26_2 : Int) x8_3)))); refine store_event (t := 3) (p := 59) (v := ?vo_w35) (w1 := (wr.setCell ⟨go33, (x26_2 : Int).toNat, none⟩ (.int .i64 x8_3))) ?hg ?ho ?hn ?hr ?_; (case ho => rfl); (case hg => rfl); (case hn => rfl); (case hr => go_simp); intro w35 hw; have hg : wr.grownBy w35 (some go33) := (by rw [hw]; exact HP34.2); have hz_ : Kd.R (Kd.int .i64) 3 w35 w.heap.size oki34 (.slice (some ⟨go33, 0, none⟩) (rd_L1 x5_2 x15_1).length c124_0) y125 := (by rw [hw, Ny125.out]; exact HP34.1); have hp_ : Kd.S (Kd.slice 3 (Kd.int .i64)) 26 w35 w.heap.size (fun _ => True) (.slice (some ⟨go12, 0, none⟩) x5_2.length co12) y127 := (by rw [Ny127.out]; exact hbk34 hg (fun k_ e_ => by injection e_ with e_; subst e_; exact ge34_0.1 _ rfl) (Kd.M_row hz_)); have hm_ := Kd.xZ hz_ hok34; clear HP34 hbk34; have n0_ := xA.mk (hp_); have n1_ := xA.mk ((by rw [hw]; exact xM (HB.out) GB33.out : Below w.heap.size w w35)); have n2_ := xA.mk (hm_); have n3_ := xA.mk ((Kd.yE hm_).2.1); clear HO_5; clear HB; clear HL124_0; have HO_5 := n0_; have HB := n1_; have HL128 := n2_; have HC126 := n3_; clear n0_ n1_ n2_ n3_; clear hg hw hp_ hz_ hm_ hok34))
    repeat (go_quiet (first | ((with_reducible refine gate_store (t := 3) (p := 59) rfl ?_); (try (rw [drewN_self wr]; generalize hq_ : World.drewN wr _ = wr; have n0_ := xA.mk (Kd.S_at hq_ HO_5.out); have n1_ := xA.mk (Kd.R_at hq_ HL128.out); have n2_ := xA.mk (below_at hq_ HB.out); clear hq_ HO_5 HL128 HB; have HO_5 := n0_; have HL128 := n1_; have HB := n2_; clear n0_ n1_ n2_; (try (have hq34 : (x15_1 : Int) < (x5_2.length : Int) := (by have h_ : (x15_1 : Int) < ((x5_2.length : Int) : Int) := qq; first | exact h_ | (have e_ := (Kd.xJ HO_5.out).1; omega) | simpa only [List.length_set, List.length_set] using h_))); (try (obtain ⟨oki34, ce34, hcl34, hM34, hcc34, hok34, hbk34⟩ := Kd.S_borrow HO_5.out [] (x15_1 : Int) (qq) hq34)); (try (obtain ⟨ve34_0, rfl, ge34_0⟩ := hM34)); (try (have hv34 := hcc34 0 _ rfl)); (try (rw [Nat.add_zero, show ((Kd.slice 3 (Kd.int .i64))).sz = 1 from rfl, Nat.mul_one] at hv34)); (try (replace hv34 := qx (hv34.symm.trans HX124_0.out))); (try (subst hv34)); (try (clear hcc34 hcl34)); (try (replace ge34_0 := (show Kd.R (Kd.int .i64) 3 _ _ _ _ (rd_L1 x5_2 x15_1) from ge34_0))); (try (have HP34 := Kd.R_putg ge34_0 (x26_2 : Int) x8_3)))); refine store_event (t := 3) (p := 59) (v := ?vo_w35) (w1 := (wr.setCell ⟨go33, (x26_2 : Int).toNat, none⟩ (.int .i64 x8_3))) ?hg ?ho ?hn ?hr ?_; (case ho => rfl); (case hg => rfl); (case hn => rfl); (case hr => go_simp); intro w35 hw; have hg : wr.grownBy w35 (some go33) := (by rw [hw]; exact HP34.2); have hz_ : Kd.R (Kd.int .i64) 3 w35 w.heap.size oki34 (.slice (some ⟨go33, 0, none⟩) (rd_L1 x5_2 x15_1).length c124_0) y125 := (by rw [hw, Ny125.out]; exact HP34.1); have hp_ : Kd.S (Kd.slice 3 (Kd.int .i64)) 26 w35 w.heap.size (fun _ => True) (.slice (some ⟨go12, 0, none⟩) x5_2.length co12) y127 := (by rw [Ny127.out]; exact hbk34 hg (fun k_ e_ => by injection e_ with e_; subst e_; exact ge34_0.1 _ rfl) (Kd.M_row hz_)); have hm_ := Kd.xZ hz_ hok34; clear HP34 hbk34; have n0_ := xA.mk (hp_); have n1_ := xA.mk ((by rw [hw]; exact xM (HB.out) GB33.out : Below w.heap.size w w35)); have n2_ := xA.mk (hm_); have n3_ := xA.mk ((Kd.yE hm_).2.1); clear HO_5; clear HB; clear HL124_0; have HO_5 := n0_; have HB := n1_; have HL128 := n2_; have HC126 := n3_; clear n0_ n1_ n2_ n3_; clear hg hw hp_ hz_ hm_ hok34)); try go_wp2_with (first | ((with_reducible refine gate_store (t := 3) (p := 59) rfl ?_); (try (rw [drewN_self wr]; generalize hq_ : World.drewN wr _ = wr; have n0_ := xA.mk (Kd.S_at hq_ HO_5.out); have n1_ := xA.mk (Kd.R_at hq_ HL128.out); have n2_ := xA.mk (below_at hq_ HB.out); clear hq_ HO_5 HL128 HB; have HO_5 := n0_; have HL128 := n1_; have HB := n2_; clear n0_ n1_ n2_; (try (have hq34 : (x15_1 : Int) < (x5_2.length : Int) := (by have h_ : (x15_1 : Int) < ((x5_2.length : Int) : Int) := qq; first | exact h_ | (have e_ := (Kd.xJ HO_5.out).1; omega) | simpa only [List.length_set, List.length_set] using h_))); (try (obtain ⟨oki34, ce34, hcl34, hM34, hcc34, hok34, hbk34⟩ := Kd.S_borrow HO_5.out [] (x15_1 : Int) (qq) hq34)); (try (obtain ⟨ve34_0, rfl, ge34_0⟩ := hM34)); (try (have hv34 := hcc34 0 _ rfl)); (try (rw [Nat.add_zero, show ((Kd.slice 3 (Kd.int .i64))).sz = 1 from rfl, Nat.mul_one] at hv34)); (try (replace hv34 := qx (hv34.symm.trans HX124_0.out))); (try (subst hv34)); (try (clear hcc34 hcl34)); (try (replace ge34_0 := (show Kd.R (Kd.int .i64) 3 _ _ _ _ (rd_L1 x5_2 x15_1) from ge34_0))); (try (have HP34 := Kd.R_putg ge34_0 (x26_2 : Int) x8_3)))); refine store_event (t := 3) (p := 59) (v := ?vo_w35) (w1 := (wr.setCell ⟨go33, (x26_2 : Int).toNat, none⟩ (.int .i64 x8_3))) ?hg ?ho ?hn ?hr ?_; (case ho => rfl); (case hg => rfl); (case hn => rfl); (case hr => go_simp); intro w35 hw; have hg : wr.grownBy w35 (some go33) := (by rw [hw]; exact HP34.2); have hz_ : Kd.R (Kd.int .i64) 3 w35 w.heap.size oki34 (.slice (some ⟨go33, 0, none⟩) (rd_L1 x5_2 x15_1).length c124_0) y125 := (by rw [hw, Ny125.out]; exact HP34.1); have hp_ : Kd.S (Kd.slice 3 (Kd.int .i64)) 26 w35 w.heap.size (fun _ => True) (.slice (some ⟨go12, 0, none⟩) x5_2.length co12) y127 := (by rw [Ny127.out]; exact hbk34 hg (fun k_ e_ => by injection e_ with e_; subst e_; exact ge34_0.1 _ rfl) (Kd.M_row hz_)); have hm_ := Kd.xZ hz_ hok34; clear HP34 hbk34; have n0_ := xA.mk (hp_); have n1_ := xA.mk ((by rw [hw]; exact xM (HB.out) GB33.out : Below w.heap.size w w35)); have n2_ := xA.mk (hm_); have n3_ := xA.mk ((Kd.yE hm_).2.1); clear HO_5; clear HB; clear HL124_0; have HO_5 := n0_; have HB := n1_; have HL128 := n2_; have HC126 := n3_; clear n0_ n1_ n2_ n3_; clear hg hw hp_ hz_ hm_ hok34)))
    (try simp only [← hl5_2])
    go_roundg k3
    case measure => have := HK1.out; have := HK2.out; have := HK3.out; omega
    case rel => exact ⟨(y127), (wrap64 (x26_2 + 1)), rfl, H', ⟨by have := HK1.out; have := HK2.out; have := HK3.out; omega⟩, ⟨by (try simp only [hl5_2]); exact HO_5.out⟩, ⟨qb⟩⟩
mutual
def line_one_int.l0 : Nat → Int → List (List Int) → Int → Int → Option ((List (List Int)))
 | 0, _, _, _, _ => none
 | k + 1, x0, x3, x8, x9 => if x9 < x8 then (if 0 ≤ x0 then (if (x0 : Int).toNat ≤ 35184372088832 then (if 0 ≤ x9 then (if x9 < (x3.length : Int) then (line_one_int.l1 k x0 (x3.set (x9 : Int).toNat (List.replicate (x0 : Int).toNat 0)) x9 x8 x9 x0 0) else (none)) else (none)) else (none)) else (none)) else (some x3)
def line_one_int.l1 : Nat → Int → List (List Int) → Int → Int → Int → Int → Int → Option ((List (List Int)))
 | 0, _, _, _, _, _, _, _ => none
 | k + 1, x0, x3, x4, x8, x9, x17, x18 => if x18 < x17 then (if x4 = x18 then (line_one_int.l1 k x0 x3 x4 x8 x9 x17 (wrap64 (x18 + 1))) else (if 0 ≤ x4 then (if x4 < (x3.length : Int) then ((line_never_int.f).bind fun t137 => (if 0 ≤ x18 then (if x18 < ((rd_L1 x3 x4).length : Int) then (line_one_int.l1 k x0 (x3.set (x4 : Int).toNat ((rd_L1 x3 x4).set (x18 : Int).toNat t137)) x4 x8 x9 x17 (wrap64 (x18 + 1))) else (none)) else (none))) else (none)) else (none))) else (line_one_int.l0 k x0 x3 x8 (wrap64 (x9 + 1)))
end
def line_one_int.f (k : Nat) (a0 : Int) : Option ((List (List Int))) := if 0 ≤ a0 then (if (a0 : Int).toNat ≤ 11728124029610 then (line_one_int.l0 k a0 (List.replicate (a0 : Int).toNat []) a0 0) else (none)) else (none)
theorem line_one_int.mono_l : ∀ k, (∀ y0 y1 y2 y3, LeO (line_one_int.l0 k y0 y1 y2 y3) (line_one_int.l0 (k + 1) y0 y1 y2 y3)) ∧ (∀ y0 y1 y2 y3 y4 y5 y6, LeO (line_one_int.l1 k y0 y1 y2 y3 y4 y5 y6) (line_one_int.l1 (k + 1) y0 y1 y2 y3 y4 y5 y6))
 | 0 => ⟨fun _ _ _ _ r h => by simp [line_one_int.l0] at h, fun _ _ _ _ _ _ _ r h => by simp [line_one_int.l1] at h⟩
 | k + 1 => by
  obtain ⟨ih0, ih1⟩ := line_one_int.mono_l k
  refine ⟨?_, ?_⟩
  ·
   intro y0 y1 y2 y3
   unfold line_one_int.l0
   repeat' first
   | (with_reducible exact LeO.refl _)
   | (with_reducible exact LeO.none _)
   | (with_reducible refine LeO.ite ?_ ?_)
   | (with_reducible refine LeO.bind ?_ (fun _ => ?_))
   | exact ih0 _ _ _ _
   | exact ih1 _ _ _ _ _ _ _
  ·
   intro y0 y1 y2 y3 y4 y5 y6
   unfold line_one_int.l1
   repeat' first
   | (with_reducible exact LeO.refl _)
   | (with_reducible exact LeO.none _)
   | (with_reducible refine LeO.ite ?_ ?_)
   | (with_reducible refine LeO.bind ?_ (fun _ => ?_))
   | exact ih0 _ _ _ _
   | exact ih1 _ _ _ _ _ _ _
theorem line_one_int.mono : ∀ a0 k, LeO (line_one_int.f k a0) (line_one_int.f (k + 1) a0) := by
 intro a0 k
 obtain ⟨ih0, ih1⟩ := line_one_int.mono_l k
 unfold line_one_int.f
 repeat' first
   | (with_reducible exact LeO.refl _)
   | (with_reducible exact LeO.none _)
   | (with_reducible refine LeO.ite ?_ ?_)
   | (with_reducible refine LeO.bind ?_ (fun _ => ?_))
   | exact ih0 _ _ _ _
   | exact ih1 _ _ _ _ _ _ _
def line_one_int.T10 : Bool × List (List Nat × List Nat) := (true, [([], []), ([], []), ([0, 1], [0, 1]), ([2], [2]), ([], []), ([], []), ([3, 4, 0, 1, 2, 3, 4, 5], [3, 4]), ([6, 5, 5, 0, 1, 2, 3, 4, 5], [5, 6])])
def line_one_int.B10 : List Nat := [0, 0, 3, 7, 0, 0, 63, 127]
theorem line_one_int.tab10 : rtab .any (opsOf Try.f87 10) = line_one_int.T10 := by kernel_rfl
theorem line_one_int.bits10 : waitsOk line_one_int.T10.2 line_one_int.B10 = true := by kernel_rfl
theorem line_one_int.calls (k : Nat) (a0 : Int) (r : List (List Int)) (w : World) (h : line_one_int.f k a0 = some r) :
  Calls Try.prog 87 #[.int .i64 a0] w fun e w' => ∃ v0_ : Value, e = .returned (v0_) ∧ Kd.S (Kd.slice 3 (Kd.int .i64)) 26 w' w.heap.size (fun _ => True) v0_ r ∧ Below w.heap.size w w' := by
 have HB := xA.mk (Below.refl w.heap.size w)
 have H : (if 0 ≤ a0 then (if (a0 : Int).toNat ≤ 11728124029610 then (line_one_int.l0 k a0 (List.replicate (a0 : Int).toNat []) a0 0) else (none)) else (none)) = some r := h
 clear h
 obtain ⟨c2, H⟩ := ite_some H
 have c2b0 := eq_true c2
 have c2b1 : decide (0 ≤ a0) = true := qu c2
 clear c2
 obtain ⟨c3, H⟩ := ite_some H
 have c3b0 := eq_true c3
 have c3b1 : decide ((a0 : Int).toNat ≤ 11728124029610) = true := qu c3
 clear c3
 obtain ⟨y129, hy129⟩ : ∃ y_ : List (List Int), y_ = (List.replicate (a0 : Int).toNat []) := ⟨_, rfl⟩
 replace H : (line_one_int.l0 k a0 y129 a0 0) = some r := by first | (rw [hy129]; with_reducible exact H) | (have H2_ := (Option.bind_some _ _).symm.trans H; rw [hy129]; with_reducible exact H2_) | (have H2_ := (Option.bind_some _ _).symm.trans H; with_reducible exact H2_) | with_reducible exact H | (rw [hy129]; exact H) | exact H
 have Ny129 := xA.mk hy129
 clear hy129
 have H' := xA.mk H
 clear H
 go_enter Try.func87, Try.ntmps87
 go_wp2_with (first | ((with_reducible refine xW (N := 7) rfl ?_); refine Kd.S_make (Kd.slice 3 (Kd.int .i64)) _ 26 rfl (N := 7) rfl 56 _ _ rfl a0 rfl rfl Try.underlying56 (.slice none 0 0) 24 info26 rfl (by decide) jj [] (ok := fun _ => True) (okp := fun _ => True) ⟨_, rfl, Kd.R_nil _ _ _ _ _⟩ (fun _ hk => hk) trivial (qr) (Nat.le_trans (Nat.mul_le_mul_right _ (qr : a0.toNat ≤ 11728124029610)) jj) (Below.refl _ _) (Nat.le_refl _) ?_; intro v130 w4 ho5 hb hg_ hnew_; clear hg_ hnew_; (first | rw [← Ny129.out] at ho5 | (simp only [Int.reduceToNat] at ho5; rw [← Ny129.out] at ho5)); have HO131 := xA.mk (Kd.S_lower ho5 (xD qa)); replace HB := xA.mk (xF qa hb); clear hb ho5))
 go_loopg [9] k (fun kq v9 w' => ∃ (x3_1 : List (List Int)) (x9_1 : Int), v9 = .int .i64 x9_1 ∧ xA (line_one_int.l0 kq a0 x3_1 a0 x9_1 = some r) ∧ xA (kq ≤ k) ∧ xA (Kd.S (Kd.slice 3 (Kd.int .i64)) 26 w' w.heap.size (fun _ => True) v130 x3_1) ∧ xA (Below w.heap.size w w'))
 case atStart => exact ⟨(y129), (0), qf, H', ⟨Nat.le_refl _⟩, ⟨qh HO131.out⟩, ⟨qa⟩⟩
 case round =>
  clear H'
  try clear c2
  try clear c2b0
  try clear c2b1
  try clear p2
  try clear c3
  try clear c3b0
  try clear c3b1
  obtain ⟨x3_1, x9_1, rfl, HA, HK1, HO_3, HB⟩ := hrel
  obtain _ | k1 := gk
  · exact absurd HA.out (by simp [line_one_int.l0])
  have H := HA.out
  clear HA
  simp only [line_one_int.l0] at H
  obtain ⟨c6b0, H⟩ | ⟨c6b0, H⟩ := itd_or H
  rotate_left
  ·
   obtain rfl := qx H
   go_wp2
   go_ret
   exact ⟨_, rfl, by exact HO_3.out, HB.out⟩
  obtain ⟨c7, H⟩ := ite_some H
  have c7b0 := eq_true c7
  have c7b1 : decide (0 ≤ a0) = true := qu c7
  clear c7
  obtain ⟨c8, H⟩ := ite_some H
  have c8b0 := eq_true c8
  have c8b1 : decide ((a0 : Int).toNat ≤ 35184372088832) = true := qu c8
  clear c8
  obtain ⟨y132, hy132⟩ : ∃ y_ : List Int, y_ = (List.replicate (a0 : Int).toNat 0) := ⟨_, rfl⟩
  replace H : (if 0 ≤ x9_1 then (if x9_1 < (x3_1.length : Int) then (line_one_int.l1 k1 a0 (x3_1.set (x9_1 : Int).toNat y132) x9_1 a0 x9_1 a0 0) else (none)) else (none)) = some r := by first | (rw [hy132]; with_reducible exact H) | (have H2_ := (Option.bind_some _ _).symm.trans H; rw [hy132]; with_reducible exact H2_) | (have H2_ := (Option.bind_some _ _).symm.trans H; with_reducible exact H2_) | with_reducible exact H | (rw [hy132]; exact H) | exact H
  have Ny132 := xA.mk hy132
  clear hy132
  obtain ⟨c9b0, H⟩ := xL H
  obtain ⟨c10b0, H⟩ := xL H
  obtain ⟨y135, hy135⟩ : ∃ y_ : List (List Int), y_ = (x3_1.set (x9_1 : Int).toNat y132) := ⟨_, rfl⟩
  replace H : (line_one_int.l1 k1 a0 y135 x9_1 a0 x9_1 a0 0) = some r := by first | (rw [hy135]; with_reducible exact H) | (have H2_ := (Option.bind_some _ _).symm.trans H; rw [hy135]; with_reducible exact H2_) | (have H2_ := (Option.bind_some _ _).symm.trans H; with_reducible exact H2_) | with_reducible exact H | (rw [hy135]; exact H) | exact H
  have Ny135 := xA.mk hy135
  clear hy135
  have H' := xA.mk H
  clear H
  go_wp2_with (first | ((with_reducible refine xW (N := 15) rfl ?_); refine Kd.R_make (Kd.int .i64) _ 3 rfl (N := 15) rfl 26 _ _ rfl a0 rfl rfl Try.underlying26 (.int .i64 0) 8 info3 rfl (by decide) jj 0 (ok := fun _ => True) (okp := fun _ => True) rfl (fun _ hk => hk) trivial (qr) (Nat.le_trans (Nat.mul_le_mul_right _ (qr : a0.toNat ≤ 35184372088832)) jj) (Below.refl _ _) (Nat.le_refl _) ?_; intro v133 w12 ho13 hb hg_ hnew_; clear hg_ hnew_; (first | rw [← Ny132.out] at ho13 | (simp only [Int.reduceToNat] at ho13; rw [← Ny132.out] at ho13)); replace HO_3 := xA.mk (Kd.S_elder' (qh HO_3.out) (Kd.R_base ho13) hb); have HO134 := xA.mk (Kd.R_lower ho13 (xD qa)); replace HB := xA.mk (xF qa hb); clear hb ho13; have p11 : 0 ≤ (x9_1 : Int) := qr; have q11 : (x9_1 : Int) < ((x3_1.length : Int) : Int) := qr; obtain ⟨go11, co11, eo11, gb11, gl11, cl11, HG11⟩ := Kd.S_form HO_3.out jj; (first | cases eo11 | (injection eo11 with ea_ en_ ec_; (first | subst ea_ | (injection ea_ with ea_; subst ea_)); subst ec_; clear en_)); have GB11 := xA.mk gb11; have GG11 := xA.mk HG11; clear gb11 gl11 HG11; obtain ⟨_, ce11, hcl11, hM11, hcc11, hfr11, _, _⟩ := Kd.S_elem HO_3.out [] (x9_1 : Int) p11 q11; obtain ⟨ve11_0, rfl, ge11_0⟩ := hM11; have hx11_0 := hcc11 0 _ rfl; have hf11_0 := hfr11 0; (try simp only [show ((Kd.slice 3 (Kd.int .i64))).sz = 1 from rfl, Nat.mul_one, Nat.add_zero] at hx11_0); (try simp only [show ((Kd.slice 3 (Kd.int .i64))).sz = 1 from rfl, Nat.mul_one, Nat.add_zero] at hf11_0); (try clear hM11); clear hcl11 hcc11 hfr11; replace p11 := eq_true p11; replace q11 := eq_true q11; have n_ := xA.mk (Kd.xQ (ok' := (fun k_ => some k_ ≠ (v133 : Value).ownBlock)) HO_3.out (fun k_ hk => hk.2)); clear HO_3; have HO_3 := n_; clear n_; have HX14 := xA.mk (show Kd.S (Kd.slice 3 (Kd.int .i64)) 26 w12 w.heap.size (fun k_ => ((fun _ => True)) k_ ∧ ¬ ((fun k_ => some k_ = (v133 : Value).ownBlock)) k_) (.slice (some ⟨go11, 0, none⟩) x3_1.length co11) x3_1 from (by (with_reducible repeat (first | apply Kd.S_alloc | apply Kd.yA | apply Kd.xV)); exact Kd.xQ HO_3.out (fun k_ hk => ⟨trivial, fun e_ => hk e_⟩))); obtain ⟨oki14, ce14, hcl14, hM14, hcc14, hfr14, hoki14, hH14⟩ := Kd.S_elem HX14.out [] (x9_1 : Int) (qr) (by have h_ : (x9_1 : Int) < ((x3_1.length : Int) : Int) := qr; first | exact h_ | (have e_ := (Kd.xJ HO_3.out).1; omega) | simpa using h_); obtain ⟨ve14_0, rfl, ge14_0⟩ := hM14; have HP14 := Kd.S_seg hH14 (qr) (by have h_ : (x9_1 : Int) < ((x3_1.length : Int) : Int) := qr; first | exact h_ | (have e_ := (Kd.xJ HO_3.out).1; omega) | simpa using h_) (seg := [v133]) (j := 0) (show 1 ≤ 1 from by decide) (x' := y132) (Kd.M_row (Kd.xZ (Kd.R_tight rfl (Kd.xZ (ok' := fun k_ => ((fun _ => True)) k_ ∧ k_ ≠ go11) (Kd.R_apart' (HO134.out) (Kd.S_typed HO_3.out) (by decide)) (fun k_ hk => ⟨trivial, fun e_ => (hk.2) (by rw [e_]; rfl)⟩))) (fun _ h_ => Or.inr (h_)))) (fun _ hk => hk) (fun k_ hk_ => ((Kd.xZ (ok' := fun k_ => ((fun _ => True)) k_ ∧ k_ ≠ go11) (Kd.R_apart' (HO134.out) (Kd.S_typed HO_3.out) (by decide)) (fun k_ hk => ⟨trivial, fun e_ => (hk.2) (by rw [e_]; rfl)⟩))).1 k_ hk_.symm); have hx14_0 := hcc14 0 _ rfl; (try simp only [show ((Kd.slice 3 (Kd.int .i64))).sz = 1 from rfl, Nat.mul_one, Nat.add_zero] at hx14_0); have hf14_0 := hfr14 0; (try simp only [show ((Kd.slice 3 (Kd.int .i64))).sz = 1 from rfl, Nat.mul_one, Nat.add_zero] at hf14_0); (try clear hM14); clear hcl14 hcc14 hfr14 hoki14 hH14; (try simp only [show ((Kd.slice 3 (Kd.int .i64))).sz = 1 from rfl, Nat.mul_one, Nat.add_zero] at HP14)) | ((with_reducible refine gate_store (t := 26) (p := 16) rfl ?_); refine store_event (t := 26) (p := 16) (v := ?vo_w15) (w1 := (w12.setCell ⟨go11, (x9_1 : Int).toNat, none⟩ (v133))) ?hg ?ho ?hn ?hr ?_; (case ho => rfl); (case hg => rfl); (case hn => rfl); (case hr => first | (go_simp; done) | (go_simp; rfl) | (obtain ⟨A_, c_, e_⟩ := Kd.R_slice (xA.out (by assumption : xA (Kd.R _ _ _ _ _ v133 _))); rw [e_]; go_simp; done) | (obtain ⟨A_, c_, e_⟩ := Kd.R_slice (xA.out (by assumption : xA (Kd.R _ _ _ _ _ v133 _))); rw [e_]; go_simp; rfl)); intro w15 hw; have hg : w12.grownBy w15 (some go11) := (by rw [hw]; exact HP14.2); have hp_ : Kd.S (Kd.slice 3 (Kd.int .i64)) 26 w15 w.heap.size (fun _ => True) (.slice (some ⟨go11, 0, none⟩) x3_1.length co11) y135 := (by rw [hw, Ny135.out]; exact HP14.1); clear HP14; have n0_ := xA.mk (hp_); have n1_ := xA.mk ((by rw [hw]; exact xM (HB.out) GB11.out : Below w.heap.size w w15)); clear HO_3; clear HB; clear HO134; have HO_3 := n0_; have HB := n1_; clear n0_ n1_; clear hg hw hp_))
  go_loopg [18] k1 (fun kq v18 w' => ∃ (x3_2 : List (List Int)) (x18_2 : Int), v18 = .int .i64 x18_2 ∧ xA (line_one_int.l1 kq a0 x3_2 x9_1 a0 x9_1 a0 x18_2 = some r) ∧ xA (kq ≤ k1) ∧ xA (Kd.S (Kd.slice 3 (Kd.int .i64)) 26 w' w.heap.size (fun _ => True) (.slice (some ⟨go11, 0, none⟩) x3_1.length co11) x3_2) ∧ xA (Below w.heap.size w w'))
  case atStart => exact ⟨(y135), (0), qf, H', ⟨Nat.le_refl _⟩, ⟨qh HO_3.out⟩, ⟨qa⟩⟩
  case round =>
   clear H'
   try clear c1
   try clear p1
   try clear q1
   try clear hx1
   try clear hf1
   try clear c2
   try clear c2b0
   try clear c2b1
   obtain ⟨x3_2, x18_2, rfl, HA, HK2, HO_3, HB⟩ := hrel
   have hl3_2 := (Kd.xJ HO_3.out).1
   rw [hl3_2] at HO_3
   obtain _ | k2 := gk
   · exact absurd HA.out (by simp [line_one_int.l1])
   have H := HA.out
   clear HA
   simp only [line_one_int.l1] at H
   obtain ⟨c16b0, H⟩ | ⟨c16b0, H⟩ := itd_or H
   rotate_left
   ·
    have H' := xA.mk H
    clear H
    go_wp2
    go_roundg k2
    case measure => have := HK1.out; have := HK2.out; omega
    case rel => exact ⟨(x3_2), (wrap64 (x9_1 + 1)), rfl, H', ⟨by have := HK1.out; have := HK2.out; omega⟩, ⟨by (try simp only [hl3_2]); exact HO_3.out⟩, ⟨HB.out⟩⟩
   by_cases c17 : x9_1 = x18_2
   ·
    rw [if_pos c17] at H
    have c17b0 : (x9_1 == x18_2) = true := beq_iff_eq.mpr c17
    clear c17
    have H' := xA.mk H
    clear H
    go_wp2
    go_roundg k2
    case measure => have := HK1.out; have := HK2.out; omega
    case rel => exact ⟨(x3_2), (wrap64 (x18_2 + 1)), rfl, H', ⟨by have := HK1.out; have := HK2.out; omega⟩, ⟨by (try simp only [hl3_2]); exact HO_3.out⟩, ⟨HB.out⟩⟩
   rw [if_neg c17] at H
   have c17b0 : (x9_1 == x18_2) = false := jg c17
   obtain ⟨c18b0, H⟩ := xL H
   obtain ⟨c19b0, H⟩ := xL H
   replace H := qw H
   obtain ⟨t137, A200, H⟩ := H
   replace H : (if 0 ≤ x18_2 then (if x18_2 < ((rd_L1 x3_2 x9_1).length : Int) then (line_one_int.l1 k2 a0 (x3_2.set (x9_1 : Int).toNat ((rd_L1 x3_2 x9_1).set (x18_2 : Int).toNat t137)) x9_1 a0 x9_1 a0 (wrap64 (x18_2 + 1))) else (none)) else (none)) = some r := H
   have A20 := xA.mk A200
   clear A200
   obtain ⟨c21b0, H⟩ := xL H
   obtain ⟨c22b0, H⟩ := xL H
   obtain ⟨y138, hy138⟩ : ∃ y_ : List Int, y_ = ((rd_L1 x3_2 x9_1).set (x18_2 : Int).toNat t137) := ⟨_, rfl⟩
   replace H : (line_one_int.l1 k2 a0 (x3_2.set (x9_1 : Int).toNat y138) x9_1 a0 x9_1 a0 (wrap64 (x18_2 + 1))) = some r := by rw [hy138]; exact H
   have Ny138 := xA.mk hy138
   clear hy138
   obtain ⟨y140, hy140⟩ : ∃ y_ : List (List Int), y_ = (x3_2.set (x9_1 : Int).toNat y138) := ⟨_, rfl⟩
   replace H : (line_one_int.l1 k2 a0 y140 x9_1 a0 x9_1 a0 (wrap64 (x18_2 + 1))) = some r := by rw [hy140]; exact H
   have Ny140 := xA.mk hy140
   clear hy140
   have H' := xA.mk H
   clear H
   try go_wp2
   have n0_ := xA.mk (Kd.xV HO_3.out)
   have n1_ := xA.mk (xN HB.out)
   clear HO_3
   clear HB
   have HO_3 := n0_
   have HB := n1_
   clear n0_ n1_
   have p136 : 0 ≤ (x9_1 : Int) := qq
   have q136 : x9_1 < (x3_2.length : Int) := qq
   obtain ⟨ad136, A136_0, c136_0, e136, hx136_0, hl136_0, hi136_0⟩ := at_L1 (Kd.xJ HO_3.out).2.2 x9_1 p136 q136
   obtain rfl : (⟨go11, 0, none⟩ : Addr) = ad136 := (by injection e136)
   obtain ⟨ce136, hce136, hMe136, hcc136⟩ := Kd.S_get HO_3.out [] x9_1 p136 (by first | exact q136 | exact qq | (have e_ := (Kd.xJ HO_3.out).1; omega))
   obtain ⟨ve136_0, rfl, ge136_0⟩ := hMe136
   have hv136_0 := hcc136 0 _ rfl
   rw [Nat.add_zero, show ((Kd.slice 3 (Kd.int .i64))).sz = 1 from rfl, Nat.mul_one] at hv136_0
   replace hv136_0 := qx (hv136_0.symm.trans hx136_0)
   rw [hv136_0] at ge136_0
   have HL136_0 := xA.mk (show Kd.R (Kd.int .i64) 3 _ _ _ _ (rd_L1 x3_2 x9_1) from ge136_0)
   clear hv136_0 ge136_0
   have HX136_0 := xA.mk hx136_0
   clear hcc136 hce136
   (first | simp only [add_plain] at hx136_0 | simp only [add_at] at hx136_0 | simp only [Addr.add, Nat.zero_add] at hx136_0 | skip)
   have HR136_0 := xA.mk hi136_0
   have HC136_0 := xA.mk hl136_0
   clear hi136_0 hl136_0
   replace p136 := eq_true p136
   replace q136 := eq_true q136
   refine start_ (n := 8) (S := fun w' => w'.cell? ⟨go11, (x9_1).toNat, none⟩ = some (.slice A136_0 (rd_L1 x3_2 x9_1).length c136_0)) (ds := [7]) (jl 8 0) jk rfl rfl (hx136_0) (fun hHeld => ?_); refine with_tabW line_one_int.tab10 line_one_int.bits10 (fun HT_ HW_ => ?_)
   generalize wr.drew = w24 at HO_3 HB HL136_0 HR136_0 HX136_0 hx136_0 hHeld ⊢
   refine pure_ (i := 0) (N := some 24) (v := ?_) (a' := ?_) (jl 8 1) rfl rfl (xE HT_.out jk) (fun _ _ _ h => h) (Or.inl ⟨by rfl, ?_⟩) ?_ ?_
   rotate_left
   ·
    intro w'
    go_simp
    with_reducible rfl
   rotate_left
   ·
    simp only [Act.put, qy, qz, ja, i64_w, i32_w]
    rfl
   refine pure_ (i := 1) (N := some 25) (v := ?_) (a' := ?_) (jl 8 3) rfl rfl (xE HT_.out jk) (fun _ _ _ h => h) (Or.inl ⟨by rfl, ?_⟩) ?_ ?_
   rotate_left
   ·
    intro w'
    go_simp
    with_reducible rfl
   rotate_left
   ·
    simp only [Act.put, qy, qz, ja, i64_w, i32_w]
    rfl
   refine pure_ (i := 2) (N := some 26) (v := ?_) (a' := ?_) (jl 8 7) rfl rfl (xE HT_.out jk) (fun _ _ _ h => h) (Or.inl ⟨by rfl, ?_⟩) ?_ ?_
   rotate_left
   ·
    intro w'
    go_simp
    with_reducible rfl
   rotate_left
   ·
    simp only [Act.put, qy, qz, ja, i64_w, i32_w]
    rfl
   refine pure_ (i := 4) (N := some 28) (v := ?_) (a' := ?_) (jl 8 23) rfl rfl (xE HT_.out jk) (fun _ _ _ h => h) (Or.inl ⟨by rfl, ?_⟩) ?_ ?_
   rotate_left
   ·
    intro w'
    go_simp
    with_reducible rfl
   rotate_left
   ·
    simp only [Act.put, qy, qz, ja, i64_w, i32_w]
    rfl
   refine take_ (i := 3) (N := some 27) (v := ?_) (a' := ?_) (jl 8 31) rfl rfl (xY HT_.out HW_.out jk) (fun _ _ _ h => h) (Or.inl ⟨by rfl, ?_⟩) hHeld ?_ ?_
   rotate_left
   ·
    intro w' s0
    go_simp
    with_reducible rfl
   rotate_left
   ·
    simp only [Act.put, qy, qz, ja, i64_w, i32_w]
    rfl
   refine one_ (i := 5) (N := some 29) (jl 8 63) rfl rfl (one_of HT_.out jk) (by decide) (fun K hK => ?_)
   refine goes_ Try.func83 jk rfl #[] (by rfl) rfl rfl qc ?_
   with_reducible refine (line_never_int.calls  t137 _ A20.out).mono ?_
   rintro e w' ⟨rfl, ⟨nd, rfl⟩⟩
   refine ⟨_, rfl, ?_⟩
   have p23 : 0 ≤ (x18_2 : Int) := qq
   have q23 : (x18_2 : Int) < (((rd_L1 x3_2 x9_1).length : Int) : Int) := qq
   obtain ⟨go23, co23, eo23, gb23, gl23, cl23, HG23⟩ := Kd.R_form HL136_0.out jj
   (first | cases eo23 | (injection eo23 with ea_ en_ ec_; (first | subst ea_ | (injection ea_ with ea_; subst ea_)); subst ec_; clear en_))
   have GB23 := xA.mk gb23
   have GG23 := xA.mk HG23
   clear gb23 gl23 HG23
   obtain ⟨hx23_0, hf23_0⟩ := Kd.R_celln 0 HL136_0.out (x18_2 : Int) p23 q23
   replace p23 := eq_true p23
   replace q23 := eq_true q23
   have hq25 : (x9_1 : Int) < (x3_2.length : Int) := (by have h_ : (x9_1 : Int) < ((x3_2.length : Int) : Int) := qq; first | exact h_ | (have e_ := (Kd.xJ HO_3.out).1; omega) | simpa only [List.length_set, List.length_set] using h_)
   obtain ⟨oki25, ce25, hcl25, hM25, hcc25, hok25, hbk25⟩ := Kd.S_borrow HO_3.out [] (x9_1 : Int) (qq) hq25
   obtain ⟨ve25_0, rfl, ge25_0⟩ := hM25
   have hv25 := hcc25 0 _ rfl
   rw [Nat.add_zero, show ((Kd.slice 3 (Kd.int .i64))).sz = 1 from rfl, Nat.mul_one] at hv25
   replace hv25 := qx (hv25.symm.trans HX136_0.out)
   subst hv25
   clear hcc25 hcl25
   replace ge25_0 := (show Kd.R (Kd.int .i64) 3 _ _ _ _ (rd_L1 x3_2 x9_1) from ge25_0)
   have HP25 := Kd.R_putg ge25_0 (x18_2 : Int) t137
   rw [← Ny138.out] at HP25
   have HS25 := hbk25 HP25.2 (fun k_ e_ => by injection e_ with e_; subst e_; exact ge25_0.1 _ rfl) (x' := y138) (Kd.M_row HP25.1)
   rw [← Ny140.out] at HS25
   have HQ25 := xA.mk HS25
   clear HP25 HS25 hbk25 hok25
   refine hK.out _ _ (hHeld) (fun hHeld => ?_)
   clear hK K
   refine norm_ (a' := ?_) ?_ ?_
   rotate_left
   ·
    show Act.put _ (some 29) _ = _
    simp only [Act.put, qy, qz, ja, i64_w, i32_w]
    rfl
   refine pure_ (i := 6) (N := some 30) (v := ?_) (a' := ?_) (jl 8 127) rfl rfl (xE HT_.out jk) (fun _ _ _ h => h) (Or.inl ⟨by rfl, ?_⟩) ?_ ?_
   rotate_left
   ·
    intro w'
    go_simp
    with_reducible rfl
   rotate_left
   ·
    simp only [Act.put, qy, qz, ja, i64_w, i32_w]
    rfl
   refine last_ (i := 7) (N := none) (jl 8 255) rfl rfl (one_of HT_.out jk) (by decide) (fun K hK => ?_)
   refine skip_ (w1 := ?_) (by rfl) rfl ?_ ?_
   rotate_left
   ·
    go_simp
    rfl
   refine hK.out _ _ ?_
   clear hK K
   refine done_ (done_of HT_.out jk) ?_
   try go_wp2
   (try simp only [← hl3_2])
   go_roundg k2
   case measure => have := HK1.out; have := HK2.out; omega
   case rel => exact ⟨(y140), (wrap64 (x18_2 + 1)), rfl, H', ⟨by have := HK1.out; have := HK2.out; omega⟩, ⟨by (try simp only [hl3_2]); (with_reducible repeat (first | apply Kd.S_alloc | apply Kd.yA | apply Kd.xV)); exact HQ25.out⟩, ⟨qo GB23.out⟩⟩
def line_gcd.l0 : Nat → Int → Int → Option (Int)
 | 0, _, _ => none
 | k + 1, x0, x1 => if x1 = 0 then (some (mx x0 (wrap64 (-x0)))) else (line_gcd.l0 k x1 (Int.tmod x0 x1))
def line_gcd.f (k : Nat) (a0 : Int) (a1 : Int) : Option (Int) := line_gcd.l0 k a0 a1
theorem line_gcd.mono_l : ∀ k, (∀ y0 y1, LeO (line_gcd.l0 k y0 y1) (line_gcd.l0 (k + 1) y0 y1))
 | 0 => fun _ _ r h => by simp [line_gcd.l0] at h
 | k + 1 => by
  have ih0 := line_gcd.mono_l k
  ·
   intro y0 y1
   unfold line_gcd.l0
   repeat' first
   | (with_reducible exact ih0 _ _)
   | (with_reducible exact LeO.refl _)
   | (with_reducible exact LeO.none _)
   | (with_reducible refine LeO.ite ?_ ?_)
   | (with_reducible refine LeO.bind ?_ (fun _ => ?_))
   | exact ih0 _ _
theorem line_gcd.mono : ∀ a0 a1 k, LeO (line_gcd.f k a0 a1) (line_gcd.f (k + 1) a0 a1) := by
 intro a0 a1 k
 have ih0 := line_gcd.mono_l k
 unfold line_gcd.f
 repeat' first
   | exact ih0 _ _
   | exact LeO.none _
   | refine LeO.ite ?_ ?_
   | refine LeO.bind ?_ (fun _ => ?_)
theorem line_gcd.calls (k : Nat) (a0 : Int) (a1 : Int) (r : Int) (w : World) (h : line_gcd.f k a0 a1 = some r) :
  Calls Try.prog 89 #[.int .i64 a0, .int .i64 a1] w fun e w' => e = .returned (.int .i64 r) ∧ Below w.heap.size w w' := by
 have HB := xA.mk (Below.refl w.heap.size w)
 have H : (line_gcd.l0 k a0 a1) = some r := h
 clear h
 have H' := xA.mk H
 clear H
 go_enter Try.func89, Try.ntmps89
 go_wp2
 go_loopg [0, 1] k (fun kq v0 v1 w' => ∃ (x0_1 : Int) (x1_1 : Int), v0 = .int .i64 x0_1 ∧ v1 = .int .i64 x1_1 ∧ xA (line_gcd.l0 kq x0_1 x1_1 = some r) ∧ xA (kq ≤ k) ∧ xA (Below w.heap.size w w'))
 case atStart => exact ⟨(a0), (a1), rfl, rfl, H', ⟨Nat.le_refl _⟩, ⟨HB.out⟩⟩
 case round =>
  clear H'
  obtain ⟨x0_1, x1_1, rfl, rfl, HA, HK1, HB⟩ := hrel
  obtain _ | k1 := gk
  · exact absurd HA.out (by simp [line_gcd.l0])
  have H := HA.out
  clear HA
  simp only [line_gcd.l0] at H
  by_cases c3 : x1_1 = 0
  rotate_left
  ·
   rw [if_neg c3] at H
   have c3b0 : (x1_1 == 0) = false := jg c3
   have H' := xA.mk H
   clear H
   go_wp2
   repeat (go_quiet (fail); try go_wp2)
   go_roundg k1
   case measure => have := HK1.out; omega
   case rel => exact ⟨(x1_1), (Int.tmod x0_1 x1_1), rfl, rfl, H', ⟨by have := HK1.out; omega⟩, ⟨qb⟩⟩
  rw [if_pos c3] at H
  have c3b0 : (x1_1 == 0) = true := beq_iff_eq.mpr c3
  clear c3
  obtain ⟨ji4, hji4⟩ : ∃ j_ : Int, (mx x0_1 (wrap64 (-x0_1))) = j_ := ⟨_, rfl⟩
  replace H : (some ji4) = some r := by first | (rw [hji4] at H; exact H) | (simp only [hji4] at H ⊢; exact H)
  have hji4_ : (if x0_1 < (wrap64 (-x0_1)) then (wrap64 (-x0_1)) else x0_1) = ji4 := hji4
  obtain rfl := qx H
  go_wp2
  go_ret
  exact ⟨by first | rfl | (simp [errW_none, errW_some] <;> rfl) | (simp only [← hji4]; first | rfl | (simp [errW_none, errW_some] <;> rfl)) | (simp [*, errW_none, errW_some] <;> rfl), HB.out⟩
end Go.Proofs.Ythjmfbmffchicaa.V
