/- Walks of functions that the law LineRegimes reaches: each theorem '.calls' says that the call comes to what its printed plain function says, under the conditions that stand in it. -/
import Derived.Test.YthjmfbmffchicaaKGHub
namespace Go.Proofs.Ythjmfbmffchicaa.V
open Go.RowKit Go.Proofs.YthjmfbmffchicaaW.PrintWords Go.Proofs.YthjmfbmffchicaaW.PrintLast Go.Proofs.YthjmfbmffchicaaW.PrintMore
attribute [local go_sem] max2_int min2_int max_two min_two max_three min_three max_four min_four
set_option maxHeartbeats 8000000
set_option maxRecDepth 100000
set_option linter.unusedVariables false
set_option linter.unusedSimpArgs false
theorem info3 : (Try.prog.info? 3).map (fun i => (i.zero, i.size, i.bytes)) = some (some (.int .i64 0), 1, 8) := by kernel_rfl
theorem info4 : (Try.prog.info? 4).map (fun i => (i.zero, i.size, i.bytes)) = some (some (.bool false), 1, 1) := by kernel_rfl
theorem info22 : (Try.prog.info? 22).map (fun i => (i.zero, i.size, i.bytes)) = some (some (.slice none 0 0), 1, 24) := by kernel_rfl
theorem info26 : (Try.prog.info? 26).map (fun i => (i.zero, i.size, i.bytes)) = some (some (.slice none 0 0), 1, 24) := by kernel_rfl
def rd_L1 (xs : List (List Int)) (i : Int) : (List Int) := xs.getD i.toNat ([] : List Int)
theorem at_L1 {w : World} {A : Option Addr} {n : Nat} {xs : List (List Int)} (h : Kd.C (Kd.slice 3 (Kd.int .i64)) w A n xs) (i : Int) (h0 : 0 ≤ i) (h1 : i < n) : ∃ ad A0 c0, A = some ad ∧ w.cell? (ad.add i.toNat) = some (.slice A0 (rd_L1 xs i).length c0) ∧ (rd_L1 xs i).length ≤ c0 ∧ (Kd.int .i64).C w A0 (rd_L1 xs i).length (rd_L1 xs i) := by
 obtain ⟨ad, c, e, _, hK, hc0⟩ := Kd.C_get h ([] : List Int) i h0 h1
 have hc : ∀ j u, c[j]? = some u → w.cell? (ad.add (i.toNat * 1 + j)) = some u := hc0
 obtain ⟨A0, c0, rfl, l0, g0⟩ := hK
 exact ⟨ad, A0, c0, e, by have hq := hc 0 _ rfl; rwa [Nat.mul_one, Nat.add_zero] at hq, l0, g0⟩
def rd_L3 (xs : List (List (List Int))) (i : Int) : (List (List Int)) := xs.getD i.toNat ([] : List (List Int))
theorem at_L3 {w : World} {A : Option Addr} {n : Nat} {xs : List (List (List Int))} (h : Kd.C (Kd.slice 26 (Kd.slice 3 (Kd.int .i64))) w A n xs) (i : Int) (h0 : 0 ≤ i) (h1 : i < n) : ∃ ad A0 c0, A = some ad ∧ w.cell? (ad.add i.toNat) = some (.slice A0 (rd_L3 xs i).length c0) ∧ (rd_L3 xs i).length ≤ c0 ∧ (Kd.slice 3 (Kd.int .i64)).C w A0 (rd_L3 xs i).length (rd_L3 xs i) := by
 obtain ⟨ad, c, e, _, hK, hc0⟩ := Kd.C_get h ([] : List (List Int)) i h0 h1
 have hc : ∀ j u, c[j]? = some u → w.cell? (ad.add (i.toNat * 1 + j)) = some u := hc0
 obtain ⟨A0, c0, rfl, l0, g0⟩ := hK
 exact ⟨ad, A0, c0, e, by have hq := hc 0 _ rfl; rwa [Nat.mul_one, Nat.add_zero] at hq, l0, g0⟩
def l5few.l0 : Nat → List (List Int) → Int → Option (Bool)
 | 0, _, _ => none
 | k + 1, x0, x3 => if x3 < (x0.length : Int) then (if x3 ≥ 20 then (some false) else (if 0 ≤ x3 then (if ((rd_L1 x0 x3).length : Int) > 20 then (some false) else (l5few.l0 k x0 (wrap64 (x3 + 1)))) else (none))) else (some true)
def l5few.f (k : Nat) (l0 : List (List Int)) : Option (Bool) := l5few.l0 k l0 0
theorem l5few.calls (k : Nat) (A0 : Option Addr) (c0 : Nat) (l0 : List (List Int)) (r : Bool) (w : World) (hr0 : Kd.C (Kd.slice 3 (Kd.int .i64)) w A0 l0.length l0) (hc0 : l0.length ≤ c0) (h : l5few.f k l0 = some r) :
  Calls Try.prog 12 #[.slice A0 l0.length c0] w fun e w' => e = .returned (.bool r) ∧ Drawn0 w w' := by
 have HR0 := xA.mk hr0
 have HC0 := xA.mk hc0
 clear hr0 hc0
 have H : (l5few.l0 k l0 0) = some r := h
 clear h
 have H' := xA.mk H
 clear H
 go_enter Try.func12, Try.ntmps12
 go_wp2
 go_loopg [3] k (fun kq v3 w' => ∃ (x3_1 : Int), v3 = .int .i64 x3_1 ∧ xA (l5few.l0 kq l0 x3_1 = some r) ∧ xA (kq ≤ k) ∧ Drawn0 w w')
 case atStart => exact ⟨(0), rfl, H', ⟨Nat.le_refl _⟩, qe⟩
 case round =>
  clear H'
  obtain ⟨x3_1, rfl, HA, HK1, ⟨m1, rfl⟩⟩ := hrel
  obtain _ | k1 := gk
  · exact absurd HA.out (by simp [l5few.l0])
  have H := HA.out
  clear HA
  simp only [l5few.l0] at H
  obtain ⟨c2b0, H⟩ | ⟨c2b0, H⟩ := yA H
  rotate_left
  ·
   obtain rfl := qx H
   go_wp2
   go_ret
   exact ⟨qf, qe⟩
  by_cases c3 : x3_1 ≥ 20
  ·
   rw [if_pos c3] at H
   have c3b0 : decide (20 ≤ x3_1) = true := qu c3
   clear c3
   obtain rfl := qx H
   go_wp2
   go_ret
   exact ⟨qf, qe⟩
  rw [if_neg c3] at H
  have c3b0 : decide (20 ≤ x3_1) = false := qv c3
  clear c3
  obtain ⟨c4b0, H⟩ := xF H
  by_cases c5 : ((rd_L1 l0 x3_1).length : Int) > 20
  ·
   rw [if_pos c5] at H
   have c5b0 : decide (20 < ((rd_L1 l0 x3_1).length : Int)) = true := qu c5
   clear c5
   obtain rfl := qx H
   have p101 : 0 ≤ (x3_1 : Int) := qq
   have q101 : x3_1 < (l0.length : Int) := qq
   obtain ⟨ad101, A101_0, c101_0, e101, hx101_0, hl101_0, hi101_0⟩ := at_L1 HR0.out x3_1 p101 q101
   cases e101
   have HR101_0 := xA.mk hi101_0
   have HC101_0 := xA.mk hl101_0
   clear hi101_0 hl101_0
   replace p101 := eq_true p101
   replace q101 := eq_true q101
   go_wp2
   go_ret
   exact ⟨qf, qe⟩
  rw [if_neg c5] at H
  have c5b0 : decide (20 < ((rd_L1 l0 x3_1).length : Int)) = false := qv c5
  clear c5
  have H' := xA.mk H
  clear H
  have p101 : 0 ≤ (x3_1 : Int) := qq
  have q101 : x3_1 < (l0.length : Int) := qq
  obtain ⟨ad101, A101_0, c101_0, e101, hx101_0, hl101_0, hi101_0⟩ := at_L1 HR0.out x3_1 p101 q101
  cases e101
  have HR101_0 := xA.mk hi101_0
  have HC101_0 := xA.mk hl101_0
  clear hi101_0 hl101_0
  replace p101 := eq_true p101
  replace q101 := eq_true q101
  go_wp2
  go_roundg k1
  case measure => have := HK1.out; omega
  case rel => exact ⟨(wrap64 (x3_1 + 1)), rfl, H', ⟨by have := HK1.out; omega⟩, qe⟩
def line_of_1.f (a0 : Int) : Option (Bool) := if a0 = (-1152921504606846976) then (some false) else (if a0 < (-1000) then (some true) else (some (decide (a0 > 1000))))
theorem line_of_1.calls (a0 : Int) (r : Bool) (w : World) (h : line_of_1.f a0 = some r) :
  Calls Try.prog 92 #[.int .i64 a0] w fun e w' => e = .returned (.bool r) ∧ Drawn0 w w' := by
 have H : (if a0 = (-1152921504606846976) then (some false) else (if a0 < (-1000) then (some true) else (some (decide (a0 > 1000))))) = some r := h
 clear h
 by_cases c2 : a0 = (-1152921504606846976)
 ·
  rw [if_pos c2] at H
  have c2b0 : (a0 == (-1152921504606846976)) = true := beq_iff_eq.mpr c2
  have c2b1 : (a0 != (-1152921504606846976)) = false := bne_eq_false_iff_eq.mpr c2
  clear c2
  obtain rfl := qx H
  go_enter Try.func92, Try.ntmps92
  go_wp2
  go_ret
  exact ⟨qf, qe⟩
 rw [if_neg c2] at H
 have c2b0 : (a0 == (-1152921504606846976)) = false := jg c2
 obtain ⟨c3b0, H⟩ | ⟨c3b0, H⟩ := yA H
 rotate_left
 ·
  obtain rfl := qx H
  go_enter Try.func92, Try.ntmps92
  go_wp2
  go_ret
  exact ⟨qf, qe⟩
 obtain rfl := qx H
 go_enter Try.func92, Try.ntmps92
 go_wp2
 go_ret
 exact ⟨qf, qe⟩
def sifof_1.l0 : Nat → List Int → Int → Int → Option (Int)
 | 0, _, _, _ => none
 | k + 1, x0, x7, x8 => if x8 < x7 then (if 0 ≤ x8 then (if x8 < (x0.length : Int) then ((line_of_1.f (rd x0 x8)).bind fun t103 => (if t103 = true then (some x8) else (sifof_1.l0 k x0 x7 (wrap64 (x8 + 1))))) else (none)) else (none)) else (some (-1))
def sifof_1.f (k : Nat) (l0 : List Int) (a1 : Int) : Option (Int) := sifof_1.l0 k l0 (l0.length : Int) 0
theorem sifof_1.mono_l : ∀ k, (∀ y0 y1 y2, LeO (sifof_1.l0 k y0 y1 y2) (sifof_1.l0 (k + 1) y0 y1 y2))
 | 0 => fun _ _ _ r h => by simp [sifof_1.l0] at h
 | k + 1 => by
  have ih0 := sifof_1.mono_l k
  ·
   intro y0 y1 y2
   unfold sifof_1.l0
   repeat' first
   | (with_reducible exact ih0 _ _ _)
   | (with_reducible exact LeO.refl _)
   | (with_reducible exact LeO.none _)
   | (with_reducible refine LeO.ite ?_ ?_)
   | (with_reducible refine LeO.bind ?_ (fun _ => ?_))
   | exact ih0 _ _ _
theorem sifof_1.mono : ∀ a0 a1 k, LeO (sifof_1.f k a0 a1) (sifof_1.f (k + 1) a0 a1) := by
 intro a0 a1 k
 have ih0 := sifof_1.mono_l k
 unfold sifof_1.f
 repeat' first
   | exact ih0 _ _ _
   | exact LeO.none _
   | refine LeO.ite ?_ ?_
   | refine LeO.bind ?_ (fun _ => ?_)
theorem sifof_1.calls (k : Nat) (A0 : Option Addr) (c0 : Nat) (l0 : List Int) (a1 : Int) (r : Int) (w : World) (hr0 : Kd.C (Kd.int .i64) w A0 l0.length l0) (hc0 : l0.length ≤ c0) (h : sifof_1.f k l0 a1 = some r) :
  Calls Try.prog 93 #[.slice A0 l0.length c0, .func (.func 92) #[] #[]] w fun e w' => e = .returned (.int .i64 r) ∧ Drawn0 w w' := by
 have HR0 := xA.mk hr0
 have HC0 := xA.mk hc0
 clear hr0 hc0
 have H : (sifof_1.l0 k l0 (l0.length : Int) 0) = some r := h
 clear h
 have H' := xA.mk H
 clear H
 go_enter Try.func93, Try.ntmps93
 go_wp2
 go_loopg [8] k (fun kq v8 w' => ∃ (x8_1 : Int), v8 = .int .i64 x8_1 ∧ xA (sifof_1.l0 kq l0 (l0.length : Int) x8_1 = some r) ∧ xA (kq ≤ k) ∧ Drawn0 w w')
 case atStart => exact ⟨(0), rfl, H', ⟨Nat.le_refl _⟩, qe⟩
 case round =>
  clear H'
  obtain ⟨x8_1, rfl, HA, HK1, ⟨m1, rfl⟩⟩ := hrel
  obtain _ | k1 := gk
  · exact absurd HA.out (by simp [sifof_1.l0])
  have H := HA.out
  clear HA
  simp only [sifof_1.l0] at H
  obtain ⟨c3b0, H⟩ | ⟨c3b0, H⟩ := yA H
  rotate_left
  ·
   obtain rfl := qx H
   go_wp2
   go_ret
   exact ⟨qf, qe⟩
  obtain ⟨c4b0, H⟩ := xF H
  obtain ⟨c5b0, H⟩ := xF H
  replace H := qw H
  obtain ⟨t103, A60, H⟩ := H
  replace H : (if t103 = true then (some x8_1) else (sifof_1.l0 k1 l0 (l0.length : Int) (wrap64 (x8_1 + 1)))) = some r := H
  have A6 := xA.mk A60
  clear A60
  by_cases c7 : t103 = true
  ·
   subst c7
   have H1 : (some x8_1) = some r := by rw [if_pos rfl] at H; exact H
   clear H
   have H := H1
   clear H1
   obtain rfl := qx H
   have p102 : 0 ≤ (x8_1 : Int) := qq
   have q102 : x8_1 < (l0.length : Int) := qq
   obtain ⟨ad102, e102, hx102_0⟩ := Kd.xU HR0.out x8_1 p102 q102
   cases e102
   replace p102 := eq_true p102
   replace q102 := eq_true q102
   go_wp2_with (first | (go_at_call 92; (with_reducible refine (line_of_1.calls (rd l0 x8_1) true _ A6.out).mono ?_); rintro e w' ⟨rfl, ⟨nd, rfl⟩⟩))
   go_ret
   exact ⟨qf, qe⟩
  replace c7 := Bool.eq_false_iff.mpr c7
  subst c7
  have H1 : (sifof_1.l0 k1 l0 (l0.length : Int) (wrap64 (x8_1 + 1))) = some r := by rw [if_neg (show ¬ (false = true) by decide)] at H; exact H
  clear H
  have H := H1
  clear H1
  have H' := xA.mk H
  clear H
  have p102 : 0 ≤ (x8_1 : Int) := qq
  have q102 : x8_1 < (l0.length : Int) := qq
  obtain ⟨ad102, e102, hx102_0⟩ := Kd.xU HR0.out x8_1 p102 q102
  cases e102
  replace p102 := eq_true p102
  replace q102 := eq_true q102
  go_wp2_with (first | (go_at_call 92; (with_reducible refine (line_of_1.calls (rd l0 x8_1) false _ A6.out).mono ?_); rintro e w' ⟨rfl, ⟨nd, rfl⟩⟩))
  go_roundg k1
  case measure => have := HK1.out; omega
  case rel => exact ⟨(wrap64 (x8_1 + 1)), rfl, H', ⟨by have := HK1.out; omega⟩, qe⟩
def scfof_1.f (k : Nat) (l0 : List Int) (a1 : Int) : Option (Bool) := (sifof_1.f k l0 a1).bind fun t104 => (some (decide (t104 ≥ 0)))
theorem scfof_1.mono : ∀ a0 a1 k, LeO (scfof_1.f k a0 a1) (scfof_1.f (k + 1) a0 a1) := by
 intro a0 a1 k
 unfold scfof_1.f
 repeat' first
   | (with_reducible exact sifof_1.mono _ _ _)
   | (with_reducible exact LeO.refl _)
   | (with_reducible exact LeO.none _)
   | (with_reducible refine LeO.ite ?_ ?_)
   | (with_reducible refine LeO.bind ?_ (fun _ => ?_))
   | exact sifof_1.mono _ _ _
theorem scfof_1.calls (k : Nat) (A0 : Option Addr) (c0 : Nat) (l0 : List Int) (a1 : Int) (r : Bool) (w : World) (hr0 : Kd.C (Kd.int .i64) w A0 l0.length l0) (hc0 : l0.length ≤ c0) (h : scfof_1.f k l0 a1 = some r) :
  Calls Try.prog 68 #[.slice A0 l0.length c0, .func (.func 92) #[] #[]] w fun e w' => e = .returned (.bool r) ∧ Drawn0 w w' := by
 have HR0 := xA.mk hr0
 have HC0 := xA.mk hc0
 clear hr0 hc0
 have H : ((sifof_1.f k l0 a1).bind fun t104 => (some (decide (t104 ≥ 0)))) = some r := h
 clear h
 replace H := qw H
 obtain ⟨t104, A30, H⟩ := H
 replace H : (some (decide (t104 ≥ 0))) = some r := H
 have A3 := xA.mk A30
 clear A30
 obtain rfl := qx H
 go_enter Try.func68, Try.ntmps68
 go_wp2_with (first | ((with_reducible refine xG (f := 93) rfl ?_); refine xM (some 7) rfl rfl Try.func93 jk rfl #[.slice A0 l0.length c0, .func (.func 92) #[] #[]] rfl qc ?_; (with_reducible refine (sifof_1.calls k _ _ l0 a1 t104 _ ?side1 ?side2 A3.out).mono ?_); (case side1 => repeat (first | exact HR0.out)); (case side2 => exact HC0.out); rintro e w' ⟨rfl, ⟨nd, rfl⟩⟩; refine ⟨_, rfl, ?_⟩))
 go_ret
 exact ⟨qf, qe⟩
mutual
def line_of.j0 : Nat → List (List Int) → Bool → Option ((List (List Int)) × Bool)
 | 0, _, _ => none
 | k + 1, x0, x13 => if x13 = true then (some (([] : List (List Int)), false)) else (line_of.l0 k x0 x0 (x0.length : Int) 0)
def line_of.l0 : Nat → List (List Int) → List (List Int) → Int → Int → Option ((List (List Int)) × Bool)
 | 0, _, _, _, _ => none
 | k + 1, x0, x14, x15, x16 => if x16 < x15 then (if 0 ≤ x16 then (if x16 < (x14.length : Int) then (if ((rd_L1 x14 x16).length : Int) = (x0.length : Int) then ((scfof_1.f k (rd_L1 x14 x16) 0).bind fun t106 => (if t106 = true then (some (([] : List (List Int)), false)) else (line_of.l0 k x0 x14 x15 (wrap64 (x16 + 1))))) else (some (([] : List (List Int)), false))) else (none)) else (none)) else (some (x0, true))
end
def line_of.f (k : Nat) (l0 : List (List Int)) : Option ((List (List Int)) × Bool) := if (l0.length : Int) < 1 then (line_of.j0 k l0 true) else (line_of.j0 k l0 (decide ((l0.length : Int) > 6)))
theorem line_of.mono_l : ∀ k, (∀ y0 y1, LeO (line_of.j0 k y0 y1) (line_of.j0 (k + 1) y0 y1)) ∧ (∀ y0 y1 y2 y3, LeO (line_of.l0 k y0 y1 y2 y3) (line_of.l0 (k + 1) y0 y1 y2 y3))
 | 0 => ⟨fun _ _ r h => by simp [line_of.j0] at h, fun _ _ _ _ r h => by simp [line_of.l0] at h⟩
 | k + 1 => by
  obtain ⟨ih0, ih1⟩ := line_of.mono_l k
  refine ⟨?_, ?_⟩
  ·
   intro y0 y1
   unfold line_of.j0
   repeat' first
   | (with_reducible exact LeO.refl _)
   | (with_reducible exact LeO.none _)
   | (with_reducible refine LeO.ite ?_ ?_)
   | (with_reducible refine LeO.bind ?_ (fun _ => ?_))
   | exact ih0 _ _
   | exact ih1 _ _ _ _
   | exact scfof_1.mono _ _ _
  ·
   intro y0 y1 y2 y3
   unfold line_of.l0
   repeat' first
   | (with_reducible exact LeO.refl _)
   | (with_reducible exact LeO.none _)
   | (with_reducible refine LeO.ite ?_ ?_)
   | (with_reducible refine LeO.bind ?_ (fun _ => ?_))
   | exact ih0 _ _
   | exact ih1 _ _ _ _
   | exact scfof_1.mono _ _ _
theorem line_of.mono : ∀ a0 k, LeO (line_of.f k a0) (line_of.f (k + 1) a0) := by
 intro a0 k
 obtain ⟨ih0, ih1⟩ := line_of.mono_l k
 unfold line_of.f
 repeat' first
   | (with_reducible exact LeO.refl _)
   | (with_reducible exact LeO.none _)
   | (with_reducible refine LeO.ite ?_ ?_)
   | (with_reducible refine LeO.bind ?_ (fun _ => ?_))
   | exact ih0 _ _
   | exact ih1 _ _ _ _
   | exact scfof_1.mono _ _ _
theorem line_of.calls (k : Nat) (P0_ : Nat → Prop) (A0 : Option Addr) (c0 : Nat) (l0 : List (List Int)) (r1 : List (List Int)) (r2 : Bool) (w : World) (hs0 : Kd.V (Kd.slice 3 (Kd.int .i64)) 26 w w.heap.size (fun k_ => P0_ k_) (.slice A0 l0.length c0) l0) (h : line_of.f k l0 = some (r1, r2)) :
  Calls Try.prog 64 #[.slice A0 l0.length c0] w fun e w' => ∃ v0_ : Value, e = .returned (.tuple #[v0_, .bool r2]) ∧ Kd.V (Kd.slice 3 (Kd.int .i64)) 26 w' w.heap.size (fun k_ => (P0_ k_ ∨ w.heap.size ≤ k_)) v0_ r1 ∧ Below w.heap.size w w' := by
 have HO0 := xA.mk (show Kd.V (Kd.slice 3 (Kd.int .i64)) 26 w w.heap.size (fun k_ => (P0_ k_ ∨ w.heap.size ≤ k_)) (.slice A0 l0.length c0) l0 from Kd.V_mono hs0 (fun k_ hk => .inl hk))
 have HB := xA.mk (Below.refl w.heap.size w)
 have H : (if (l0.length : Int) < 1 then (line_of.j0 k l0 true) else (line_of.j0 k l0 (decide ((l0.length : Int) > 6)))) = some (r1, r2) := h
 clear h
 have HC2 := xA.mk H
 clear H
 go_enter Try.func64, Try.ntmps64
 go_upto_region 1 with (fail)
 go_cut [13] (fun v13 wc => ∃ (kq : Nat) (x13_1 : Bool), v13 = .bool x13_1 ∧ xA (line_of.j0 kq l0 x13_1 = some (r1, r2)) ∧ xA (kq ≤ k) ∧ xA (Kd.V (Kd.slice 3 (Kd.int .i64)) 26 wc w.heap.size (fun k_ => (P0_ k_ ∨ w.heap.size ≤ k_)) (.slice A0 l0.length c0) l0) ∧ xA (Below w.heap.size w wc))
 case first =>
  have H := HC2.out
  clear HC2
  obtain ⟨c3b0, H⟩ | ⟨c3b0, H⟩ := yA H
  rotate_left
  ·
   (first | rw [c3b0] | skip)
   have H' := xA.mk H
   clear H
   go_wp2
   go_meet
   case rel => exact ⟨_, (decide ((l0.length : Int) > 6)), rfl, H', ⟨by first | omega | exact Nat.le_refl _⟩, ⟨by exact HO0.out⟩, ⟨HB.out⟩⟩
  (first | rw [c3b0] | skip)
  have H' := xA.mk H
  clear H
  go_wp2
  go_meet
  case rel => exact ⟨_, (true), rfl, H', ⟨by first | omega | exact Nat.le_refl _⟩, ⟨by exact HO0.out⟩, ⟨HB.out⟩⟩
 case rest =>
  clear HC2
  obtain ⟨kq, x13_1, rfl, HA, HJ1, HO_0, HB⟩ := hcut
  obtain _ | kj1 := kq
  · exact absurd HA.out (by simp [line_of.j0])
  have H := HA.out
  clear HA
  simp only [line_of.j0] at H
  by_cases c4 : x13_1 = true
  ·
   subst c4
   have H1 : (some (([] : List (List Int)), false)) = some (r1, r2) := by rw [if_pos rfl] at H; exact H
   clear H
   have H := H1
   clear H1
   simp only [Option.some.injEq, Prod.mk.injEq] at H
   obtain ⟨rfl, rfl⟩ := H
   go_wp2
   go_ret2
   exact ⟨_, rfl, (show Kd.V _ _ _ _ _ (.slice none 0 0) _ from Kd.V_nil _ _ _ _ _), HB.out⟩
  replace c4 := Bool.eq_false_iff.mpr c4
  subst c4
  have H1 : (line_of.l0 kj1 l0 l0 (l0.length : Int) 0) = some (r1, r2) := by rw [if_neg (show ¬ (false = true) by decide)] at H; exact H
  clear H
  have H := H1
  clear H1
  have H' := xA.mk H
  clear H
  go_wp2
  go_loopg [16] kj1 (fun kq v16 w' => ∃ (x16_2 : Int), v16 = .int .i64 x16_2 ∧ xA (line_of.l0 kq l0 l0 (l0.length : Int) x16_2 = some (r1, r2)) ∧ xA (kq ≤ kj1) ∧ xA (Kd.V (Kd.slice 3 (Kd.int .i64)) 26 w' w.heap.size (fun k_ => (P0_ k_ ∨ w.heap.size ≤ k_)) (.slice A0 l0.length c0) l0) ∧ xA (Kd.V (Kd.slice 3 (Kd.int .i64)) 26 w' w.heap.size (fun k_ => (P0_ k_ ∨ w.heap.size ≤ k_)) (.slice A0 l0.length c0) l0) ∧ xA (Below w.heap.size w w'))
  case atStart => exact ⟨(0), rfl, H', ⟨Nat.le_refl _⟩, ⟨by exact HO_0.out⟩, ⟨by exact HO_0.out⟩, ⟨HB.out⟩⟩
  case round =>
   clear H'
   obtain ⟨x16_2, rfl, HA, HK2, HO_0, HO_14, HB⟩ := hrel
   obtain _ | k2 := gk
   · exact absurd HA.out (by simp [line_of.l0])
   have H := HA.out
   clear HA
   simp only [line_of.l0] at H
   obtain ⟨c5b0, H⟩ | ⟨c5b0, H⟩ := yA H
   rotate_left
   ·
    simp only [Option.some.injEq, Prod.mk.injEq] at H
    obtain ⟨rfl, rfl⟩ := H
    go_wp2
    go_ret2
    exact ⟨_, rfl, by exact HO_0.out, HB.out⟩
   obtain ⟨c6b0, H⟩ := xF H
   obtain ⟨c7b0, H⟩ := xF H
   by_cases c8 : ((rd_L1 l0 x16_2).length : Int) = (l0.length : Int)
   rotate_left
   ·
    rw [if_neg c8] at H
    have c8b0 : (((rd_L1 l0 x16_2).length : Int) == (l0.length : Int)) = false := jg c8
    have c8b2 : ((rd_L1 l0 x16_2).length == l0.length) = false := by first | simpa using c8 | (simp at c8 ⊢; omega)
    simp only [Option.some.injEq, Prod.mk.injEq] at H
    obtain ⟨rfl, rfl⟩ := H
    have p105 : 0 ≤ (x16_2 : Int) := qq
    have q105 : x16_2 < (l0.length : Int) := qq
    obtain ⟨ad105, A105_0, c105_0, e105, hx105_0, hl105_0, hi105_0⟩ := at_L1 (Kd.xW HO_14.out).2.2 x16_2 p105 q105
    cases e105
    obtain ⟨ce105, hce105, hMe105, hcc105⟩ := Kd.V_get HO_14.out [] x16_2 p105 (by first | exact q105 | exact qq | (have e_ := (Kd.xW HO_14.out).1; omega))
    obtain ⟨ua105_0, uc105_0, rfl, ul105_0, ge105_0⟩ := Kd.xX hMe105
    have hv105_0 := hcc105 0 _ rfl
    rw [Nat.add_zero, show ((Kd.slice 3 (Kd.int .i64))).sz = 1 from rfl, Nat.mul_one] at hv105_0
    replace hv105_0 := qx (hv105_0.symm.trans hx105_0)
    injection hv105_0 with hva_ hvn_ hvc_
    rw [hva_] at ge105_0
    rw [hvc_] at ul105_0
    have HL105_0 := xA.mk (show Kd.V (Kd.int .i64) 3 _ w.heap.size _ _ (rd_L1 l0 x16_2) from Kd.V_mk ul105_0 ge105_0)
    clear hva_ hvn_ hvc_ ge105_0 ul105_0
    clear hcc105 hce105
    have HR105_0 := xA.mk hi105_0
    have HC105_0 := xA.mk hl105_0
    clear hi105_0 hl105_0
    replace p105 := eq_true p105
    replace q105 := eq_true q105
    go_wp2
    go_ret2
    exact ⟨_, rfl, (show Kd.V _ _ _ _ _ (.slice none 0 0) _ from Kd.V_nil _ _ _ _ _), HB.out⟩
   rw [if_pos c8] at H
   have c8b0 : (((rd_L1 l0 x16_2).length : Int) == (l0.length : Int)) = true := beq_iff_eq.mpr c8
   have c8b1 : (((rd_L1 l0 x16_2).length : Int) != (l0.length : Int)) = false := bne_eq_false_iff_eq.mpr c8
   have c8b2 : ((rd_L1 l0 x16_2).length == l0.length) = true := by first | simpa using c8 | (simp at c8 ⊢; omega)
   clear c8
   replace H := qw H
   obtain ⟨t106, A90, H⟩ := H
   replace H : (if t106 = true then (some (([] : List (List Int)), false)) else (line_of.l0 k2 l0 l0 (l0.length : Int) (wrap64 (x16_2 + 1)))) = some (r1, r2) := H
   have A9 := xA.mk A90
   clear A90
   by_cases c10 : t106 = true
   ·
    subst c10
    have H1 : (some (([] : List (List Int)), false)) = some (r1, r2) := by rw [if_pos rfl] at H; exact H
    clear H
    have H := H1
    clear H1
    simp only [Option.some.injEq, Prod.mk.injEq] at H
    obtain ⟨rfl, rfl⟩ := H
    have p105 : 0 ≤ (x16_2 : Int) := qr
    have q105 : x16_2 < (l0.length : Int) := qr
    obtain ⟨ad105, A105_0, c105_0, e105, hx105_0, hl105_0, hi105_0⟩ := at_L1 (Kd.xW HO_14.out).2.2 x16_2 p105 q105
    cases e105
    obtain ⟨ce105, hce105, hMe105, hcc105⟩ := Kd.V_get HO_14.out [] x16_2 p105 (by first | exact q105 | exact qr | (have e_ := (Kd.xW HO_14.out).1; omega))
    obtain ⟨ua105_0, uc105_0, rfl, ul105_0, ge105_0⟩ := Kd.xX hMe105
    have hv105_0 := hcc105 0 _ rfl
    rw [Nat.add_zero, show ((Kd.slice 3 (Kd.int .i64))).sz = 1 from rfl, Nat.mul_one] at hv105_0
    replace hv105_0 := qx (hv105_0.symm.trans hx105_0)
    injection hv105_0 with hva_ hvn_ hvc_
    rw [hva_] at ge105_0
    rw [hvc_] at ul105_0
    have HL105_0 := xA.mk (show Kd.V (Kd.int .i64) 3 _ w.heap.size _ _ (rd_L1 l0 x16_2) from Kd.V_mk ul105_0 ge105_0)
    clear hva_ hvn_ hvc_ ge105_0 ul105_0
    clear hcc105 hce105
    have HR105_0 := xA.mk hi105_0
    have HC105_0 := xA.mk hl105_0
    clear hi105_0 hl105_0
    replace p105 := eq_true p105
    replace q105 := eq_true q105
    go_wp2_with (first | (go_at_call 68; (with_reducible refine (scfof_1.calls k2 _ _ (rd_L1 l0 x16_2) 0 true _ ?side1 ?side2 A9.out).mono ?_); (case side1 => repeat (first | exact (by repeat (first | (with_reducible exact HR105_0.out) | (with_reducible refine Kd.C_alloc ?_ _) | (with_reducible refine Kd.C_drewN ?_ _) | (with_reducible refine Kd.C_drew ?_) | exact HR105_0.out)) | (with_reducible refine Kd.C_alloc ?_ _) | (with_reducible refine Kd.C_drewN ?_ _) | (with_reducible refine Kd.C_drew ?_))); (case side2 => exact HC105_0.out); rintro e w' ⟨rfl, ⟨nd, rfl⟩⟩))
    go_ret2
    exact ⟨_, qg, (show Kd.V _ _ _ _ _ (.slice none 0 0) _ from Kd.V_nil _ _ _ _ _), qa⟩
   replace c10 := Bool.eq_false_iff.mpr c10
   subst c10
   have H1 : (line_of.l0 k2 l0 l0 (l0.length : Int) (wrap64 (x16_2 + 1))) = some (r1, r2) := by rw [if_neg (show ¬ (false = true) by decide)] at H; exact H
   clear H
   have H := H1
   clear H1
   have H' := xA.mk H
   clear H
   have p105 : 0 ≤ (x16_2 : Int) := qr
   have q105 : x16_2 < (l0.length : Int) := qr
   obtain ⟨ad105, A105_0, c105_0, e105, hx105_0, hl105_0, hi105_0⟩ := at_L1 (Kd.xW HO_14.out).2.2 x16_2 p105 q105
   cases e105
   obtain ⟨ce105, hce105, hMe105, hcc105⟩ := Kd.V_get HO_14.out [] x16_2 p105 (by first | exact q105 | exact qq | (have e_ := (Kd.xW HO_14.out).1; omega))
   obtain ⟨ua105_0, uc105_0, rfl, ul105_0, ge105_0⟩ := Kd.xX hMe105
   have hv105_0 := hcc105 0 _ rfl
   rw [Nat.add_zero, show ((Kd.slice 3 (Kd.int .i64))).sz = 1 from rfl, Nat.mul_one] at hv105_0
   replace hv105_0 := qx (hv105_0.symm.trans hx105_0)
   injection hv105_0 with hva_ hvn_ hvc_
   rw [hva_] at ge105_0
   rw [hvc_] at ul105_0
   have HL105_0 := xA.mk (show Kd.V (Kd.int .i64) 3 _ w.heap.size _ _ (rd_L1 l0 x16_2) from Kd.V_mk ul105_0 ge105_0)
   clear hva_ hvn_ hvc_ ge105_0 ul105_0
   clear hcc105 hce105
   have HR105_0 := xA.mk hi105_0
   have HC105_0 := xA.mk hl105_0
   clear hi105_0 hl105_0
   replace p105 := eq_true p105
   replace q105 := eq_true q105
   go_wp2_with (first | (go_at_call 68; (with_reducible refine (scfof_1.calls k2 _ _ (rd_L1 l0 x16_2) 0 false _ ?side1 ?side2 A9.out).mono ?_); (case side1 => repeat (first | exact (by repeat (first | (with_reducible exact HR105_0.out) | exact HR105_0.out)))); (case side2 => exact HC105_0.out); rintro e w' ⟨rfl, ⟨nd, rfl⟩⟩))
   go_roundg k2
   case measure => have := HJ1.out; have := HK2.out; omega
   case rel => exact ⟨(wrap64 (x16_2 + 1)), rfl, H', ⟨by have := HJ1.out; have := HK2.out; omega⟩, ⟨by exact HO_0.out⟩, ⟨by exact HO_14.out⟩, ⟨qb⟩⟩
def line_never_int.f  : Option (Int) := some (-1152921504606846976)
theorem line_never_int.calls  (r : Int) (w : World) (h : line_never_int.f  = some r) :
  Calls Try.prog 83 #[] w fun e w' => e = .returned (.int .i64 r) ∧ Drawn0 w w' := by
 have H : (some (-1152921504606846976)) = some r := h
 clear h
 obtain rfl := qx H
 go_enter Try.func83, Try.ntmps83
 go_wp2
 go_ret
 exact ⟨qf, qe⟩
def line_both_int.f (a0 : Int) (a1 : Int) : Option (Int) := (line_never_int.f).bind fun t107 => (if a0 = t107 then ((line_never_int.f).bind fun t108 => (some t108)) else ((line_never_int.f).bind fun t109 => (if a1 = t109 then ((line_never_int.f).bind fun t110 => (some t110)) else (some (wrap64 (a0 + a1))))))
theorem line_both_int.calls (a0 : Int) (a1 : Int) (r : Int) (w : World) (h : line_both_int.f a0 a1 = some r) :
  Calls Try.prog 91 #[.int .i64 a0, .int .i64 a1] w fun e w' => e = .returned (.int .i64 r) ∧ Drawn0 w w' := by
 have H : ((line_never_int.f).bind fun t107 => (if a0 = t107 then ((line_never_int.f).bind fun t108 => (some t108)) else ((line_never_int.f).bind fun t109 => (if a1 = t109 then ((line_never_int.f).bind fun t110 => (some t110)) else (some (wrap64 (a0 + a1))))))) = some r := h
 clear h
 replace H := qw H
 obtain ⟨t107, A30, H⟩ := H
 replace H : (if a0 = t107 then ((line_never_int.f).bind fun t108 => (some t108)) else ((line_never_int.f).bind fun t109 => (if a1 = t109 then ((line_never_int.f).bind fun t110 => (some t110)) else (some (wrap64 (a0 + a1)))))) = some r := H
 have A3 := xA.mk A30
 clear A30
 by_cases c4 : a0 = t107
 ·
  rw [if_pos c4] at H
  have c4b0 : (a0 == t107) = true := beq_iff_eq.mpr c4
  clear c4
  replace H := qw H
  obtain ⟨t108, A50, H⟩ := H
  replace H : (some t108) = some r := H
  have A5 := xA.mk A50
  clear A50
  obtain rfl := qx H
  go_enter Try.func91, Try.ntmps91
  go_wp2_with (first | ((with_reducible refine xG (f := 83) rfl ?_); refine xM (some 6) rfl rfl Try.func83 jk rfl #[] rfl qc ?_; (with_reducible refine (line_never_int.calls  t107 _ A3.out).mono ?_); rintro e w' ⟨rfl, ⟨nd, rfl⟩⟩; refine ⟨_, rfl, ?_⟩) | ((with_reducible refine xG (f := 83) rfl ?_); refine xM (some 13) rfl rfl Try.func83 jk rfl #[] rfl qc ?_; (with_reducible refine (line_never_int.calls  t108 _ A5.out).mono ?_); rintro e w' ⟨rfl, ⟨nd, rfl⟩⟩; refine ⟨_, rfl, ?_⟩))
  go_ret
  exact ⟨qf, qe⟩
 rw [if_neg c4] at H
 have c4b0 : (a0 == t107) = false := jg c4
 replace H := qw H
 obtain ⟨t109, A60, H⟩ := H
 replace H : (if a1 = t109 then ((line_never_int.f).bind fun t110 => (some t110)) else (some (wrap64 (a0 + a1)))) = some r := H
 have A6 := xA.mk A60
 clear A60
 by_cases c7 : a1 = t109
 rotate_left
 ·
  rw [if_neg c7] at H
  have c7b0 : (a1 == t109) = false := jg c7
  obtain rfl := qx H
  go_enter Try.func91, Try.ntmps91
  go_wp2_with (first | ((with_reducible refine xG (f := 83) rfl ?_); refine xM (some 6) rfl rfl Try.func83 jk rfl #[] rfl qc ?_; (with_reducible refine (line_never_int.calls  t107 _ A3.out).mono ?_); rintro e w' ⟨rfl, ⟨nd, rfl⟩⟩; refine ⟨_, rfl, ?_⟩) | (go_at_call 83; (with_reducible refine (line_never_int.calls  t109 _ A6.out).mono ?_); rintro e w' ⟨rfl, ⟨nd, rfl⟩⟩))
  go_ret
  exact ⟨qf, qe⟩
 rw [if_pos c7] at H
 have c7b0 : (a1 == t109) = true := beq_iff_eq.mpr c7
 clear c7
 replace H := qw H
 obtain ⟨t110, A80, H⟩ := H
 replace H : (some t110) = some r := H
 have A8 := xA.mk A80
 clear A80
 obtain rfl := qx H
 go_enter Try.func91, Try.ntmps91
 go_wp2_with (first | ((with_reducible refine xG (f := 83) rfl ?_); refine xM (some 6) rfl rfl Try.func83 jk rfl #[] rfl qc ?_; (with_reducible refine (line_never_int.calls  t107 _ A3.out).mono ?_); rintro e w' ⟨rfl, ⟨nd, rfl⟩⟩; refine ⟨_, rfl, ?_⟩) | (go_at_call 83; (with_reducible refine (line_never_int.calls  t109 _ A6.out).mono ?_); rintro e w' ⟨rfl, ⟨nd, rfl⟩⟩) | ((with_reducible refine xG (f := 83) rfl ?_); refine xM (some 13) rfl rfl Try.func83 jk rfl #[] rfl qc ?_; (with_reducible refine (line_never_int.calls  t110 _ A8.out).mono ?_); rintro e w' ⟨rfl, ⟨nd, rfl⟩⟩; refine ⟨_, rfl, ?_⟩))
 go_ret
 exact ⟨qf, qe⟩
mutual
def lgtimes.l0 : Nat → List (List Int) → List (List Int) → List (List Int) → Int → Int → Option ((List (List Int)))
 | 0, _, _, _, _, _ => none
 | k + 1, x0, x1, x5, x14, x15 => if x15 < x14 then (if 0 ≤ (x0.length : Int) then (if ((x0.length : Int) : Int).toNat ≤ 35184372088832 then (if 0 ≤ x15 then (if x15 < (x5.length : Int) then (lgtimes.l1 k x0 x1 (x5.set (x15 : Int).toNat (List.replicate ((x0.length : Int) : Int).toNat 0)) x15 x14 x15 (x0.length : Int) 0) else (none)) else (none)) else (none)) else (none)) else (some x5)
def lgtimes.l1 : Nat → List (List Int) → List (List Int) → List (List Int) → Int → Int → Int → Int → Int → Option ((List (List Int)))
 | 0, _, _, _, _, _, _, _, _ => none
 | k + 1, x0, x1, x5, x6, x14, x15, x25, x26 => if x26 < x25 then ((line_never_int.f).bind fun t118 => (lgtimes.l2 k x0 x1 x5 x6 x26 t118 x14 x15 x25 x26 (x0.length : Int) 0)) else (lgtimes.l0 k x0 x1 x5 x14 (wrap64 (x15 + 1)))
def lgtimes.l2 : Nat → List (List Int) → List (List Int) → List (List Int) → Int → Int → Int → Int → Int → Int → Int → Int → Int → Option ((List (List Int)))
 | 0, _, _, _, _, _, _, _, _, _, _, _, _ => none
 | k + 1, x0, x1, x5, x6, x7, x8, x14, x15, x25, x26, x31, x32 => if x32 < x31 then (if 0 ≤ x6 then (if x6 < (x0.length : Int) then (if 0 ≤ x32 then (if x32 < ((rd_L1 x0 x6).length : Int) then (if x32 < (x1.length : Int) then (if 0 ≤ x7 then (if x7 < ((rd_L1 x1 x32).length : Int) then ((line_both_int.f (rd (rd_L1 x0 x6) x32) (rd (rd_L1 x1 x32) x7)).bind fun t123 => (lgtimes.l2 k x0 x1 x5 x6 x7 (mx x8 t123) x14 x15 x25 x26 x31 (wrap64 (x32 + 1)))) else (none)) else (none)) else (none)) else (none)) else (none)) else (none)) else (none)) else (if 0 ≤ x6 then (if x6 < (x5.length : Int) then (if 0 ≤ x7 then (if x7 < ((rd_L1 x5 x6).length : Int) then (lgtimes.l1 k x0 x1 (x5.set (x6 : Int).toNat ((rd_L1 x5 x6).set (x7 : Int).toNat x8)) x6 x14 x15 x25 (wrap64 (x26 + 1))) else (none)) else (none)) else (none)) else (none))
end
def lgtimes.f (k : Nat) (l0 : List (List Int)) (l1 : List (List Int)) : Option ((List (List Int))) := if 0 ≤ (l0.length : Int) then (if ((l0.length : Int) : Int).toNat ≤ 11728124029610 then (lgtimes.l0 k l0 l1 (List.replicate ((l0.length : Int) : Int).toNat []) (l0.length : Int) 0) else (none)) else (none)
theorem lgtimes.mono_l : ∀ k, (∀ y0 y1 y2 y3 y4, LeO (lgtimes.l0 k y0 y1 y2 y3 y4) (lgtimes.l0 (k + 1) y0 y1 y2 y3 y4)) ∧ (∀ y0 y1 y2 y3 y4 y5 y6 y7, LeO (lgtimes.l1 k y0 y1 y2 y3 y4 y5 y6 y7) (lgtimes.l1 (k + 1) y0 y1 y2 y3 y4 y5 y6 y7)) ∧ (∀ y0 y1 y2 y3 y4 y5 y6 y7 y8 y9 y10 y11, LeO (lgtimes.l2 k y0 y1 y2 y3 y4 y5 y6 y7 y8 y9 y10 y11) (lgtimes.l2 (k + 1) y0 y1 y2 y3 y4 y5 y6 y7 y8 y9 y10 y11))
 | 0 => ⟨fun _ _ _ _ _ r h => by simp [lgtimes.l0] at h, fun _ _ _ _ _ _ _ _ r h => by simp [lgtimes.l1] at h, fun _ _ _ _ _ _ _ _ _ _ _ _ r h => by simp [lgtimes.l2] at h⟩
 | k + 1 => by
  obtain ⟨ih0, ih1, ih2⟩ := lgtimes.mono_l k
  refine ⟨?_, ?_, ?_⟩
  ·
   intro y0 y1 y2 y3 y4
   unfold lgtimes.l0
   repeat' first
   | (with_reducible exact LeO.refl _)
   | (with_reducible exact LeO.none _)
   | (with_reducible refine LeO.ite ?_ ?_)
   | (with_reducible refine LeO.bind ?_ (fun _ => ?_))
   | exact ih0 _ _ _ _ _
   | exact ih1 _ _ _ _ _ _ _ _
   | exact ih2 _ _ _ _ _ _ _ _ _ _ _ _
  ·
   intro y0 y1 y2 y3 y4 y5 y6 y7
   unfold lgtimes.l1
   repeat' first
   | (with_reducible exact LeO.refl _)
   | (with_reducible exact LeO.none _)
   | (with_reducible refine LeO.ite ?_ ?_)
   | (with_reducible refine LeO.bind ?_ (fun _ => ?_))
   | exact ih0 _ _ _ _ _
   | exact ih1 _ _ _ _ _ _ _ _
   | exact ih2 _ _ _ _ _ _ _ _ _ _ _ _
  ·
   intro y0 y1 y2 y3 y4 y5 y6 y7 y8 y9 y10 y11
   unfold lgtimes.l2
   repeat' first
   | (with_reducible exact LeO.refl _)
   | (with_reducible exact LeO.none _)
   | (with_reducible refine LeO.ite ?_ ?_)
   | (with_reducible refine LeO.bind ?_ (fun _ => ?_))
   | exact ih0 _ _ _ _ _
   | exact ih1 _ _ _ _ _ _ _ _
   | exact ih2 _ _ _ _ _ _ _ _ _ _ _ _
theorem lgtimes.mono : ∀ a0 a1 k, LeO (lgtimes.f k a0 a1) (lgtimes.f (k + 1) a0 a1) := by
 intro a0 a1 k
 obtain ⟨ih0, ih1, ih2⟩ := lgtimes.mono_l k
 unfold lgtimes.f
 repeat' first
   | (with_reducible exact LeO.refl _)
   | (with_reducible exact LeO.none _)
   | (with_reducible refine LeO.ite ?_ ?_)
   | (with_reducible refine LeO.bind ?_ (fun _ => ?_))
   | exact ih0 _ _ _ _ _
   | exact ih1 _ _ _ _ _ _ _ _
   | exact ih2 _ _ _ _ _ _ _ _ _ _ _ _
theorem lgtimes.calls (k : Nat) (A0 : Option Addr) (c0 : Nat) (l0 : List (List Int)) (A1 : Option Addr) (c1 : Nat) (l1 : List (List Int)) (r : List (List Int)) (w : World) (hr0 : Kd.C (Kd.slice 3 (Kd.int .i64)) w A0 l0.length l0) (hc0 : l0.length ≤ c0) (hr1 : Kd.C (Kd.slice 3 (Kd.int .i64)) w A1 l1.length l1) (hc1 : l1.length ≤ c1) (h : lgtimes.f k l0 l1 = some r) :
  Calls Try.prog 59 #[.slice A0 l0.length c0, .slice A1 l1.length c1] w fun e w' => ∃ v0_ : Value, e = .returned (v0_) ∧ Kd.S (Kd.slice 3 (Kd.int .i64)) 26 w' w.heap.size (fun _ => True) v0_ r ∧ Below w.heap.size w w' := by
 have HR0 := xA.mk hr0
 have HC0 := xA.mk hc0
 clear hr0 hc0
 have HR1 := xA.mk hr1
 have HC1 := xA.mk hc1
 clear hr1 hc1
 have HB := xA.mk (Below.refl w.heap.size w)
 have H : (if 0 ≤ (l0.length : Int) then (if ((l0.length : Int) : Int).toNat ≤ 11728124029610 then (lgtimes.l0 k l0 l1 (List.replicate ((l0.length : Int) : Int).toNat []) (l0.length : Int) 0) else (none)) else (none)) = some r := h
 clear h
 obtain ⟨c3, H⟩ := yF H
 have c3b0 := eq_true c3
 have c3b1 : decide (0 ≤ (l0.length : Int)) = true := qu c3
 clear c3
 obtain ⟨c4, H⟩ := yF H
 have c4b0 := eq_true c4
 have c4b1 : decide (((l0.length : Int) : Int).toNat ≤ 11728124029610) = true := qu c4
 clear c4
 obtain ⟨y111, hy111⟩ : ∃ y_ : List (List Int), y_ = (List.replicate ((l0.length : Int) : Int).toNat []) := ⟨_, rfl⟩
 replace H : (lgtimes.l0 k l0 l1 y111 (l0.length : Int) 0) = some r := by first | (rw [hy111]; with_reducible exact H) | (have H2_ := (Option.bind_some _ _).symm.trans H; rw [hy111]; with_reducible exact H2_) | (have H2_ := (Option.bind_some _ _).symm.trans H; with_reducible exact H2_) | with_reducible exact H | (rw [hy111]; exact H) | exact H
 have Ny111 := xA.mk hy111
 clear hy111
 have H' := xA.mk H
 clear H
 go_enter Try.func59, Try.ntmps59
 go_wp2_with (first | ((with_reducible refine xZ (N := 12) rfl ?_); refine Kd.S_make (Kd.slice 3 (Kd.int .i64)) _ 26 rfl (N := 12) rfl 56 _ _ rfl (l0.length : Int) rfl rfl Try.underlying56 (.slice none 0 0) 24 info26 rfl (by decide) jj [] (ok := fun _ => True) (okp := fun _ => True) ⟨_, rfl, Kd.R_nil _ _ _ _ _⟩ (fun _ hk => hk) trivial (qr) (Nat.le_trans (Nat.mul_le_mul_right _ (qr : (l0.length : Int).toNat ≤ 11728124029610)) jj) (Below.refl _ _) (Nat.le_refl _) ?_; intro v112 w5 ho6 hb hg_ hnew_; clear hg_ hnew_; (first | rw [← Ny111.out] at ho6 | (simp only [Int.reduceToNat] at ho6; rw [← Ny111.out] at ho6)); have HO113 := xA.mk (Kd.S_lower ho6 (xB qa)); replace HB := xA.mk (xD qa hb); clear hb ho6))
 repeat (go_quiet (first | ((with_reducible refine xZ (N := 12) rfl ?_); refine Kd.S_make (Kd.slice 3 (Kd.int .i64)) _ 26 rfl (N := 12) rfl 56 _ _ rfl (l0.length : Int) rfl rfl Try.underlying56 (.slice none 0 0) 24 info26 rfl (by decide) jj [] (ok := fun _ => True) (okp := fun _ => True) ⟨_, rfl, Kd.R_nil _ _ _ _ _⟩ (fun _ hk => hk) trivial (qr) (Nat.le_trans (Nat.mul_le_mul_right _ (qr : (l0.length : Int).toNat ≤ 11728124029610)) jj) (Below.refl _ _) (Nat.le_refl _) ?_; intro v112 w5 ho6 hb hg_ hnew_; clear hg_ hnew_; (first | rw [← Ny111.out] at ho6 | (simp only [Int.reduceToNat] at ho6; rw [← Ny111.out] at ho6)); have HO113 := xA.mk (Kd.S_lower ho6 (xB qa)); replace HB := xA.mk (xD qa hb); clear hb ho6)); try go_wp2_with (first | ((with_reducible refine xZ (N := 12) rfl ?_); refine Kd.S_make (Kd.slice 3 (Kd.int .i64)) _ 26 rfl (N := 12) rfl 56 _ _ rfl (l0.length : Int) rfl rfl Try.underlying56 (.slice none 0 0) 24 info26 rfl (by decide) jj [] (ok := fun _ => True) (okp := fun _ => True) ⟨_, rfl, Kd.R_nil _ _ _ _ _⟩ (fun _ hk => hk) trivial (qr) (Nat.le_trans (Nat.mul_le_mul_right _ (qr : (l0.length : Int).toNat ≤ 11728124029610)) jj) (Below.refl _ _) (Nat.le_refl _) ?_; intro v112 w5 ho6 hb hg_ hnew_; clear hg_ hnew_; (first | rw [← Ny111.out] at ho6 | (simp only [Int.reduceToNat] at ho6; rw [← Ny111.out] at ho6)); have HO113 := xA.mk (Kd.S_lower ho6 (xB qa)); replace HB := xA.mk (xD qa hb); clear hb ho6)))
 go_loopg [15] k (fun kq v15 w' => ∃ (x5_1 : List (List Int)) (x15_1 : Int), v15 = .int .i64 x15_1 ∧ xA (lgtimes.l0 kq l0 l1 x5_1 (l0.length : Int) x15_1 = some r) ∧ xA (kq ≤ k) ∧ xA (Kd.S (Kd.slice 3 (Kd.int .i64)) 26 w' w.heap.size (fun _ => True) v112 x5_1) ∧ xA (Below w.heap.size w w'))
 case atStart => exact ⟨(y111), (0), qf, H', ⟨Nat.le_refl _⟩, ⟨qh HO113.out⟩, ⟨qa⟩⟩
 case round =>
  clear H'
  try clear c1
  try clear p2
  try clear c3
  try clear c3b0
  try clear c3b1
  try clear c4
  try clear c4b0
  try clear c4b1
  try clear c5
  obtain ⟨x5_1, x15_1, rfl, HA, HK1, HO_5, HB⟩ := hrel
  obtain _ | k1 := gk
  · exact absurd HA.out (by simp [lgtimes.l0])
  have H := HA.out
  clear HA
  simp only [lgtimes.l0] at H
  obtain ⟨c7b0, H⟩ | ⟨c7b0, H⟩ := yA H
  rotate_left
  ·
   obtain rfl := qx H
   go_wp2
   go_ret
   exact ⟨_, rfl, by exact HO_5.out, HB.out⟩
  obtain ⟨c8, H⟩ := yF H
  have c8b0 := eq_true c8
  have c8b1 : decide (0 ≤ (l0.length : Int)) = true := qu c8
  clear c8
  obtain ⟨c9, H⟩ := yF H
  have c9b0 := eq_true c9
  have c9b1 : decide (((l0.length : Int) : Int).toNat ≤ 35184372088832) = true := qu c9
  clear c9
  obtain ⟨y114, hy114⟩ : ∃ y_ : List Int, y_ = (List.replicate ((l0.length : Int) : Int).toNat 0) := ⟨_, rfl⟩
  replace H : (if 0 ≤ x15_1 then (if x15_1 < (x5_1.length : Int) then (lgtimes.l1 k1 l0 l1 (x5_1.set (x15_1 : Int).toNat y114) x15_1 (l0.length : Int) x15_1 (l0.length : Int) 0) else (none)) else (none)) = some r := by first | (rw [hy114]; with_reducible exact H) | (have H2_ := (Option.bind_some _ _).symm.trans H; rw [hy114]; with_reducible exact H2_) | (have H2_ := (Option.bind_some _ _).symm.trans H; with_reducible exact H2_) | with_reducible exact H | (rw [hy114]; exact H) | exact H
  have Ny114 := xA.mk hy114
  clear hy114
  obtain ⟨c10b0, H⟩ := xF H
  obtain ⟨c11b0, H⟩ := xF H
  obtain ⟨y117, hy117⟩ : ∃ y_ : List (List Int), y_ = (x5_1.set (x15_1 : Int).toNat y114) := ⟨_, rfl⟩
  replace H : (lgtimes.l1 k1 l0 l1 y117 x15_1 (l0.length : Int) x15_1 (l0.length : Int) 0) = some r := by first | (rw [hy117]; with_reducible exact H) | (have H2_ := (Option.bind_some _ _).symm.trans H; rw [hy117]; with_reducible exact H2_) | (have H2_ := (Option.bind_some _ _).symm.trans H; with_reducible exact H2_) | with_reducible exact H | (rw [hy117]; exact H) | exact H
  have Ny117 := xA.mk hy117
  clear hy117
  have H' := xA.mk H
  clear H
  go_wp2_with (first | ((with_reducible refine xZ (N := 22) rfl ?_); refine Kd.R_make (Kd.int .i64) _ 3 rfl (N := 22) rfl 26 _ _ rfl (l0.length : Int) rfl rfl Try.underlying26 (.int .i64 0) 8 info3 rfl (by decide) jj 0 (ok := fun _ => True) (okp := fun _ => True) rfl (fun _ hk => hk) trivial (qr) (Nat.le_trans (Nat.mul_le_mul_right _ (qr : (l0.length : Int).toNat ≤ 35184372088832)) jj) (Below.refl _ _) (Nat.le_refl _) ?_; intro v115 w13 ho14 hb hg_ hnew_; clear hg_ hnew_; (first | rw [← Ny114.out] at ho14 | (simp only [Int.reduceToNat] at ho14; rw [← Ny114.out] at ho14)); replace HO_5 := xA.mk (Kd.S_elder' (qh HO_5.out) (Kd.R_base ho14) hb); have HO116 := xA.mk (Kd.R_lower ho14 (xB qa)); replace HB := xA.mk (xD qa hb); clear hb ho14; have p12 : 0 ≤ (x15_1 : Int) := qr; have q12 : (x15_1 : Int) < ((x5_1.length : Int) : Int) := qr; obtain ⟨go12, co12, eo12, gb12, gl12, cl12, HG12⟩ := Kd.S_form HO_5.out jj; (first | cases eo12 | (injection eo12 with ea_ en_ ec_; (first | subst ea_ | (injection ea_ with ea_; subst ea_)); subst ec_; clear en_)); have GB12 := xA.mk gb12; have GG12 := xA.mk HG12; clear gb12 gl12 HG12; obtain ⟨_, ce12, hcl12, hM12, hcc12, hfr12, _, _⟩ := Kd.S_elem HO_5.out [] (x15_1 : Int) p12 q12; obtain ⟨ve12_0, rfl, ge12_0⟩ := hM12; have hx12_0 := hcc12 0 _ rfl; have hf12_0 := hfr12 0; (try simp only [show ((Kd.slice 3 (Kd.int .i64))).sz = 1 from rfl, Nat.mul_one, Nat.add_zero] at hx12_0); (try simp only [show ((Kd.slice 3 (Kd.int .i64))).sz = 1 from rfl, Nat.mul_one, Nat.add_zero] at hf12_0); (try clear hM12); clear hcl12 hcc12 hfr12; replace p12 := eq_true p12; replace q12 := eq_true q12; have n_ := xA.mk (Kd.xT (ok' := (fun k_ => some k_ ≠ (v115 : Value).ownBlock)) HO_5.out (fun k_ hk => hk.2)); clear HO_5; have HO_5 := n_; clear n_; have HX15 := xA.mk (show Kd.S (Kd.slice 3 (Kd.int .i64)) 26 w13 w.heap.size (fun k_ => ((fun _ => True)) k_ ∧ ¬ ((fun k_ => some k_ = (v115 : Value).ownBlock)) k_) (.slice (some ⟨go12, 0, none⟩) x5_1.length co12) x5_1 from (by (with_reducible repeat (first | apply Kd.S_alloc | apply Kd.S_drewN | apply Kd.S_drew)); exact Kd.xT HO_5.out (fun k_ hk => ⟨trivial, fun e_ => hk e_⟩))); obtain ⟨oki15, ce15, hcl15, hM15, hcc15, hfr15, hoki15, hH15⟩ := Kd.S_elem HX15.out [] (x15_1 : Int) (qr) (by have h_ : (x15_1 : Int) < ((x5_1.length : Int) : Int) := qr; first | exact h_ | (have e_ := (Kd.xH HO_5.out).1; omega) | simpa using h_); obtain ⟨ve15_0, rfl, ge15_0⟩ := hM15; have HP15 := Kd.S_seg hH15 (qr) (by have h_ : (x15_1 : Int) < ((x5_1.length : Int) : Int) := qr; first | exact h_ | (have e_ := (Kd.xH HO_5.out).1; omega) | simpa using h_) (seg := [v115]) (j := 0) (show 1 ≤ 1 from by decide) (x' := y114) (Kd.M_row (Kd.R_mono (Kd.R_tight rfl (Kd.R_mono (ok' := fun k_ => ((fun _ => True)) k_ ∧ k_ ≠ go12) (Kd.R_apart' (HO116.out) (Kd.S_typed HO_5.out) (by decide)) (fun k_ hk => ⟨trivial, fun e_ => (hk.2) (by rw [e_]; rfl)⟩))) (fun _ h_ => Or.inr (h_)))) (fun _ hk => hk) (fun k_ hk_ => ((Kd.R_mono (ok' := fun k_ => ((fun _ => True)) k_ ∧ k_ ≠ go12) (Kd.R_apart' (HO116.out) (Kd.S_typed HO_5.out) (by decide)) (fun k_ hk => ⟨trivial, fun e_ => (hk.2) (by rw [e_]; rfl)⟩))).1 k_ hk_.symm); have hx15_0 := hcc15 0 _ rfl; (try simp only [show ((Kd.slice 3 (Kd.int .i64))).sz = 1 from rfl, Nat.mul_one, Nat.add_zero] at hx15_0); have hf15_0 := hfr15 0; (try simp only [show ((Kd.slice 3 (Kd.int .i64))).sz = 1 from rfl, Nat.mul_one, Nat.add_zero] at hf15_0); (try clear hM15); clear hcl15 hcc15 hfr15 hoki15 hH15; (try simp only [show ((Kd.slice 3 (Kd.int .i64))).sz = 1 from rfl, Nat.mul_one, Nat.add_zero] at HP15)) | ((with_reducible refine gate_store (t := 26) (p := 23) rfl ?_); (try (rw [drewN_self w13]; generalize hq_ : World.drewN w13 _ = w13; have n0_ := xA.mk (Kd.S_at hq_ HO_5.out); have n1_ := xA.mk (below_at hq_ HB.out); clear hq_ HO_5 HB; have HO_5 := n0_; have HB := n1_; clear n0_ n1_; (try (have n_ := xA.mk (Kd.xT (ok' := (fun k_ => some k_ ≠ (v115 : Value).ownBlock)) HO_5.out (fun k_ hk => hk.2)); clear HO_5; have HO_5 := n_; clear n_)); (try (have HX15 := xA.mk (show Kd.S (Kd.slice 3 (Kd.int .i64)) 26 w13 w.heap.size (fun k_ => ((fun _ => True)) k_ ∧ ¬ ((fun k_ => some k_ = (v115 : Value).ownBlock)) k_) (.slice (some ⟨go12, 0, none⟩) x5_1.length co12) x5_1 from (by (with_reducible repeat (first | apply Kd.S_alloc | apply Kd.S_drewN | apply Kd.S_drew)); exact Kd.xT HO_5.out (fun k_ hk => ⟨trivial, fun e_ => hk e_⟩))))); (try (obtain ⟨oki15, ce15, hcl15, hM15, hcc15, hfr15, hoki15, hH15⟩ := Kd.S_elem HX15.out [] (x15_1 : Int) (qr) (by have h_ : (x15_1 : Int) < ((x5_1.length : Int) : Int) := qr; first | exact h_ | (have e_ := (Kd.xH HO_5.out).1; omega) | simpa using h_))); (try (obtain ⟨ve15_0, rfl, ge15_0⟩ := hM15)); (try (have HP15 := Kd.S_seg hH15 (qr) (by have h_ : (x15_1 : Int) < ((x5_1.length : Int) : Int) := qr; first | exact h_ | (have e_ := (Kd.xH HO_5.out).1; omega) | simpa using h_) (seg := [v115]) (j := 0) (show 1 ≤ 1 from by decide) (x' := y114) (Kd.M_row (Kd.R_mono (Kd.R_tight rfl (Kd.R_mono (ok' := fun k_ => ((fun _ => True)) k_ ∧ k_ ≠ go12) (Kd.R_apart' (HO116.out) (Kd.S_typed HO_5.out) (by decide)) (fun k_ hk => ⟨trivial, fun e_ => (hk.2) (by rw [e_]; rfl)⟩))) (fun _ h_ => Or.inr (h_)))) (fun _ hk => hk) (fun k_ hk_ => ((Kd.R_mono (ok' := fun k_ => ((fun _ => True)) k_ ∧ k_ ≠ go12) (Kd.R_apart' (HO116.out) (Kd.S_typed HO_5.out) (by decide)) (fun k_ hk => ⟨trivial, fun e_ => (hk.2) (by rw [e_]; rfl)⟩))).1 k_ hk_.symm))); (try (have hx15_0 := hcc15 0 _ rfl)); (try (try simp only [show ((Kd.slice 3 (Kd.int .i64))).sz = 1 from rfl, Nat.mul_one, Nat.add_zero] at hx15_0)); (try (have hf15_0 := hfr15 0)); (try (try simp only [show ((Kd.slice 3 (Kd.int .i64))).sz = 1 from rfl, Nat.mul_one, Nat.add_zero] at hf15_0)); (try ((try clear hM15); clear hcl15 hcc15 hfr15 hoki15 hH15)); (try (try simp only [show ((Kd.slice 3 (Kd.int .i64))).sz = 1 from rfl, Nat.mul_one, Nat.add_zero] at HP15)))); refine store_event (t := 26) (p := 23) (v := ?vo_w16) (w1 := (w13.setCell ⟨go12, (x15_1 : Int).toNat, none⟩ (v115))) ?hg ?ho ?hn ?hr ?_; (case ho => rfl); (case hg => rfl); (case hn => rfl); (case hr => first | (go_simp; done) | (go_simp; rfl) | (obtain ⟨A_, c_, e_⟩ := Kd.R_slice (xA.out (by assumption : xA (Kd.R _ _ _ _ _ v115 _))); rw [e_]; go_simp; done) | (obtain ⟨A_, c_, e_⟩ := Kd.R_slice (xA.out (by assumption : xA (Kd.R _ _ _ _ _ v115 _))); rw [e_]; go_simp; rfl)); intro w16 hw; have hg : w13.grownBy w16 (some go12) := (by rw [hw]; exact HP15.2); have hp_ : Kd.S (Kd.slice 3 (Kd.int .i64)) 26 w16 w.heap.size (fun _ => True) (.slice (some ⟨go12, 0, none⟩) x5_1.length co12) y117 := (by rw [hw, Ny117.out]; exact HP15.1); clear HP15; have n0_ := xA.mk (hp_); have n1_ := xA.mk ((by rw [hw]; exact xR (HB.out) GB12.out : Below w.heap.size w w16)); clear HO_5; clear HB; clear HO116; have HO_5 := n0_; have HB := n1_; clear n0_ n1_; clear hg hw hp_))
  repeat (go_quiet (first | ((with_reducible refine xZ (N := 22) rfl ?_); refine Kd.R_make (Kd.int .i64) _ 3 rfl (N := 22) rfl 26 _ _ rfl (l0.length : Int) rfl rfl Try.underlying26 (.int .i64 0) 8 info3 rfl (by decide) jj 0 (ok := fun _ => True) (okp := fun _ => True) rfl (fun _ hk => hk) trivial (qr) (Nat.le_trans (Nat.mul_le_mul_right _ (qr : (l0.length : Int).toNat ≤ 35184372088832)) jj) (Below.refl _ _) (Nat.le_refl _) ?_; intro v115 w13 ho14 hb hg_ hnew_; clear hg_ hnew_; (first | rw [← Ny114.out] at ho14 | (simp only [Int.reduceToNat] at ho14; rw [← Ny114.out] at ho14)); replace HO_5 := xA.mk (Kd.S_elder' (qh HO_5.out) (Kd.R_base ho14) hb); have HO116 := xA.mk (Kd.R_lower ho14 (xB qa)); replace HB := xA.mk (xD qa hb); clear hb ho14; have p12 : 0 ≤ (x15_1 : Int) := qr; have q12 : (x15_1 : Int) < ((x5_1.length : Int) : Int) := qr; obtain ⟨go12, co12, eo12, gb12, gl12, cl12, HG12⟩ := Kd.S_form HO_5.out jj; (first | cases eo12 | (injection eo12 with ea_ en_ ec_; (first | subst ea_ | (injection ea_ with ea_; subst ea_)); subst ec_; clear en_)); have GB12 := xA.mk gb12; have GG12 := xA.mk HG12; clear gb12 gl12 HG12; obtain ⟨_, ce12, hcl12, hM12, hcc12, hfr12, _, _⟩ := Kd.S_elem HO_5.out [] (x15_1 : Int) p12 q12; obtain ⟨ve12_0, rfl, ge12_0⟩ := hM12; have hx12_0 := hcc12 0 _ rfl; have hf12_0 := hfr12 0; (try simp only [show ((Kd.slice 3 (Kd.int .i64))).sz = 1 from rfl, Nat.mul_one, Nat.add_zero] at hx12_0); (try simp only [show ((Kd.slice 3 (Kd.int .i64))).sz = 1 from rfl, Nat.mul_one, Nat.add_zero] at hf12_0); (try clear hM12); clear hcl12 hcc12 hfr12; replace p12 := eq_true p12; replace q12 := eq_true q12; have n_ := xA.mk (Kd.xT (ok' := (fun k_ => some k_ ≠ (v115 : Value).ownBlock)) HO_5.out (fun k_ hk => hk.2)); clear HO_5; have HO_5 := n_; clear n_; have HX15 := xA.mk (show Kd.S (Kd.slice 3 (Kd.int .i64)) 26 w13 w.heap.size (fun k_ => ((fun _ => True)) k_ ∧ ¬ ((fun k_ => some k_ = (v115 : Value).ownBlock)) k_) (.slice (some ⟨go12, 0, none⟩) x5_1.length co12) x5_1 from (by (with_reducible repeat (first | apply Kd.S_alloc | apply Kd.S_drewN | apply Kd.S_drew)); exact Kd.xT HO_5.out (fun k_ hk => ⟨trivial, fun e_ => hk e_⟩))); obtain ⟨oki15, ce15, hcl15, hM15, hcc15, hfr15, hoki15, hH15⟩ := Kd.S_elem HX15.out [] (x15_1 : Int) (qr) (by have h_ : (x15_1 : Int) < ((x5_1.length : Int) : Int) := qr; first | exact h_ | (have e_ := (Kd.xH HO_5.out).1; omega) | simpa using h_); obtain ⟨ve15_0, rfl, ge15_0⟩ := hM15; have HP15 := Kd.S_seg hH15 (qr) (by have h_ : (x15_1 : Int) < ((x5_1.length : Int) : Int) := qr; first | exact h_ | (have e_ := (Kd.xH HO_5.out).1; omega) | simpa using h_) (seg := [v115]) (j := 0) (show 1 ≤ 1 from by decide) (x' := y114) (Kd.M_row (Kd.R_mono (Kd.R_tight rfl (Kd.R_mono (ok' := fun k_ => ((fun _ => True)) k_ ∧ k_ ≠ go12) (Kd.R_apart' (HO116.out) (Kd.S_typed HO_5.out) (by decide)) (fun k_ hk => ⟨trivial, fun e_ => (hk.2) (by rw [e_]; rfl)⟩))) (fun _ h_ => Or.inr (h_)))) (fun _ hk => hk) (fun k_ hk_ => ((Kd.R_mono (ok' := fun k_ => ((fun _ => True)) k_ ∧ k_ ≠ go12) (Kd.R_apart' (HO116.out) (Kd.S_typed HO_5.out) (by decide)) (fun k_ hk => ⟨trivial, fun e_ => (hk.2) (by rw [e_]; rfl)⟩))).1 k_ hk_.symm); have hx15_0 := hcc15 0 _ rfl; (try simp only [show ((Kd.slice 3 (Kd.int .i64))).sz = 1 from rfl, Nat.mul_one, Nat.add_zero] at hx15_0); have hf15_0 := hfr15 0; (try simp only [show ((Kd.slice 3 (Kd.int .i64))).sz = 1 from rfl, Nat.mul_one, Nat.add_zero] at hf15_0); (try clear hM15); clear hcl15 hcc15 hfr15 hoki15 hH15; (try simp only [show ((Kd.slice 3 (Kd.int .i64))).sz = 1 from rfl, Nat.mul_one, Nat.add_zero] at HP15)) | ((with_reducible refine gate_store (t := 26) (p := 23) rfl ?_); (try (rw [drewN_self w13]; generalize hq_ : World.drewN w13 _ = w13; have n0_ := xA.mk (Kd.S_at hq_ HO_5.out); have n1_ := xA.mk (below_at hq_ HB.out); clear hq_ HO_5 HB; have HO_5 := n0_; have HB := n1_; clear n0_ n1_; (try (have n_ := xA.mk (Kd.xT (ok' := (fun k_ => some k_ ≠ (v115 : Value).ownBlock)) HO_5.out (fun k_ hk => hk.2)); clear HO_5; have HO_5 := n_; clear n_)); (try (have HX15 := xA.mk (show Kd.S (Kd.slice 3 (Kd.int .i64)) 26 w13 w.heap.size (fun k_ => ((fun _ => True)) k_ ∧ ¬ ((fun k_ => some k_ = (v115 : Value).ownBlock)) k_) (.slice (some ⟨go12, 0, none⟩) x5_1.length co12) x5_1 from (by (with_reducible repeat (first | apply Kd.S_alloc | apply Kd.S_drewN | apply Kd.S_drew)); exact Kd.xT HO_5.out (fun k_ hk => ⟨trivial, fun e_ => hk e_⟩))))); (try (obtain ⟨oki15, ce15, hcl15, hM15, hcc15, hfr15, hoki15, hH15⟩ := Kd.S_elem HX15.out [] (x15_1 : Int) (qr) (by have h_ : (x15_1 : Int) < ((x5_1.length : Int) : Int) := qr; first | exact h_ | (have e_ := (Kd.xH HO_5.out).1; omega) | simpa using h_))); (try (obtain ⟨ve15_0, rfl, ge15_0⟩ := hM15)); (try (have HP15 := Kd.S_seg hH15 (qr) (by have h_ : (x15_1 : Int) < ((x5_1.length : Int) : Int) := qr; first | exact h_ | (have e_ := (Kd.xH HO_5.out).1; omega) | simpa using h_) (seg := [v115]) (j := 0) (show 1 ≤ 1 from by decide) (x' := y114) (Kd.M_row (Kd.R_mono (Kd.R_tight rfl (Kd.R_mono (ok' := fun k_ => ((fun _ => True)) k_ ∧ k_ ≠ go12) (Kd.R_apart' (HO116.out) (Kd.S_typed HO_5.out) (by decide)) (fun k_ hk => ⟨trivial, fun e_ => (hk.2) (by rw [e_]; rfl)⟩))) (fun _ h_ => Or.inr (h_)))) (fun _ hk => hk) (fun k_ hk_ => ((Kd.R_mono (ok' := fun k_ => ((fun _ => True)) k_ ∧ k_ ≠ go12) (Kd.R_apart' (HO116.out) (Kd.S_typed HO_5.out) (by decide)) (fun k_ hk => ⟨trivial, fun e_ => (hk.2) (by rw [e_]; rfl)⟩))).1 k_ hk_.symm))); (try (have hx15_0 := hcc15 0 _ rfl)); (try (try simp only [show ((Kd.slice 3 (Kd.int .i64))).sz = 1 from rfl, Nat.mul_one, Nat.add_zero] at hx15_0)); (try (have hf15_0 := hfr15 0)); (try (try simp only [show ((Kd.slice 3 (Kd.int .i64))).sz = 1 from rfl, Nat.mul_one, Nat.add_zero] at hf15_0)); (try ((try clear hM15); clear hcl15 hcc15 hfr15 hoki15 hH15)); (try (try simp only [show ((Kd.slice 3 (Kd.int .i64))).sz = 1 from rfl, Nat.mul_one, Nat.add_zero] at HP15)))); refine store_event (t := 26) (p := 23) (v := ?vo_w16) (w1 := (w13.setCell ⟨go12, (x15_1 : Int).toNat, none⟩ (v115))) ?hg ?ho ?hn ?hr ?_; (case ho => rfl); (case hg => rfl); (case hn => rfl); (case hr => first | (go_simp; done) | (go_simp; rfl) | (obtain ⟨A_, c_, e_⟩ := Kd.R_slice (xA.out (by assumption : xA (Kd.R _ _ _ _ _ v115 _))); rw [e_]; go_simp; done) | (obtain ⟨A_, c_, e_⟩ := Kd.R_slice (xA.out (by assumption : xA (Kd.R _ _ _ _ _ v115 _))); rw [e_]; go_simp; rfl)); intro w16 hw; have hg : w13.grownBy w16 (some go12) := (by rw [hw]; exact HP15.2); have hp_ : Kd.S (Kd.slice 3 (Kd.int .i64)) 26 w16 w.heap.size (fun _ => True) (.slice (some ⟨go12, 0, none⟩) x5_1.length co12) y117 := (by rw [hw, Ny117.out]; exact HP15.1); clear HP15; have n0_ := xA.mk (hp_); have n1_ := xA.mk ((by rw [hw]; exact xR (HB.out) GB12.out : Below w.heap.size w w16)); clear HO_5; clear HB; clear HO116; have HO_5 := n0_; have HB := n1_; clear n0_ n1_; clear hg hw hp_)); try go_wp2_with (first | ((with_reducible refine xZ (N := 22) rfl ?_); refine Kd.R_make (Kd.int .i64) _ 3 rfl (N := 22) rfl 26 _ _ rfl (l0.length : Int) rfl rfl Try.underlying26 (.int .i64 0) 8 info3 rfl (by decide) jj 0 (ok := fun _ => True) (okp := fun _ => True) rfl (fun _ hk => hk) trivial (qr) (Nat.le_trans (Nat.mul_le_mul_right _ (qr : (l0.length : Int).toNat ≤ 35184372088832)) jj) (Below.refl _ _) (Nat.le_refl _) ?_; intro v115 w13 ho14 hb hg_ hnew_; clear hg_ hnew_; (first | rw [← Ny114.out] at ho14 | (simp only [Int.reduceToNat] at ho14; rw [← Ny114.out] at ho14)); replace HO_5 := xA.mk (Kd.S_elder' (qh HO_5.out) (Kd.R_base ho14) hb); have HO116 := xA.mk (Kd.R_lower ho14 (xB qa)); replace HB := xA.mk (xD qa hb); clear hb ho14; have p12 : 0 ≤ (x15_1 : Int) := qr; have q12 : (x15_1 : Int) < ((x5_1.length : Int) : Int) := qr; obtain ⟨go12, co12, eo12, gb12, gl12, cl12, HG12⟩ := Kd.S_form HO_5.out jj; (first | cases eo12 | (injection eo12 with ea_ en_ ec_; (first | subst ea_ | (injection ea_ with ea_; subst ea_)); subst ec_; clear en_)); have GB12 := xA.mk gb12; have GG12 := xA.mk HG12; clear gb12 gl12 HG12; obtain ⟨_, ce12, hcl12, hM12, hcc12, hfr12, _, _⟩ := Kd.S_elem HO_5.out [] (x15_1 : Int) p12 q12; obtain ⟨ve12_0, rfl, ge12_0⟩ := hM12; have hx12_0 := hcc12 0 _ rfl; have hf12_0 := hfr12 0; (try simp only [show ((Kd.slice 3 (Kd.int .i64))).sz = 1 from rfl, Nat.mul_one, Nat.add_zero] at hx12_0); (try simp only [show ((Kd.slice 3 (Kd.int .i64))).sz = 1 from rfl, Nat.mul_one, Nat.add_zero] at hf12_0); (try clear hM12); clear hcl12 hcc12 hfr12; replace p12 := eq_true p12; replace q12 := eq_true q12; have n_ := xA.mk (Kd.xT (ok' := (fun k_ => some k_ ≠ (v115 : Value).ownBlock)) HO_5.out (fun k_ hk => hk.2)); clear HO_5; have HO_5 := n_; clear n_; have HX15 := xA.mk (show Kd.S (Kd.slice 3 (Kd.int .i64)) 26 w13 w.heap.size (fun k_ => ((fun _ => True)) k_ ∧ ¬ ((fun k_ => some k_ = (v115 : Value).ownBlock)) k_) (.slice (some ⟨go12, 0, none⟩) x5_1.length co12) x5_1 from (by (with_reducible repeat (first | apply Kd.S_alloc | apply Kd.S_drewN | apply Kd.S_drew)); exact Kd.xT HO_5.out (fun k_ hk => ⟨trivial, fun e_ => hk e_⟩))); obtain ⟨oki15, ce15, hcl15, hM15, hcc15, hfr15, hoki15, hH15⟩ := Kd.S_elem HX15.out [] (x15_1 : Int) (qr) (by have h_ : (x15_1 : Int) < ((x5_1.length : Int) : Int) := qr; first | exact h_ | (have e_ := (Kd.xH HO_5.out).1; omega) | simpa using h_); obtain ⟨ve15_0, rfl, ge15_0⟩ := hM15; have HP15 := Kd.S_seg hH15 (qr) (by have h_ : (x15_1 : Int) < ((x5_1.length : Int) : Int) := qr; first | exact h_ | (have e_ := (Kd.xH HO_5.out).1; omega) | simpa using h_) (seg := [v115]) (j := 0) (show 1 ≤ 1 from by decide) (x' := y114) (Kd.M_row (Kd.R_mono (Kd.R_tight rfl (Kd.R_mono (ok' := fun k_ => ((fun _ => True)) k_ ∧ k_ ≠ go12) (Kd.R_apart' (HO116.out) (Kd.S_typed HO_5.out) (by decide)) (fun k_ hk => ⟨trivial, fun e_ => (hk.2) (by rw [e_]; rfl)⟩))) (fun _ h_ => Or.inr (h_)))) (fun _ hk => hk) (fun k_ hk_ => ((Kd.R_mono (ok' := fun k_ => ((fun _ => True)) k_ ∧ k_ ≠ go12) (Kd.R_apart' (HO116.out) (Kd.S_typed HO_5.out) (by decide)) (fun k_ hk => ⟨trivial, fun e_ => (hk.2) (by rw [e_]; rfl)⟩))).1 k_ hk_.symm); have hx15_0 := hcc15 0 _ rfl; (try simp only [show ((Kd.slice 3 (Kd.int .i64))).sz = 1 from rfl, Nat.mul_one, Nat.add_zero] at hx15_0); have hf15_0 := hfr15 0; (try simp only [show ((Kd.slice 3 (Kd.int .i64))).sz = 1 from rfl, Nat.mul_one, Nat.add_zero] at hf15_0); (try clear hM15); clear hcl15 hcc15 hfr15 hoki15 hH15; (try simp only [show ((Kd.slice 3 (Kd.int .i64))).sz = 1 from rfl, Nat.mul_one, Nat.add_zero] at HP15)) | ((with_reducible refine gate_store (t := 26) (p := 23) rfl ?_); (try (rw [drewN_self w13]; generalize hq_ : World.drewN w13 _ = w13; have n0_ := xA.mk (Kd.S_at hq_ HO_5.out); have n1_ := xA.mk (below_at hq_ HB.out); clear hq_ HO_5 HB; have HO_5 := n0_; have HB := n1_; clear n0_ n1_; (try (have n_ := xA.mk (Kd.xT (ok' := (fun k_ => some k_ ≠ (v115 : Value).ownBlock)) HO_5.out (fun k_ hk => hk.2)); clear HO_5; have HO_5 := n_; clear n_)); (try (have HX15 := xA.mk (show Kd.S (Kd.slice 3 (Kd.int .i64)) 26 w13 w.heap.size (fun k_ => ((fun _ => True)) k_ ∧ ¬ ((fun k_ => some k_ = (v115 : Value).ownBlock)) k_) (.slice (some ⟨go12, 0, none⟩) x5_1.length co12) x5_1 from (by (with_reducible repeat (first | apply Kd.S_alloc | apply Kd.S_drewN | apply Kd.S_drew)); exact Kd.xT HO_5.out (fun k_ hk => ⟨trivial, fun e_ => hk e_⟩))))); (try (obtain ⟨oki15, ce15, hcl15, hM15, hcc15, hfr15, hoki15, hH15⟩ := Kd.S_elem HX15.out [] (x15_1 : Int) (qr) (by have h_ : (x15_1 : Int) < ((x5_1.length : Int) : Int) := qr; first | exact h_ | (have e_ := (Kd.xH HO_5.out).1; omega) | simpa using h_))); (try (obtain ⟨ve15_0, rfl, ge15_0⟩ := hM15)); (try (have HP15 := Kd.S_seg hH15 (qr) (by have h_ : (x15_1 : Int) < ((x5_1.length : Int) : Int) := qr; first | exact h_ | (have e_ := (Kd.xH HO_5.out).1; omega) | simpa using h_) (seg := [v115]) (j := 0) (show 1 ≤ 1 from by decide) (x' := y114) (Kd.M_row (Kd.R_mono (Kd.R_tight rfl (Kd.R_mono (ok' := fun k_ => ((fun _ => True)) k_ ∧ k_ ≠ go12) (Kd.R_apart' (HO116.out) (Kd.S_typed HO_5.out) (by decide)) (fun k_ hk => ⟨trivial, fun e_ => (hk.2) (by rw [e_]; rfl)⟩))) (fun _ h_ => Or.inr (h_)))) (fun _ hk => hk) (fun k_ hk_ => ((Kd.R_mono (ok' := fun k_ => ((fun _ => True)) k_ ∧ k_ ≠ go12) (Kd.R_apart' (HO116.out) (Kd.S_typed HO_5.out) (by decide)) (fun k_ hk => ⟨trivial, fun e_ => (hk.2) (by rw [e_]; rfl)⟩))).1 k_ hk_.symm))); (try (have hx15_0 := hcc15 0 _ rfl)); (try (try simp only [show ((Kd.slice 3 (Kd.int .i64))).sz = 1 from rfl, Nat.mul_one, Nat.add_zero] at hx15_0)); (try (have hf15_0 := hfr15 0)); (try (try simp only [show ((Kd.slice 3 (Kd.int .i64))).sz = 1 from rfl, Nat.mul_one, Nat.add_zero] at hf15_0)); (try ((try clear hM15); clear hcl15 hcc15 hfr15 hoki15 hH15)); (try (try simp only [show ((Kd.slice 3 (Kd.int .i64))).sz = 1 from rfl, Nat.mul_one, Nat.add_zero] at HP15)))); refine store_event (t := 26) (p := 23) (v := ?vo_w16) (w1 := (w13.setCell ⟨go12, (x15_1 : Int).toNat, none⟩ (v115))) ?hg ?ho ?hn ?hr ?_; (case ho => rfl); (case hg => rfl); (case hn => rfl); (case hr => first | (go_simp; done) | (go_simp; rfl) | (obtain ⟨A_, c_, e_⟩ := Kd.R_slice (xA.out (by assumption : xA (Kd.R _ _ _ _ _ v115 _))); rw [e_]; go_simp; done) | (obtain ⟨A_, c_, e_⟩ := Kd.R_slice (xA.out (by assumption : xA (Kd.R _ _ _ _ _ v115 _))); rw [e_]; go_simp; rfl)); intro w16 hw; have hg : w13.grownBy w16 (some go12) := (by rw [hw]; exact HP15.2); have hp_ : Kd.S (Kd.slice 3 (Kd.int .i64)) 26 w16 w.heap.size (fun _ => True) (.slice (some ⟨go12, 0, none⟩) x5_1.length co12) y117 := (by rw [hw, Ny117.out]; exact HP15.1); clear HP15; have n0_ := xA.mk (hp_); have n1_ := xA.mk ((by rw [hw]; exact xR (HB.out) GB12.out : Below w.heap.size w w16)); clear HO_5; clear HB; clear HO116; have HO_5 := n0_; have HB := n1_; clear n0_ n1_; clear hg hw hp_)))
  go_loopg [26] k1 (fun kq v26 w' => ∃ (x5_2 : List (List Int)) (x26_2 : Int), v26 = .int .i64 x26_2 ∧ xA (lgtimes.l1 kq l0 l1 x5_2 x15_1 (l0.length : Int) x15_1 (l0.length : Int) x26_2 = some r) ∧ xA (kq ≤ k1) ∧ xA (Kd.S (Kd.slice 3 (Kd.int .i64)) 26 w' w.heap.size (fun _ => True) (.slice (some ⟨go12, 0, none⟩) x5_1.length co12) x5_2) ∧ xA (Below w.heap.size w w'))
  case atStart => exact ⟨(y117), (0), qf, H', ⟨Nat.le_refl _⟩, ⟨qh HO_5.out⟩, ⟨qa⟩⟩
  case round =>
   clear H'
   try clear c1
   try clear p1
   try clear q1
   try clear hx1
   try clear p2
   try clear c3
   try clear c3b0
   try clear c3b1
   obtain ⟨x5_2, x26_2, rfl, HA, HK2, HO_5, HB⟩ := hrel
   have hl5_2 := (Kd.xH HO_5.out).1
   rw [hl5_2] at HO_5
   obtain _ | k2 := gk
   · exact absurd HA.out (by simp [lgtimes.l1])
   have H := HA.out
   clear HA
   simp only [lgtimes.l1] at H
   obtain ⟨c17b0, H⟩ | ⟨c17b0, H⟩ := yA H
   rotate_left
   ·
    have H' := xA.mk H
    clear H
    go_wp2
    go_roundg k2
    case measure => have := HK1.out; have := HK2.out; omega
    case rel => exact ⟨(x5_2), (wrap64 (x15_1 + 1)), rfl, H', ⟨by have := HK1.out; have := HK2.out; omega⟩, ⟨by (try simp only [hl5_2]); exact HO_5.out⟩, ⟨HB.out⟩⟩
   replace H := qw H
   obtain ⟨t118, A180, H⟩ := H
   replace H : (lgtimes.l2 k2 l0 l1 x5_2 x15_1 x26_2 t118 (l0.length : Int) x15_1 (l0.length : Int) x26_2 (l0.length : Int) 0) = some r := H
   have A18 := xA.mk A180
   clear A180
   have H' := xA.mk H
   clear H
   go_wp2_with (first | (go_at_call 83; (with_reducible refine (line_never_int.calls  t118 _ A18.out).mono ?_); rintro e w' ⟨rfl, ⟨nd, rfl⟩⟩; (try exact qp)))
   go_loopg [8, 32] k2 (fun kq v8 v32 w' => ∃ (x8_3 : Int) (x32_3 : Int), v8 = .int .i64 x8_3 ∧ v32 = .int .i64 x32_3 ∧ xA (lgtimes.l2 kq l0 l1 x5_2 x15_1 x26_2 x8_3 (l0.length : Int) x15_1 (l0.length : Int) x26_2 (l0.length : Int) x32_3 = some r) ∧ xA (kq ≤ k2) ∧ xA (Kd.S (Kd.slice 3 (Kd.int .i64)) 26 w' w.heap.size (fun _ => True) (.slice (some ⟨go12, 0, none⟩) x5_2.length co12) x5_2) ∧ xA (Below w.heap.size w w'))
   case atStart => exact ⟨(t118), (0), rfl, rfl, H', ⟨Nat.le_refl _⟩, ⟨by (try simp only [hl5_2]); exact HO_5.out⟩, ⟨qb⟩⟩
   case round =>
    clear H'
    obtain ⟨x8_3, x32_3, rfl, rfl, HA, HK3, HO_5, HB⟩ := hrel
    obtain _ | k3 := gk
    · exact absurd HA.out (by simp [lgtimes.l2])
    have H := HA.out
    clear HA
    simp only [lgtimes.l2] at H
    obtain ⟨c19b0, H⟩ | ⟨c19b0, H⟩ := yA H
    ·
     obtain ⟨c20b0, H⟩ := xF H
     obtain ⟨c21b0, H⟩ := xF H
     obtain ⟨c22b0, H⟩ := xF H
     obtain ⟨c23b0, H⟩ := xF H
     obtain ⟨c24b0, H⟩ := xF H
     obtain ⟨c25b0, H⟩ := xF H
     obtain ⟨c26b0, H⟩ := xF H
     replace H := qw H
     obtain ⟨t123, A270, H⟩ := H
     replace H : (lgtimes.l2 k3 l0 l1 x5_2 x15_1 x26_2 (mx x8_3 t123) (l0.length : Int) x15_1 (l0.length : Int) x26_2 (l0.length : Int) (wrap64 (x32_3 + 1))) = some r := H
     have A27 := xA.mk A270
     clear A270
     obtain ⟨ji28, hji28⟩ : ∃ j_ : Int, (mx x8_3 t123) = j_ := ⟨_, rfl⟩
     replace H : (lgtimes.l2 k3 l0 l1 x5_2 x15_1 x26_2 ji28 (l0.length : Int) x15_1 (l0.length : Int) x26_2 (l0.length : Int) (wrap64 (x32_3 + 1))) = some r := by first | (rw [hji28] at H; exact H) | (simp only [hji28] at H ⊢; exact H)
     (try rw [hji28] at A27)
     have hji28_ : (if x8_3 < t123 then t123 else x8_3) = ji28 := hji28
     have H' := xA.mk H
     clear H
     have p119 : 0 ≤ (x15_1 : Int) := qq
     have q119 : x15_1 < (l0.length : Int) := qq
     obtain ⟨ad119, A119_0, c119_0, e119, hx119_0, hl119_0, hi119_0⟩ := at_L1 HR0.out x15_1 p119 q119
     cases e119
     replace hx119_0 := (HB.out.cell (World.block_lt_of_cell? w _ hx119_0)).trans hx119_0
     have HR119_0 := xA.mk hi119_0
     have HC119_0 := xA.mk hl119_0
     clear hi119_0 hl119_0
     replace p119 := eq_true p119
     replace q119 := eq_true q119
     have p120 : 0 ≤ (x32_3 : Int) := qq
     have q120 : x32_3 < ((rd_L1 l0 x15_1).length : Int) := qq
     obtain ⟨ad120, e120, hx120_0⟩ := Kd.xU HR119_0.out x32_3 p120 q120
     cases e120
     replace hx120_0 := (HB.out.cell (World.block_lt_of_cell? w _ hx120_0)).trans hx120_0
     replace p120 := eq_true p120
     replace q120 := eq_true q120
     have p121 : 0 ≤ (x32_3 : Int) := qq
     have q121 : x32_3 < (l1.length : Int) := qq
     obtain ⟨ad121, A121_0, c121_0, e121, hx121_0, hl121_0, hi121_0⟩ := at_L1 HR1.out x32_3 p121 q121
     cases e121
     replace hx121_0 := (HB.out.cell (World.block_lt_of_cell? w _ hx121_0)).trans hx121_0
     have HR121_0 := xA.mk hi121_0
     have HC121_0 := xA.mk hl121_0
     clear hi121_0 hl121_0
     replace p121 := eq_true p121
     replace q121 := eq_true q121
     have p122 : 0 ≤ (x26_2 : Int) := qq
     have q122 : x26_2 < ((rd_L1 l1 x32_3).length : Int) := qq
     obtain ⟨ad122, e122, hx122_0⟩ := Kd.xU HR121_0.out x26_2 p122 q122
     cases e122
     replace hx122_0 := (HB.out.cell (World.block_lt_of_cell? w _ hx122_0)).trans hx122_0
     replace p122 := eq_true p122
     replace q122 := eq_true q122
     go_wp2_with (first | (go_at_call 91; (with_reducible refine (line_both_int.calls (rd (rd_L1 l0 x15_1) x32_3) (rd (rd_L1 l1 x32_3) x26_2) t123 _ A27.out).mono ?_); rintro e w' ⟨rfl, ⟨nd, rfl⟩⟩; (try exact qp)))
     repeat (go_quiet (first | (go_at_call 91; (with_reducible refine (line_both_int.calls (rd (rd_L1 l0 x15_1) x32_3) (rd (rd_L1 l1 x32_3) x26_2) t123 _ A27.out).mono ?_); rintro e w' ⟨rfl, ⟨nd, rfl⟩⟩; (try exact qp))); try go_wp2_with (first | (go_at_call 91; (with_reducible refine (line_both_int.calls (rd (rd_L1 l0 x15_1) x32_3) (rd (rd_L1 l1 x32_3) x26_2) t123 _ A27.out).mono ?_); rintro e w' ⟨rfl, ⟨nd, rfl⟩⟩; (try exact qp))))
     go_roundg k3
     case measure => have := HK1.out; have := HK2.out; have := HK3.out; omega
     case rel => exact ⟨(ji28), (wrap64 (x32_3 + 1)), (by first | rfl | (simp; done) | (simp only [← hji28] <;> (first | rfl | simp)) | (simp [*]; done)), rfl, H', ⟨by have := HK1.out; have := HK2.out; have := HK3.out; omega⟩, ⟨by (try simp only [hl5_2]); exact HO_5.out⟩, ⟨qb⟩⟩
    obtain ⟨c29b0, H⟩ := xF H
    obtain ⟨c30b0, H⟩ := xF H
    obtain ⟨c31b0, H⟩ := xF H
    obtain ⟨c32b0, H⟩ := xF H
    obtain ⟨y125, hy125⟩ : ∃ y_ : List Int, y_ = ((rd_L1 x5_2 x15_1).set (x26_2 : Int).toNat x8_3) := ⟨_, rfl⟩
    replace H : (lgtimes.l1 k3 l0 l1 (x5_2.set (x15_1 : Int).toNat y125) x15_1 (l0.length : Int) x15_1 (l0.length : Int) (wrap64 (x26_2 + 1))) = some r := by rw [hy125]; exact H
    have Ny125 := xA.mk hy125
    clear hy125
    obtain ⟨y127, hy127⟩ : ∃ y_ : List (List Int), y_ = (x5_2.set (x15_1 : Int).toNat y125) := ⟨_, rfl⟩
    replace H : (lgtimes.l1 k3 l0 l1 y127 x15_1 (l0.length : Int) x15_1 (l0.length : Int) (wrap64 (x26_2 + 1))) = some r := by rw [hy127]; exact H
    have Ny127 := xA.mk hy127
    clear hy127
    have H' := xA.mk H
    clear H
    have p124 : 0 ≤ (x15_1 : Int) := qq
    have q124 : x15_1 < (x5_2.length : Int) := qq
    obtain ⟨ad124, A124_0, c124_0, e124, hx124_0, hl124_0, hi124_0⟩ := at_L1 (Kd.xH HO_5.out).2.2 x15_1 p124 q124
    obtain rfl : (⟨go12, 0, none⟩ : Addr) = ad124 := (by injection e124)
    obtain ⟨ce124, hce124, hMe124, hcc124⟩ := Kd.S_get HO_5.out [] x15_1 p124 (by first | exact q124 | exact qq | (have e_ := (Kd.xH HO_5.out).1; omega))
    obtain ⟨ve124_0, rfl, ge124_0⟩ := hMe124
    have hv124_0 := hcc124 0 _ rfl
    rw [Nat.add_zero, show ((Kd.slice 3 (Kd.int .i64))).sz = 1 from rfl, Nat.mul_one] at hv124_0
    replace hv124_0 := qx (hv124_0.symm.trans hx124_0)
    rw [hv124_0] at ge124_0
    have HL124_0 := xA.mk (show Kd.R (Kd.int .i64) 3 _ _ _ _ (rd_L1 x5_2 x15_1) from ge124_0)
    clear hv124_0 ge124_0
    have HX124_0 := xA.mk hx124_0
    clear hcc124 hce124
    (first | simp only [add_plain] at hx124_0 | simp only [add_at] at hx124_0 | simp only [Addr.add, Nat.zero_add] at hx124_0 | skip)
    have HR124_0 := xA.mk hi124_0
    have HC124_0 := xA.mk hl124_0
    clear hi124_0 hl124_0
    replace p124 := eq_true p124
    replace q124 := eq_true q124
    have p33 : 0 ≤ (x26_2 : Int) := qq
    have q33 : (x26_2 : Int) < (((rd_L1 x5_2 x15_1).length : Int) : Int) := qq
    obtain ⟨go33, co33, eo33, gb33, gl33, cl33, HG33⟩ := Kd.R_form HL124_0.out jj
    (first | cases eo33 | (injection eo33 with ea_ en_ ec_; (first | subst ea_ | (injection ea_ with ea_; subst ea_)); subst ec_; clear en_))
    have GB33 := xA.mk gb33
    have GG33 := xA.mk HG33
    clear gb33 gl33 HG33
    obtain ⟨hx33_0, hf33_0⟩ := Kd.R_celln 0 HL124_0.out (x26_2 : Int) p33 q33
    replace p33 := eq_true p33
    replace q33 := eq_true q33
    have hq34 : (x15_1 : Int) < (x5_2.length : Int) := (by have h_ : (x15_1 : Int) < ((x5_2.length : Int) : Int) := qq; first | exact h_ | (have e_ := (Kd.xH HO_5.out).1; omega) | simpa only [List.length_set, List.length_set] using h_)
    obtain ⟨oki34, ce34, hcl34, hM34, hcc34, hok34, hbk34⟩ := Kd.S_borrow HO_5.out [] (x15_1 : Int) (qq) hq34
    obtain ⟨ve34_0, rfl, ge34_0⟩ := hM34
    have hv34 := hcc34 0 _ rfl
    rw [Nat.add_zero, show ((Kd.slice 3 (Kd.int .i64))).sz = 1 from rfl, Nat.mul_one] at hv34
    replace hv34 := qx (hv34.symm.trans HX124_0.out)
    subst hv34
    clear hcc34 hcl34
    replace ge34_0 := (show Kd.R (Kd.int .i64) 3 _ _ _ _ (rd_L1 x5_2 x15_1) from ge34_0)
    have HP34 := Kd.R_putg ge34_0 (x26_2 : Int) x8_3
    go_wp2_with (first | ((with_reducible refine gate_store (t := 3) (p := 59) rfl ?_); (try (rw [drewN_self wr]; generalize hq_ : World.drewN wr _ = wr; have n0_ := xA.mk (Kd.S_at hq_ HO_5.out); have n1_ := xA.mk (Kd.R_at hq_ HL128.out); have n2_ := xA.mk (below_at hq_ HB.out); clear hq_ HO_5 HL128 HB; have HO_5 := n0_; have HL128 := n1_; have HB := n2_; clear n0_ n1_ n2_; (try (have hq34 : (x15_1 : Int) < (x5_2.length : Int) := (by have h_ : (x15_1 : Int) < ((x5_2.length : Int) : Int) := qq; first | exact h_ | (have e_ := (Kd.xH HO_5.out).1; omega) | simpa only [List.length_set, List.length_set] using h_))); (try (obtain ⟨oki34, ce34, hcl34, hM34, hcc34, hok34, hbk34⟩ := Kd.S_borrow HO_5.out [] (x15_1 : Int) (qq) hq34)); (try (obtain ⟨ve34_0, rfl, ge34_0⟩ := hM34)); (try (have hv34 := hcc34 0 _ rfl)); (try (rw [Nat.add_zero, show ((Kd.slice 3 (Kd.int .i64))).sz = 1 from rfl, Nat.mul_one] at hv34)); (try (replace hv34 := qx (hv34.symm.trans HX124_0.out))); (try (subst hv34)); (try (clear hcc34 hcl34)); (try (replace ge34_0 := (show Kd.R (Kd.int .i64) 3 _ _ _ _ (rd_L1 x5_2 x15_1) from ge34_0))); (try (have HP34 := Kd.R_putg ge34_0 (x26_2 : Int) x8_3)))); refine store_event (t := 3) (p := 59) (v := ?vo_w35) (w1 := (wr.setCell ⟨go33, (x26_2 : Int).toNat, none⟩ (.int .i64 x8_3))) ?hg ?ho ?hn ?hr ?_; (case ho => rfl); (case hg => rfl); (case hn => rfl); (case hr => go_simp); intro w35 hw; have hg : wr.grownBy w35 (some go33) := (by rw [hw]; exact HP34.2); have hz_ : Kd.R (Kd.int .i64) 3 w35 w.heap.size oki34 (.slice (some ⟨go33, 0, none⟩) (rd_L1 x5_2 x15_1).length c124_0) y125 := (by rw [hw, Ny125.out]; exact HP34.1); have hp_ : Kd.S (Kd.slice 3 (Kd.int .i64)) 26 w35 w.heap.size (fun _ => True) (.slice (some ⟨go12, 0, none⟩) x5_2.length co12) y127 := (by rw [Ny127.out]; exact hbk34 hg (fun k_ e_ => by injection e_ with e_; subst e_; exact ge34_0.1 _ rfl) (Kd.M_row hz_)); have hm_ := Kd.R_mono hz_ hok34; clear HP34 hbk34; have n0_ := xA.mk (hp_); have n1_ := xA.mk ((by rw [hw]; exact xR (HB.out) GB33.out : Below w.heap.size w w35)); have n2_ := xA.mk (hm_); have n3_ := xA.mk ((Kd.R_reads' hm_).2.1); clear HO_5; clear HB; clear HL124_0; have HO_5 := n0_; have HB := n1_; have HL128 := n2_; have HC126 := n3_; clear n0_ n1_ n2_ n3_; clear hg hw hp_ hz_ hm_ hok34))
    repeat (go_quiet (first | ((with_reducible refine gate_store (t := 3) (p := 59) rfl ?_); (try (rw [drewN_self wr]; generalize hq_ : World.drewN wr _ = wr; have n0_ := xA.mk (Kd.S_at hq_ HO_5.out); have n1_ := xA.mk (Kd.R_at hq_ HL128.out); have n2_ := xA.mk (below_at hq_ HB.out); clear hq_ HO_5 HL128 HB; have HO_5 := n0_; have HL128 := n1_; have HB := n2_; clear n0_ n1_ n2_; (try (have hq34 : (x15_1 : Int) < (x5_2.length : Int) := (by have h_ : (x15_1 : Int) < ((x5_2.length : Int) : Int) := qq; first | exact h_ | (have e_ := (Kd.xH HO_5.out).1; omega) | simpa only [List.length_set, List.length_set] using h_))); (try (obtain ⟨oki34, ce34, hcl34, hM34, hcc34, hok34, hbk34⟩ := Kd.S_borrow HO_5.out [] (x15_1 : Int) (qq) hq34)); (try (obtain ⟨ve34_0, rfl, ge34_0⟩ := hM34)); (try (have hv34 := hcc34 0 _ rfl)); (try (rw [Nat.add_zero, show ((Kd.slice 3 (Kd.int .i64))).sz = 1 from rfl, Nat.mul_one] at hv34)); (try (replace hv34 := qx (hv34.symm.trans HX124_0.out))); (try (subst hv34)); (try (clear hcc34 hcl34)); (try (replace ge34_0 := (show Kd.R (Kd.int .i64) 3 _ _ _ _ (rd_L1 x5_2 x15_1) from ge34_0))); (try (have HP34 := Kd.R_putg ge34_0 (x26_2 : Int) x8_3)))); refine store_event (t := 3) (p := 59) (v := ?vo_w35) (w1 := (wr.setCell ⟨go33, (x26_2 : Int).toNat, none⟩ (.int .i64 x8_3))) ?hg ?ho ?hn ?hr ?_; (case ho => rfl); (case hg => rfl); (case hn => rfl); (case hr => go_simp); intro w35 hw; have hg : wr.grownBy w35 (some go33) := (by rw [hw]; exact HP34.2); have hz_ : Kd.R (Kd.int .i64) 3 w35 w.heap.size oki34 (.slice (some ⟨go33, 0, none⟩) (rd_L1 x5_2 x15_1).length c124_0) y125 := (by rw [hw, Ny125.out]; exact HP34.1); have hp_ : Kd.S (Kd.slice 3 (Kd.int .i64)) 26 w35 w.heap.size (fun _ => True) (.slice (some ⟨go12, 0, none⟩) x5_2.length co12) y127 := (by rw [Ny127.out]; exact hbk34 hg (fun k_ e_ => by injection e_ with e_; subst e_; exact ge34_0.1 _ rfl) (Kd.M_row hz_)); have hm_ := Kd.R_mono hz_ hok34; clear HP34 hbk34; have n0_ := xA.mk (hp_); have n1_ := xA.mk ((by rw [hw]; exact xR (HB.out) GB33.out : Below w.heap.size w w35)); have n2_ := xA.mk (hm_); have n3_ := xA.mk ((Kd.R_reads' hm_).2.1); clear HO_5; clear HB; clear HL124_0; have HO_5 := n0_; have HB := n1_; have HL128 := n2_; have HC126 := n3_; clear n0_ n1_ n2_ n3_; clear hg hw hp_ hz_ hm_ hok34)); try go_wp2_with (first | ((with_reducible refine gate_store (t := 3) (p := 59) rfl ?_); (try (rw [drewN_self wr]; generalize hq_ : World.drewN wr _ = wr; have n0_ := xA.mk (Kd.S_at hq_ HO_5.out); have n1_ := xA.mk (Kd.R_at hq_ HL128.out); have n2_ := xA.mk (below_at hq_ HB.out); clear hq_ HO_5 HL128 HB; have HO_5 := n0_; have HL128 := n1_; have HB := n2_; clear n0_ n1_ n2_; (try (have hq34 : (x15_1 : Int) < (x5_2.length : Int) := (by have h_ : (x15_1 : Int) < ((x5_2.length : Int) : Int) := qq; first | exact h_ | (have e_ := (Kd.xH HO_5.out).1; omega) | simpa only [List.length_set, List.length_set] using h_))); (try (obtain ⟨oki34, ce34, hcl34, hM34, hcc34, hok34, hbk34⟩ := Kd.S_borrow HO_5.out [] (x15_1 : Int) (qq) hq34)); (try (obtain ⟨ve34_0, rfl, ge34_0⟩ := hM34)); (try (have hv34 := hcc34 0 _ rfl)); (try (rw [Nat.add_zero, show ((Kd.slice 3 (Kd.int .i64))).sz = 1 from rfl, Nat.mul_one] at hv34)); (try (replace hv34 := qx (hv34.symm.trans HX124_0.out))); (try (subst hv34)); (try (clear hcc34 hcl34)); (try (replace ge34_0 := (show Kd.R (Kd.int .i64) 3 _ _ _ _ (rd_L1 x5_2 x15_1) from ge34_0))); (try (have HP34 := Kd.R_putg ge34_0 (x26_2 : Int) x8_3)))); refine store_event (t := 3) (p := 59) (v := ?vo_w35) (w1 := (wr.setCell ⟨go33, (x26_2 : Int).toNat, none⟩ (.int .i64 x8_3))) ?hg ?ho ?hn ?hr ?_; (case ho => rfl); (case hg => rfl); (case hn => rfl); (case hr => go_simp); intro w35 hw; have hg : wr.grownBy w35 (some go33) := (by rw [hw]; exact HP34.2); have hz_ : Kd.R (Kd.int .i64) 3 w35 w.heap.size oki34 (.slice (some ⟨go33, 0, none⟩) (rd_L1 x5_2 x15_1).length c124_0) y125 := (by rw [hw, Ny125.out]; exact HP34.1); have hp_ : Kd.S (Kd.slice 3 (Kd.int .i64)) 26 w35 w.heap.size (fun _ => True) (.slice (some ⟨go12, 0, none⟩) x5_2.length co12) y127 := (by rw [Ny127.out]; exact hbk34 hg (fun k_ e_ => by injection e_ with e_; subst e_; exact ge34_0.1 _ rfl) (Kd.M_row hz_)); have hm_ := Kd.R_mono hz_ hok34; clear HP34 hbk34; have n0_ := xA.mk (hp_); have n1_ := xA.mk ((by rw [hw]; exact xR (HB.out) GB33.out : Below w.heap.size w w35)); have n2_ := xA.mk (hm_); have n3_ := xA.mk ((Kd.R_reads' hm_).2.1); clear HO_5; clear HB; clear HL124_0; have HO_5 := n0_; have HB := n1_; have HL128 := n2_; have HC126 := n3_; clear n0_ n1_ n2_ n3_; clear hg hw hp_ hz_ hm_ hok34)))
    (try simp only [← hl5_2])
    go_roundg k3
    case measure => have := HK1.out; have := HK2.out; have := HK3.out; omega
    case rel => exact ⟨(y127), (wrap64 (x26_2 + 1)), rfl, H', ⟨by have := HK1.out; have := HK2.out; have := HK3.out; omega⟩, ⟨by (try simp only [hl5_2]); exact HO_5.out⟩, ⟨qb⟩⟩
mutual
def line_one_int.l0 : Nat → Int → List (List Int) → Int → Int → Option ((List (List Int)))
 | 0, _, _, _, _ => none
 | k + 1, x0, x3, x8, x9 => if x9 < x8 then (if 0 ≤ x0 then (if (x0 : Int).toNat ≤ 35184372088832 then (if 0 ≤ x9 then (if x9 < (x3.length : Int) then (line_one_int.l1 k x0 (x3.set (x9 : Int).toNat (List.replicate (x0 : Int).toNat 0)) x9 x8 x9 x0 0) else (none)) else (none)) else (none)) else (none)) else (some x3)
def line_one_int.l1 : Nat → Int → List (List Int) → Int → Int → Int → Int → Int → Option ((List (List Int)))
 | 0, _, _, _, _, _, _, _ => none
 | k + 1, x0, x3, x4, x8, x9, x17, x18 => if x18 < x17 then (if x4 = x18 then (line_one_int.l1 k x0 x3 x4 x8 x9 x17 (wrap64 (x18 + 1))) else (if 0 ≤ x4 then (if x4 < (x3.length : Int) then ((line_never_int.f).bind fun t137 => (if 0 ≤ x18 then (if x18 < ((rd_L1 x3 x4).length : Int) then (line_one_int.l1 k x0 (x3.set (x4 : Int).toNat ((rd_L1 x3 x4).set (x18 : Int).toNat t137)) x4 x8 x9 x17 (wrap64 (x18 + 1))) else (none)) else (none))) else (none)) else (none))) else (line_one_int.l0 k x0 x3 x8 (wrap64 (x9 + 1)))
end
def line_one_int.f (k : Nat) (a0 : Int) : Option ((List (List Int))) := if 0 ≤ a0 then (if (a0 : Int).toNat ≤ 11728124029610 then (line_one_int.l0 k a0 (List.replicate (a0 : Int).toNat []) a0 0) else (none)) else (none)
theorem line_one_int.mono_l : ∀ k, (∀ y0 y1 y2 y3, LeO (line_one_int.l0 k y0 y1 y2 y3) (line_one_int.l0 (k + 1) y0 y1 y2 y3)) ∧ (∀ y0 y1 y2 y3 y4 y5 y6, LeO (line_one_int.l1 k y0 y1 y2 y3 y4 y5 y6) (line_one_int.l1 (k + 1) y0 y1 y2 y3 y4 y5 y6))
 | 0 => ⟨fun _ _ _ _ r h => by simp [line_one_int.l0] at h, fun _ _ _ _ _ _ _ r h => by simp [line_one_int.l1] at h⟩
 | k + 1 => by
  obtain ⟨ih0, ih1⟩ := line_one_int.mono_l k
  refine ⟨?_, ?_⟩
  ·
   intro y0 y1 y2 y3
   unfold line_one_int.l0
   repeat' first
   | (with_reducible exact LeO.refl _)
   | (with_reducible exact LeO.none _)
   | (with_reducible refine LeO.ite ?_ ?_)
   | (with_reducible refine LeO.bind ?_ (fun _ => ?_))
   | exact ih0 _ _ _ _
   | exact ih1 _ _ _ _ _ _ _
  ·
   intro y0 y1 y2 y3 y4 y5 y6
   unfold line_one_int.l1
   repeat' first
   | (with_reducible exact LeO.refl _)
   | (with_reducible exact LeO.none _)
   | (with_reducible refine LeO.ite ?_ ?_)
   | (with_reducible refine LeO.bind ?_ (fun _ => ?_))
   | exact ih0 _ _ _ _
   | exact ih1 _ _ _ _ _ _ _
theorem line_one_int.mono : ∀ a0 k, LeO (line_one_int.f k a0) (line_one_int.f (k + 1) a0) := by
 intro a0 k
 obtain ⟨ih0, ih1⟩ := line_one_int.mono_l k
 unfold line_one_int.f
 repeat' first
   | (with_reducible exact LeO.refl _)
   | (with_reducible exact LeO.none _)
   | (with_reducible refine LeO.ite ?_ ?_)
   | (with_reducible refine LeO.bind ?_ (fun _ => ?_))
   | exact ih0 _ _ _ _
   | exact ih1 _ _ _ _ _ _ _
def line_one_int.T10 : Bool × List (List Nat × List Nat) := (true, [([], []), ([], []), ([0, 1], [0, 1]), ([2], [2]), ([], []), ([], []), ([3, 4, 0, 1, 2, 3, 4, 5], [3, 4]), ([6, 5, 5, 0, 1, 2, 3, 4, 5], [5, 6])])
def line_one_int.B10 : List Nat := [0, 0, 3, 7, 0, 0, 63, 127]
theorem line_one_int.tab10 : rtab .any (opsOf Try.f87 10) = line_one_int.T10 := by kernel_rfl
theorem line_one_int.bits10 : waitsOk line_one_int.T10.2 line_one_int.B10 = true := by kernel_rfl
theorem line_one_int.calls (k : Nat) (a0 : Int) (r : List (List Int)) (w : World) (h : line_one_int.f k a0 = some r) :
  Calls Try.prog 87 #[.int .i64 a0] w fun e w' => ∃ v0_ : Value, e = .returned (v0_) ∧ Kd.S (Kd.slice 3 (Kd.int .i64)) 26 w' w.heap.size (fun _ => True) v0_ r ∧ Below w.heap.size w w' := by
 have HB := xA.mk (Below.refl w.heap.size w)
 have H : (if 0 ≤ a0 then (if (a0 : Int).toNat ≤ 11728124029610 then (line_one_int.l0 k a0 (List.replicate (a0 : Int).toNat []) a0 0) else (none)) else (none)) = some r := h
 clear h
 obtain ⟨c2, H⟩ := yF H
 have c2b0 := eq_true c2
 have c2b1 : decide (0 ≤ a0) = true := qu c2
 clear c2
 obtain ⟨c3, H⟩ := yF H
 have c3b0 := eq_true c3
 have c3b1 : decide ((a0 : Int).toNat ≤ 11728124029610) = true := qu c3
 clear c3
 obtain ⟨y129, hy129⟩ : ∃ y_ : List (List Int), y_ = (List.replicate (a0 : Int).toNat []) := ⟨_, rfl⟩
 replace H : (line_one_int.l0 k a0 y129 a0 0) = some r := by first | (rw [hy129]; with_reducible exact H) | (have H2_ := (Option.bind_some _ _).symm.trans H; rw [hy129]; with_reducible exact H2_) | (have H2_ := (Option.bind_some _ _).symm.trans H; with_reducible exact H2_) | with_reducible exact H | (rw [hy129]; exact H) | exact H
 have Ny129 := xA.mk hy129
 clear hy129
 have H' := xA.mk H
 clear H
 go_enter Try.func87, Try.ntmps87
 go_wp2_with (first | ((with_reducible refine xZ (N := 7) rfl ?_); refine Kd.S_make (Kd.slice 3 (Kd.int .i64)) _ 26 rfl (N := 7) rfl 56 _ _ rfl a0 rfl rfl Try.underlying56 (.slice none 0 0) 24 info26 rfl (by decide) jj [] (ok := fun _ => True) (okp := fun _ => True) ⟨_, rfl, Kd.R_nil _ _ _ _ _⟩ (fun _ hk => hk) trivial (qr) (Nat.le_trans (Nat.mul_le_mul_right _ (qr : a0.toNat ≤ 11728124029610)) jj) (Below.refl _ _) (Nat.le_refl _) ?_; intro v130 w4 ho5 hb hg_ hnew_; clear hg_ hnew_; (first | rw [← Ny129.out] at ho5 | (simp only [Int.reduceToNat] at ho5; rw [← Ny129.out] at ho5)); have HO131 := xA.mk (Kd.S_lower ho5 (xB qa)); replace HB := xA.mk (xD qa hb); clear hb ho5))
 go_loopg [9] k (fun kq v9 w' => ∃ (x3_1 : List (List Int)) (x9_1 : Int), v9 = .int .i64 x9_1 ∧ xA (line_one_int.l0 kq a0 x3_1 a0 x9_1 = some r) ∧ xA (kq ≤ k) ∧ xA (Kd.S (Kd.slice 3 (Kd.int .i64)) 26 w' w.heap.size (fun _ => True) v130 x3_1) ∧ xA (Below w.heap.size w w'))
 case atStart => exact ⟨(y129), (0), qf, H', ⟨Nat.le_refl _⟩, ⟨qh HO131.out⟩, ⟨qa⟩⟩
 case round =>
  clear H'
  try clear c2
  try clear c2b0
  try clear c2b1
  try clear p2
  try clear c3
  try clear c3b0
  try clear c3b1
  obtain ⟨x3_1, x9_1, rfl, HA, HK1, HO_3, HB⟩ := hrel
  obtain _ | k1 := gk
  · exact absurd HA.out (by simp [line_one_int.l0])
  have H := HA.out
  clear HA
  simp only [line_one_int.l0] at H
  obtain ⟨c6b0, H⟩ | ⟨c6b0, H⟩ := yA H
  rotate_left
  ·
   obtain rfl := qx H
   go_wp2
   go_ret
   exact ⟨_, rfl, by exact HO_3.out, HB.out⟩
  obtain ⟨c7, H⟩ := yF H
  have c7b0 := eq_true c7
  have c7b1 : decide (0 ≤ a0) = true := qu c7
  clear c7
  obtain ⟨c8, H⟩ := yF H
  have c8b0 := eq_true c8
  have c8b1 : decide ((a0 : Int).toNat ≤ 35184372088832) = true := qu c8
  clear c8
  obtain ⟨y132, hy132⟩ : ∃ y_ : List Int, y_ = (List.replicate (a0 : Int).toNat 0) := ⟨_, rfl⟩
  replace H : (if 0 ≤ x9_1 then (if x9_1 < (x3_1.length : Int) then (line_one_int.l1 k1 a0 (x3_1.set (x9_1 : Int).toNat y132) x9_1 a0 x9_1 a0 0) else (none)) else (none)) = some r := by first | (rw [hy132]; with_reducible exact H) | (have H2_ := (Option.bind_some _ _).symm.trans H; rw [hy132]; with_reducible exact H2_) | (have H2_ := (Option.bind_some _ _).symm.trans H; with_reducible exact H2_) | with_reducible exact H | (rw [hy132]; exact H) | exact H
  have Ny132 := xA.mk hy132
  clear hy132
  obtain ⟨c9b0, H⟩ := xF H
  obtain ⟨c10b0, H⟩ := xF H
  obtain ⟨y135, hy135⟩ : ∃ y_ : List (List Int), y_ = (x3_1.set (x9_1 : Int).toNat y132) := ⟨_, rfl⟩
  replace H : (line_one_int.l1 k1 a0 y135 x9_1 a0 x9_1 a0 0) = some r := by first | (rw [hy135]; with_reducible exact H) | (have H2_ := (Option.bind_some _ _).symm.trans H; rw [hy135]; with_reducible exact H2_) | (have H2_ := (Option.bind_some _ _).symm.trans H; with_reducible exact H2_) | with_reducible exact H | (rw [hy135]; exact H) | exact H
  have Ny135 := xA.mk hy135
  clear hy135
  have H' := xA.mk H
  clear H
  go_wp2_with (first | ((with_reducible refine xZ (N := 15) rfl ?_); refine Kd.R_make (Kd.int .i64) _ 3 rfl (N := 15) rfl 26 _ _ rfl a0 rfl rfl Try.underlying26 (.int .i64 0) 8 info3 rfl (by decide) jj 0 (ok := fun _ => True) (okp := fun _ => True) rfl (fun _ hk => hk) trivial (qr) (Nat.le_trans (Nat.mul_le_mul_right _ (qr : a0.toNat ≤ 35184372088832)) jj) (Below.refl _ _) (Nat.le_refl _) ?_; intro v133 w12 ho13 hb hg_ hnew_; clear hg_ hnew_; (first | rw [← Ny132.out] at ho13 | (simp only [Int.reduceToNat] at ho13; rw [← Ny132.out] at ho13)); replace HO_3 := xA.mk (Kd.S_elder' (qh HO_3.out) (Kd.R_base ho13) hb); have HO134 := xA.mk (Kd.R_lower ho13 (xB qa)); replace HB := xA.mk (xD qa hb); clear hb ho13; have p11 : 0 ≤ (x9_1 : Int) := qr; have q11 : (x9_1 : Int) < ((x3_1.length : Int) : Int) := qr; obtain ⟨go11, co11, eo11, gb11, gl11, cl11, HG11⟩ := Kd.S_form HO_3.out jj; (first | cases eo11 | (injection eo11 with ea_ en_ ec_; (first | subst ea_ | (injection ea_ with ea_; subst ea_)); subst ec_; clear en_)); have GB11 := xA.mk gb11; have GG11 := xA.mk HG11; clear gb11 gl11 HG11; obtain ⟨_, ce11, hcl11, hM11, hcc11, hfr11, _, _⟩ := Kd.S_elem HO_3.out [] (x9_1 : Int) p11 q11; obtain ⟨ve11_0, rfl, ge11_0⟩ := hM11; have hx11_0 := hcc11 0 _ rfl; have hf11_0 := hfr11 0; (try simp only [show ((Kd.slice 3 (Kd.int .i64))).sz = 1 from rfl, Nat.mul_one, Nat.add_zero] at hx11_0); (try simp only [show ((Kd.slice 3 (Kd.int .i64))).sz = 1 from rfl, Nat.mul_one, Nat.add_zero] at hf11_0); (try clear hM11); clear hcl11 hcc11 hfr11; replace p11 := eq_true p11; replace q11 := eq_true q11; have n_ := xA.mk (Kd.xT (ok' := (fun k_ => some k_ ≠ (v133 : Value).ownBlock)) HO_3.out (fun k_ hk => hk.2)); clear HO_3; have HO_3 := n_; clear n_; have HX14 := xA.mk (show Kd.S (Kd.slice 3 (Kd.int .i64)) 26 w12 w.heap.size (fun k_ => ((fun _ => True)) k_ ∧ ¬ ((fun k_ => some k_ = (v133 : Value).ownBlock)) k_) (.slice (some ⟨go11, 0, none⟩) x3_1.length co11) x3_1 from (by (with_reducible repeat (first | apply Kd.S_alloc | apply Kd.S_drewN | apply Kd.S_drew)); exact Kd.xT HO_3.out (fun k_ hk => ⟨trivial, fun e_ => hk e_⟩))); obtain ⟨oki14, ce14, hcl14, hM14, hcc14, hfr14, hoki14, hH14⟩ := Kd.S_elem HX14.out [] (x9_1 : Int) (qr) (by have h_ : (x9_1 : Int) < ((x3_1.length : Int) : Int) := qr; first | exact h_ | (have e_ := (Kd.xH HO_3.out).1; omega) | simpa using h_); obtain ⟨ve14_0, rfl, ge14_0⟩ := hM14; have HP14 := Kd.S_seg hH14 (qr) (by have h_ : (x9_1 : Int) < ((x3_1.length : Int) : Int) := qr; first | exact h_ | (have e_ := (Kd.xH HO_3.out).1; omega) | simpa using h_) (seg := [v133]) (j := 0) (show 1 ≤ 1 from by decide) (x' := y132) (Kd.M_row (Kd.R_mono (Kd.R_tight rfl (Kd.R_mono (ok' := fun k_ => ((fun _ => True)) k_ ∧ k_ ≠ go11) (Kd.R_apart' (HO134.out) (Kd.S_typed HO_3.out) (by decide)) (fun k_ hk => ⟨trivial, fun e_ => (hk.2) (by rw [e_]; rfl)⟩))) (fun _ h_ => Or.inr (h_)))) (fun _ hk => hk) (fun k_ hk_ => ((Kd.R_mono (ok' := fun k_ => ((fun _ => True)) k_ ∧ k_ ≠ go11) (Kd.R_apart' (HO134.out) (Kd.S_typed HO_3.out) (by decide)) (fun k_ hk => ⟨trivial, fun e_ => (hk.2) (by rw [e_]; rfl)⟩))).1 k_ hk_.symm); have hx14_0 := hcc14 0 _ rfl; (try simp only [show ((Kd.slice 3 (Kd.int .i64))).sz = 1 from rfl, Nat.mul_one, Nat.add_zero] at hx14_0); have hf14_0 := hfr14 0; (try simp only [show ((Kd.slice 3 (Kd.int .i64))).sz = 1 from rfl, Nat.mul_one, Nat.add_zero] at hf14_0); (try clear hM14); clear hcl14 hcc14 hfr14 hoki14 hH14; (try simp only [show ((Kd.slice 3 (Kd.int .i64))).sz = 1 from rfl, Nat.mul_one, Nat.add_zero] at HP14)) | ((with_reducible refine gate_store (t := 26) (p := 16) rfl ?_); refine store_event (t := 26) (p := 16) (v := ?vo_w15) (w1 := (w12.setCell ⟨go11, (x9_1 : Int).toNat, none⟩ (v133))) ?hg ?ho ?hn ?hr ?_; (case ho => rfl); (case hg => rfl); (case hn => rfl); (case hr => first | (go_simp; done) | (go_simp; rfl) | (obtain ⟨A_, c_, e_⟩ := Kd.R_slice (xA.out (by assumption : xA (Kd.R _ _ _ _ _ v133 _))); rw [e_]; go_simp; done) | (obtain ⟨A_, c_, e_⟩ := Kd.R_slice (xA.out (by assumption : xA (Kd.R _ _ _ _ _ v133 _))); rw [e_]; go_simp; rfl)); intro w15 hw; have hg : w12.grownBy w15 (some go11) := (by rw [hw]; exact HP14.2); have hp_ : Kd.S (Kd.slice 3 (Kd.int .i64)) 26 w15 w.heap.size (fun _ => True) (.slice (some ⟨go11, 0, none⟩) x3_1.length co11) y135 := (by rw [hw, Ny135.out]; exact HP14.1); clear HP14; have n0_ := xA.mk (hp_); have n1_ := xA.mk ((by rw [hw]; exact xR (HB.out) GB11.out : Below w.heap.size w w15)); clear HO_3; clear HB; clear HO134; have HO_3 := n0_; have HB := n1_; clear n0_ n1_; clear hg hw hp_))
  go_loopg [18] k1 (fun kq v18 w' => ∃ (x3_2 : List (List Int)) (x18_2 : Int), v18 = .int .i64 x18_2 ∧ xA (line_one_int.l1 kq a0 x3_2 x9_1 a0 x9_1 a0 x18_2 = some r) ∧ xA (kq ≤ k1) ∧ xA (Kd.S (Kd.slice 3 (Kd.int .i64)) 26 w' w.heap.size (fun _ => True) (.slice (some ⟨go11, 0, none⟩) x3_1.length co11) x3_2) ∧ xA (Below w.heap.size w w'))
  case atStart => exact ⟨(y135), (0), qf, H', ⟨Nat.le_refl _⟩, ⟨qh HO_3.out⟩, ⟨qa⟩⟩
  case round =>
   clear H'
   try clear c1
   try clear p1
   try clear q1
   try clear hx1
   try clear hf1
   try clear c2
   try clear c2b0
   try clear c2b1
   obtain ⟨x3_2, x18_2, rfl, HA, HK2, HO_3, HB⟩ := hrel
   have hl3_2 := (Kd.xH HO_3.out).1
   rw [hl3_2] at HO_3
   obtain _ | k2 := gk
   · exact absurd HA.out (by simp [line_one_int.l1])
   have H := HA.out
   clear HA
   simp only [line_one_int.l1] at H
   obtain ⟨c16b0, H⟩ | ⟨c16b0, H⟩ := yA H
   rotate_left
   ·
    have H' := xA.mk H
    clear H
    go_wp2
    go_roundg k2
    case measure => have := HK1.out; have := HK2.out; omega
    case rel => exact ⟨(x3_2), (wrap64 (x9_1 + 1)), rfl, H', ⟨by have := HK1.out; have := HK2.out; omega⟩, ⟨by (try simp only [hl3_2]); exact HO_3.out⟩, ⟨HB.out⟩⟩
   by_cases c17 : x9_1 = x18_2
   ·
    rw [if_pos c17] at H
    have c17b0 : (x9_1 == x18_2) = true := beq_iff_eq.mpr c17
    clear c17
    have H' := xA.mk H
    clear H
    go_wp2
    go_roundg k2
    case measure => have := HK1.out; have := HK2.out; omega
    case rel => exact ⟨(x3_2), (wrap64 (x18_2 + 1)), rfl, H', ⟨by have := HK1.out; have := HK2.out; omega⟩, ⟨by (try simp only [hl3_2]); exact HO_3.out⟩, ⟨HB.out⟩⟩
   rw [if_neg c17] at H
   have c17b0 : (x9_1 == x18_2) = false := jg c17
   obtain ⟨c18b0, H⟩ := xF H
   obtain ⟨c19b0, H⟩ := xF H
   replace H := qw H
   obtain ⟨t137, A200, H⟩ := H
   replace H : (if 0 ≤ x18_2 then (if x18_2 < ((rd_L1 x3_2 x9_1).length : Int) then (line_one_int.l1 k2 a0 (x3_2.set (x9_1 : Int).toNat ((rd_L1 x3_2 x9_1).set (x18_2 : Int).toNat t137)) x9_1 a0 x9_1 a0 (wrap64 (x18_2 + 1))) else (none)) else (none)) = some r := H
   have A20 := xA.mk A200
   clear A200
   obtain ⟨c21b0, H⟩ := xF H
   obtain ⟨c22b0, H⟩ := xF H
   obtain ⟨y138, hy138⟩ : ∃ y_ : List Int, y_ = ((rd_L1 x3_2 x9_1).set (x18_2 : Int).toNat t137) := ⟨_, rfl⟩
   replace H : (line_one_int.l1 k2 a0 (x3_2.set (x9_1 : Int).toNat y138) x9_1 a0 x9_1 a0 (wrap64 (x18_2 + 1))) = some r := by rw [hy138]; exact H
   have Ny138 := xA.mk hy138
   clear hy138
   obtain ⟨y140, hy140⟩ : ∃ y_ : List (List Int), y_ = (x3_2.set (x9_1 : Int).toNat y138) := ⟨_, rfl⟩
   replace H : (line_one_int.l1 k2 a0 y140 x9_1 a0 x9_1 a0 (wrap64 (x18_2 + 1))) = some r := by rw [hy140]; exact H
   have Ny140 := xA.mk hy140
   clear hy140
   have H' := xA.mk H
   clear H
   try go_wp2
   have n0_ := xA.mk (Kd.S_drew HO_3.out)
   have n1_ := xA.mk (xS HB.out)
   clear HO_3
   clear HB
   have HO_3 := n0_
   have HB := n1_
   clear n0_ n1_
   have p136 : 0 ≤ (x9_1 : Int) := qq
   have q136 : x9_1 < (x3_2.length : Int) := qq
   obtain ⟨ad136, A136_0, c136_0, e136, hx136_0, hl136_0, hi136_0⟩ := at_L1 (Kd.xH HO_3.out).2.2 x9_1 p136 q136
   obtain rfl : (⟨go11, 0, none⟩ : Addr) = ad136 := (by injection e136)
   obtain ⟨ce136, hce136, hMe136, hcc136⟩ := Kd.S_get HO_3.out [] x9_1 p136 (by first | exact q136 | exact qq | (have e_ := (Kd.xH HO_3.out).1; omega))
   obtain ⟨ve136_0, rfl, ge136_0⟩ := hMe136
   have hv136_0 := hcc136 0 _ rfl
   rw [Nat.add_zero, show ((Kd.slice 3 (Kd.int .i64))).sz = 1 from rfl, Nat.mul_one] at hv136_0
   replace hv136_0 := qx (hv136_0.symm.trans hx136_0)
   rw [hv136_0] at ge136_0
   have HL136_0 := xA.mk (show Kd.R (Kd.int .i64) 3 _ _ _ _ (rd_L1 x3_2 x9_1) from ge136_0)
   clear hv136_0 ge136_0
   have HX136_0 := xA.mk hx136_0
   clear hcc136 hce136
   (first | simp only [add_plain] at hx136_0 | simp only [add_at] at hx136_0 | simp only [Addr.add, Nat.zero_add] at hx136_0 | skip)
   have HR136_0 := xA.mk hi136_0
   have HC136_0 := xA.mk hl136_0
   clear hi136_0 hl136_0
   replace p136 := eq_true p136
   replace q136 := eq_true q136
   refine start_ (n := 8) (S := fun w' => w'.cell? ⟨go11, (x9_1).toNat, none⟩ = some (.slice A136_0 (rd_L1 x3_2 x9_1).length c136_0)) (ds := [7]) (jl 8 0) jk rfl rfl (hx136_0) (fun hHeld => ?_); refine with_tabW line_one_int.tab10 line_one_int.bits10 (fun HT_ HW_ => ?_)
   generalize wr.drew = w24 at HO_3 HB HL136_0 HR136_0 HX136_0 hx136_0 hHeld ⊢
   refine pure_ (i := 0) (N := some 24) (v := ?_) (a' := ?_) (jl 8 1) rfl rfl (xL HT_.out jk) (fun _ _ _ h => h) (Or.inl ⟨by rfl, ?_⟩) ?_ ?_
   rotate_left
   ·
    intro w'
    go_simp
    with_reducible rfl
   rotate_left
   ·
    simp only [Act.put, qy, qz, ja, i64_w, i32_w]
    rfl
   refine pure_ (i := 1) (N := some 25) (v := ?_) (a' := ?_) (jl 8 3) rfl rfl (xL HT_.out jk) (fun _ _ _ h => h) (Or.inl ⟨by rfl, ?_⟩) ?_ ?_
   rotate_left
   ·
    intro w'
    go_simp
    with_reducible rfl
   rotate_left
   ·
    simp only [Act.put, qy, qz, ja, i64_w, i32_w]
    rfl
   refine pure_ (i := 2) (N := some 26) (v := ?_) (a' := ?_) (jl 8 7) rfl rfl (xL HT_.out jk) (fun _ _ _ h => h) (Or.inl ⟨by rfl, ?_⟩) ?_ ?_
   rotate_left
   ·
    intro w'
    go_simp
    with_reducible rfl
   rotate_left
   ·
    simp only [Act.put, qy, qz, ja, i64_w, i32_w]
    rfl
   refine pure_ (i := 4) (N := some 28) (v := ?_) (a' := ?_) (jl 8 23) rfl rfl (xL HT_.out jk) (fun _ _ _ h => h) (Or.inl ⟨by rfl, ?_⟩) ?_ ?_
   rotate_left
   ·
    intro w'
    go_simp
    with_reducible rfl
   rotate_left
   ·
    simp only [Act.put, qy, qz, ja, i64_w, i32_w]
    rfl
   refine take_ (i := 3) (N := some 27) (v := ?_) (a' := ?_) (jl 8 31) rfl rfl (take_ofW HT_.out HW_.out jk) (fun _ _ _ h => h) (Or.inl ⟨by rfl, ?_⟩) hHeld ?_ ?_
   rotate_left
   ·
    intro w' s0
    go_simp
    with_reducible rfl
   rotate_left
   ·
    simp only [Act.put, qy, qz, ja, i64_w, i32_w]
    rfl
   refine one_ (i := 5) (N := some 29) (jl 8 63) rfl rfl (one_of HT_.out jk) (by decide) (fun K hK => ?_)
   refine goes_ Try.func83 jk rfl #[] (by rfl) rfl rfl qc ?_
   with_reducible refine (line_never_int.calls  t137 _ A20.out).mono ?_
   rintro e w' ⟨rfl, ⟨nd, rfl⟩⟩
   refine ⟨_, rfl, ?_⟩
   have p23 : 0 ≤ (x18_2 : Int) := qq
   have q23 : (x18_2 : Int) < (((rd_L1 x3_2 x9_1).length : Int) : Int) := qq
   obtain ⟨go23, co23, eo23, gb23, gl23, cl23, HG23⟩ := Kd.R_form HL136_0.out jj
   (first | cases eo23 | (injection eo23 with ea_ en_ ec_; (first | subst ea_ | (injection ea_ with ea_; subst ea_)); subst ec_; clear en_))
   have GB23 := xA.mk gb23
   have GG23 := xA.mk HG23
   clear gb23 gl23 HG23
   obtain ⟨hx23_0, hf23_0⟩ := Kd.R_celln 0 HL136_0.out (x18_2 : Int) p23 q23
   replace p23 := eq_true p23
   replace q23 := eq_true q23
   have hq25 : (x9_1 : Int) < (x3_2.length : Int) := (by have h_ : (x9_1 : Int) < ((x3_2.length : Int) : Int) := qq; first | exact h_ | (have e_ := (Kd.xH HO_3.out).1; omega) | simpa only [List.length_set, List.length_set] using h_)
   obtain ⟨oki25, ce25, hcl25, hM25, hcc25, hok25, hbk25⟩ := Kd.S_borrow HO_3.out [] (x9_1 : Int) (qq) hq25
   obtain ⟨ve25_0, rfl, ge25_0⟩ := hM25
   have hv25 := hcc25 0 _ rfl
   rw [Nat.add_zero, show ((Kd.slice 3 (Kd.int .i64))).sz = 1 from rfl, Nat.mul_one] at hv25
   replace hv25 := qx (hv25.symm.trans HX136_0.out)
   subst hv25
   clear hcc25 hcl25
   replace ge25_0 := (show Kd.R (Kd.int .i64) 3 _ _ _ _ (rd_L1 x3_2 x9_1) from ge25_0)
   have HP25 := Kd.R_putg ge25_0 (x18_2 : Int) t137
   rw [← Ny138.out] at HP25
   have HS25 := hbk25 HP25.2 (fun k_ e_ => by injection e_ with e_; subst e_; exact ge25_0.1 _ rfl) (x' := y138) (Kd.M_row HP25.1)
   rw [← Ny140.out] at HS25
   have HQ25 := xA.mk HS25
   clear HP25 HS25 hbk25 hok25
   refine hK.out _ _ (hHeld) (fun hHeld => ?_)
   clear hK K
   refine norm_ (a' := ?_) ?_ ?_
   rotate_left
   ·
    show Act.put _ (some 29) _ = _
    simp only [Act.put, qy, qz, ja, i64_w, i32_w]
    rfl
   refine pure_ (i := 6) (N := some 30) (v := ?_) (a' := ?_) (jl 8 127) rfl rfl (xL HT_.out jk) (fun _ _ _ h => h) (Or.inl ⟨by rfl, ?_⟩) ?_ ?_
   rotate_left
   ·
    intro w'
    go_simp
    with_reducible rfl
   rotate_left
   ·
    simp only [Act.put, qy, qz, ja, i64_w, i32_w]
    rfl
   refine last_ (i := 7) (N := none) (jl 8 255) rfl rfl (one_of HT_.out jk) (by decide) (fun K hK => ?_)
   refine skip_ (w1 := ?_) (by rfl) rfl ?_ ?_
   rotate_left
   ·
    go_simp
    rfl
   refine hK.out _ _ ?_
   clear hK K
   refine done_ (done_of HT_.out jk) ?_
   try go_wp2
   (try simp only [← hl3_2])
   go_roundg k2
   case measure => have := HK1.out; have := HK2.out; omega
   case rel => exact ⟨(y140), (wrap64 (x18_2 + 1)), rfl, H', ⟨by have := HK1.out; have := HK2.out; omega⟩, ⟨by (try simp only [hl3_2]); (with_reducible repeat (first | apply Kd.S_alloc | apply Kd.S_drewN | apply Kd.S_drew)); exact HQ25.out⟩, ⟨qo GB23.out⟩⟩
def line_gcd.l0 : Nat → Int → Int → Option (Int)
 | 0, _, _ => none
 | k + 1, x0, x1 => if x1 = 0 then (some (mx x0 (wrap64 (-x0)))) else (line_gcd.l0 k x1 (Int.tmod x0 x1))
def line_gcd.f (k : Nat) (a0 : Int) (a1 : Int) : Option (Int) := line_gcd.l0 k a0 a1
theorem line_gcd.mono_l : ∀ k, (∀ y0 y1, LeO (line_gcd.l0 k y0 y1) (line_gcd.l0 (k + 1) y0 y1))
 | 0 => fun _ _ r h => by simp [line_gcd.l0] at h
 | k + 1 => by
  have ih0 := line_gcd.mono_l k
  ·
   intro y0 y1
   unfold line_gcd.l0
   repeat' first
   | (with_reducible exact ih0 _ _)
   | (with_reducible exact LeO.refl _)
   | (with_reducible exact LeO.none _)
   | (with_reducible refine LeO.ite ?_ ?_)
   | (with_reducible refine LeO.bind ?_ (fun _ => ?_))
   | exact ih0 _ _
theorem line_gcd.mono : ∀ a0 a1 k, LeO (line_gcd.f k a0 a1) (line_gcd.f (k + 1) a0 a1) := by
 intro a0 a1 k
 have ih0 := line_gcd.mono_l k
 unfold line_gcd.f
 repeat' first
   | exact ih0 _ _
   | exact LeO.none _
   | refine LeO.ite ?_ ?_
   | refine LeO.bind ?_ (fun _ => ?_)
theorem line_gcd.calls (k : Nat) (a0 : Int) (a1 : Int) (r : Int) (w : World) (h : line_gcd.f k a0 a1 = some r) :
  Calls Try.prog 89 #[.int .i64 a0, .int .i64 a1] w fun e w' => e = .returned (.int .i64 r) ∧ Below w.heap.size w w' := by
 have HB := xA.mk (Below.refl w.heap.size w)
 have H : (line_gcd.l0 k a0 a1) = some r := h
 clear h
 have H' := xA.mk H
 clear H
 go_enter Try.func89, Try.ntmps89
 go_wp2
 go_loopg [0, 1] k (fun kq v0 v1 w' => ∃ (x0_1 : Int) (x1_1 : Int), v0 = .int .i64 x0_1 ∧ v1 = .int .i64 x1_1 ∧ xA (line_gcd.l0 kq x0_1 x1_1 = some r) ∧ xA (kq ≤ k) ∧ xA (Below w.heap.size w w'))
 case atStart => exact ⟨(a0), (a1), rfl, rfl, H', ⟨Nat.le_refl _⟩, ⟨HB.out⟩⟩
 case round =>
  clear H'
  obtain ⟨x0_1, x1_1, rfl, rfl, HA, HK1, HB⟩ := hrel
  obtain _ | k1 := gk
  · exact absurd HA.out (by simp [line_gcd.l0])
  have H := HA.out
  clear HA
  simp only [line_gcd.l0] at H
  by_cases c3 : x1_1 = 0
  rotate_left
  ·
   rw [if_neg c3] at H
   have c3b0 : (x1_1 == 0) = false := jg c3
   have H' := xA.mk H
   clear H
   go_wp2
   repeat (go_quiet (fail); try go_wp2)
   go_roundg k1
   case measure => have := HK1.out; omega
   case rel => exact ⟨(x1_1), (Int.tmod x0_1 x1_1), rfl, rfl, H', ⟨by have := HK1.out; omega⟩, ⟨qb⟩⟩
  rw [if_pos c3] at H
  have c3b0 : (x1_1 == 0) = true := beq_iff_eq.mpr c3
  clear c3
  obtain ⟨ji4, hji4⟩ : ∃ j_ : Int, (mx x0_1 (wrap64 (-x0_1))) = j_ := ⟨_, rfl⟩
  replace H : (some ji4) = some r := by first | (rw [hji4] at H; exact H) | (simp only [hji4] at H ⊢; exact H)
  have hji4_ : (if x0_1 < (wrap64 (-x0_1)) then (wrap64 (-x0_1)) else x0_1) = ji4 := hji4
  obtain rfl := qx H
  go_wp2
  go_ret
  exact ⟨by first | rfl | (simp [errW_none, errW_some] <;> rfl) | (simp only [← hji4]; first | rfl | (simp [errW_none, errW_some] <;> rfl)) | (simp [*, errW_none, errW_some] <;> rfl), HB.out⟩
mutual
def lgpace.l0 : Nat → List (List Int) → Bool → List (List Int) → Int → Int → Int → Option (Int × Int × Bool)
 | 0, _, _, _, _, _, _ => none
 | k + 1, x0, x5, x6, x7, x143000, x143001 => if x7 ≤ (x0.length : Int) then ((lgtimes.f k x6 x0).bind fun t146 => (lgpace.l1 k x0 x5 t146 x7 (x0.length : Int) 0 x143000 x143001)) else (some (x143000, x143001, x5))
def lgpace.l1 : Nat → List (List Int) → Bool → List (List Int) → Int → Int → Int → Int → Int → Option (Int × Int × Bool)
 | 0, _, _, _, _, _, _, _, _ => none
 | k + 1, x0, x5, x6, x7, x25, x26, x143000, x143001 => if x26 < x25 then (if 0 ≤ x26 then (if x26 < (x6.length : Int) then (if x26 < ((rd_L1 x6 x26).length : Int) then ((line_never_int.f).bind fun t151 => (if (rd (rd_L1 x6 x26) x26) = t151 then (lgpace.l1 k x0 x5 x6 x7 x25 (wrap64 (x26 + 1)) x143000 x143001) else (if x5 = true then (if (wrap64 ((rd (rd_L1 x6 x26) x26) * x143001)) > (wrap64 (x143000 * x7)) then ((line_gcd.f k (rd (rd_L1 x6 x26) x26) x7).bind fun t154 => (if t154 = 0 then (none) else (lgpace.l1 k x0 true x6 x7 x25 (wrap64 (x26 + 1)) (wrap64 (Int.tdiv (rd (rd_L1 x6 x26) x26) t154)) (wrap64 (Int.tdiv x7 t154))))) else (lgpace.l1 k x0 x5 x6 x7 x25 (wrap64 (x26 + 1)) x143000 x143001)) else ((line_gcd.f k (rd (rd_L1 x6 x26) x26) x7).bind fun t155 => (if t155 = 0 then (none) else (lgpace.l1 k x0 true x6 x7 x25 (wrap64 (x26 + 1)) (wrap64 (Int.tdiv (rd (rd_L1 x6 x26) x26) t155)) (wrap64 (Int.tdiv x7 t155)))))))) else (none)) else (none)) else (none)) else (lgpace.l0 k x0 x5 x6 (wrap64 (x7 + 1)) x143000 x143001)
end
def lgpace.f (k : Nat) (l0 : List (List Int)) : Option (Int × Int × Bool) := (line_one_int.f k (l0.length : Int)).bind fun t143 => (lgpace.l0 k l0 false t143 1 0 1)
theorem lgpace.mono_l : ∀ k, (∀ y0 y1 y2 y3 y4 y5, LeO (lgpace.l0 k y0 y1 y2 y3 y4 y5) (lgpace.l0 (k + 1) y0 y1 y2 y3 y4 y5)) ∧ (∀ y0 y1 y2 y3 y4 y5 y6 y7, LeO (lgpace.l1 k y0 y1 y2 y3 y4 y5 y6 y7) (lgpace.l1 (k + 1) y0 y1 y2 y3 y4 y5 y6 y7))
 | 0 => ⟨fun _ _ _ _ _ _ r h => by simp [lgpace.l0] at h, fun _ _ _ _ _ _ _ _ r h => by simp [lgpace.l1] at h⟩
 | k + 1 => by
  obtain ⟨ih0, ih1⟩ := lgpace.mono_l k
  refine ⟨?_, ?_⟩
  ·
   intro y0 y1 y2 y3 y4 y5
   unfold lgpace.l0
   repeat' first
   | (with_reducible exact LeO.refl _)
   | (with_reducible exact LeO.none _)
   | (with_reducible refine LeO.ite ?_ ?_)
   | (with_reducible refine LeO.bind ?_ (fun _ => ?_))
   | exact ih0 _ _ _ _ _ _
   | exact ih1 _ _ _ _ _ _ _ _
   | exact line_gcd.mono _ _ _
   | exact lgtimes.mono _ _ _
   | exact line_one_int.mono _ _
  ·
   intro y0 y1 y2 y3 y4 y5 y6 y7
   unfold lgpace.l1
   repeat' first
   | (with_reducible exact LeO.refl _)
   | (with_reducible exact LeO.none _)
   | (with_reducible refine LeO.ite ?_ ?_)
   | (with_reducible refine LeO.bind ?_ (fun _ => ?_))
   | exact ih0 _ _ _ _ _ _
   | exact ih1 _ _ _ _ _ _ _ _
   | exact line_gcd.mono _ _ _
   | exact lgtimes.mono _ _ _
   | exact line_one_int.mono _ _
theorem lgpace.mono : ∀ a0 k, LeO (lgpace.f k a0) (lgpace.f (k + 1) a0) := by
 intro a0 k
 obtain ⟨ih0, ih1⟩ := lgpace.mono_l k
 unfold lgpace.f
 repeat' first
   | (with_reducible exact LeO.refl _)
   | (with_reducible exact LeO.none _)
   | (with_reducible refine LeO.ite ?_ ?_)
   | (with_reducible refine LeO.bind ?_ (fun _ => ?_))
   | exact ih0 _ _ _ _ _ _
   | exact ih1 _ _ _ _ _ _ _ _
   | exact line_gcd.mono _ _ _
   | exact lgtimes.mono _ _ _
   | exact line_one_int.mono _ _
def lgpace.T10 : Bool × List (List Nat × List Nat) := (true, [([], []), ([], []), ([0, 1], [0, 1]), ([2], [2]), ([], []), ([3, 4], [3, 4]), ([5], [5]), ([], []), ([6, 7], [6, 7])])
def lgpace.B10 : List Nat := [0, 0, 3, 7, 0, 31, 63, 0, 255]
theorem lgpace.tab10 : rtab .any (opsOf Try.f65 10) = lgpace.T10 := by kernel_rfl
theorem lgpace.bits10 : waitsOk lgpace.T10.2 lgpace.B10 = true := by kernel_rfl
def lgpace.T14 : Bool × List (List Nat × List Nat) := (true, [([], []), ([], []), ([0, 1], [0, 1]), ([], []), ([], []), ([3, 4], [3, 4]), ([2, 5], [2, 5]), ([6, 0, 1, 2, 3, 4, 5, 6], [6]), ([7, 0, 1, 2, 3, 4, 5, 6, 7], [])])
def lgpace.B14 : List Nat := [0, 0, 3, 0, 0, 24, 63, 127, 255]
theorem lgpace.tab14 : rtab .any (opsOf Try.f65 14) = lgpace.T14 := by kernel_rfl
theorem lgpace.bits14 : waitsOk lgpace.T14.2 lgpace.B14 = true := by kernel_rfl
theorem lgpace.calls (k : Nat) (A0 : Option Addr) (c0 : Nat) (l0 : List (List Int)) (r1 : Int) (r2 : Int) (r3 : Bool) (w : World) (hr0 : Kd.C (Kd.slice 3 (Kd.int .i64)) w A0 l0.length l0) (hc0 : l0.length ≤ c0) (h : lgpace.f k l0 = some (r1, r2, r3)) :
  Calls Try.prog 65 #[.slice A0 l0.length c0] w fun e w' => e = .returned (.tuple #[.agg #[.int .i64 r1, .int .i64 r2], .bool r3]) ∧ Below w.heap.size w w' := by
 have hu37 := Try.underlying37
 have HR0 := xA.mk hr0
 have HC0 := xA.mk hc0
 clear hr0 hc0
 have HB := xA.mk (Below.refl w.heap.size w)
 have H : ((line_one_int.f k (l0.length : Int)).bind fun t143 => (lgpace.l0 k l0 false t143 1 0 1)) = some (r1, r2, r3) := h
 clear h
 replace H := qw H
 obtain ⟨t143, A20, H⟩ := H
 replace H : (lgpace.l0 k l0 false t143 1 0 1) = some (r1, r2, r3) := H
 have A2 := xA.mk A20
 clear A20
 have H' := xA.mk H
 clear H
 go_enter Try.func65, Try.ntmps65
 go_wp2_with (first | ((with_reducible refine xZ (N := 2) rfl ?_); refine yD ?hg (N := 2) ?hd (cs := #[.int .i64 0, .int .i64 0]) (t := 37) ?hr ?_; (case hd => rfl); (case hg => rfl); (case hr => first | (go_simp; done) | (go_simp; rfl)); intro gb141 hg w3 hbox hb; have n0_ := xA.mk (xD qa hb); have n1_ := xA.mk (hbox); have n2_ := xA.mk ((by rw [hg]; exact (xB qa) : w.heap.size ≤ gb141)); have n3_ := xA.mk ((by rw [hg]; exact (xB qa) : w.heap.size ≤ gb141)); clear HB; have HB := n0_; have BK141 := n1_; have GW141 := n2_; have GE141 := n3_; clear n0_ n1_ n2_ n3_; clear hb hbox hg) | ((with_reducible refine xZ (N := 4) rfl ?_); refine yD ?hg (N := 4) ?hd (cs := #[.int .i64 0, .int .i64 0]) (t := 37) ?hr ?_; (case hd => rfl); (case hg => rfl); (case hr => first | (go_simp; done) | (go_simp; rfl)); intro gb142 hg w4 hbox hb; have n0_ := xA.mk (xO (g := gb141) (o := .cells #[.int .i64 0, .int .i64 0] 37 (0, 0)) (qn BK141.out) hb); have n1_ := xA.mk (xD (qo GE141.out) hb); have n2_ := xA.mk (hbox); have n3_ := xA.mk ((by rw [hg]; exact (xB (qo GE141.out)) : w.heap.size ≤ gb142)); have n4_ := xA.mk ((by rw [hg]; exact (xB (qo GE141.out)) : w.heap.size ≤ gb142)); have n5_ := xA.mk ((by rw [hg]; exact Nat.ne_of_lt (blk_lt (g := gb141) (o := .cells #[.int .i64 0, .int .i64 0] 37 (0, 0)) (qn BK141.out)) : gb141 ≠ gb142)); have n6_ := xA.mk ((by rw [hg]; exact Nat.ne_of_gt (blk_lt (g := gb141) (o := .cells #[.int .i64 0, .int .i64 0] 37 (0, 0)) (qn BK141.out)) : gb142 ≠ gb141)); clear BK141; clear HB; have BK141 := n0_; have HB := n1_; have BK142 := n2_; have GW142 := n3_; have GE142 := n4_; have NB141_142 := n5_; have NB142_141 := n6_; clear n0_ n1_ n2_ n3_ n4_ n5_ n6_; clear hb hbox hg; have hnb5 := NB142_141.out; have hnc5 := NB141_142.out; have hcz6_0 : w4.cell? ⟨gb142, 0, none⟩ = some (.int .i64 0) := (xE BK142.out 0).trans rfl; have hcz6_1 : w4.cell? ⟨gb142, 1, none⟩ = some (.int .i64 0) := (xE BK142.out 1).trans rfl; have hfz6_0 := xC BK142.out 0; have hfz6_1 := xC BK142.out 1) | ((with_reducible refine xG (f := 87) rfl ?_); refine xM (some 14) rfl rfl Try.func87 jk rfl #[.int .i64 (l0.length : Int)] rfl qc ?_; (with_reducible refine (line_one_int.calls k (l0.length : Int) t143 _ A2.out).mono ?_); rintro e w7 ⟨v144, rfl, ho0, hb⟩; refine ⟨_, rfl, ?_⟩; have n0_ := xA.mk (Kd.S_lower ho0 (xB (by repeat (first | (with_reducible first | exact HB.out | apply xY | apply xN | apply xS | refine xR ?_ GE141.out | refine xR ?_ GE142.out) | exact HB.out)))); have n1_ := xA.mk (xO (g := gb141) (o := .cells #[.int .i64 0, .int .i64 0] 37 (0, 0)) (by (with_reducible repeat (first | refine xK ?_ _ | refine xI ?_ | refine xJ ?_ _)); refine blk_far ?_ NB141_142.out _; (with_reducible repeat (first | refine xK ?_ _ | refine xI ?_ | refine xJ ?_ _)); refine blk_far ?_ NB141_142.out _; (with_reducible repeat (first | refine xK ?_ _ | refine xI ?_ | refine xJ ?_ _)); exact BK141.out) hb); have n2_ := xA.mk (xO (g := gb142) (o := .cells #[.int .i64 0, .int .i64 1] 37 (0, 0)) (by (with_reducible repeat (first | refine xK ?_ _ | refine xI ?_ | refine xJ ?_ _)); refine xV (cs := #[.int .i64 0, .int .i64 0]) ?_ 1 _ rfl; (with_reducible repeat (first | refine xK ?_ _ | refine xI ?_ | refine xJ ?_ _)); refine xV (cs := #[.int .i64 0, .int .i64 0]) ?_ 0 _ rfl; (with_reducible repeat (first | refine xK ?_ _ | refine xI ?_ | refine xJ ?_ _)); exact BK142.out) hb); have n3_ := xA.mk (xD (by repeat (first | (with_reducible first | exact HB.out | apply xY | apply xN | apply xS | refine xR ?_ GE141.out | refine xR ?_ GE142.out) | exact HB.out)) hb); clear BK141; clear BK142; clear HB; have HO145 := n0_; have BK141 := n1_; have BK142 := n2_; have HB := n3_; clear n0_ n1_ n2_ n3_; (try clear hb); (try clear hb2); (try clear hk); (try clear hi); (try clear ho0)))
 go_loopg [5, 6, 7] k (fun kq v5 v6 v7 w' => ∃ (x5_1 : Bool) (x6_1 : List (List Int)) (x7_1 : Int) (x143000_1 : Int) (x143001_1 : Int), v5 = .bool x5_1 ∧ v7 = .int .i64 x7_1 ∧ xA (lgpace.l0 kq l0 x5_1 x6_1 x7_1 x143000_1 x143001_1 = some (r1, r2, r3)) ∧ xA (kq ≤ k) ∧ xA (Kd.S (Kd.slice 3 (Kd.int .i64)) 26 w' w.heap.size (fun _ => True) v6 x6_1) ∧ xA (w'.heap[gb141]? = some (.cells #[.int .i64 0, .int .i64 0] 37 (0, 0))) ∧ xA (w'.heap[gb142]? = some (.cells #[.int .i64 x143000_1, .int .i64 x143001_1] 37 (0, 0))) ∧ xA (Below w.heap.size w w'))
 case atStart => exact ⟨(false), (t143), (1), (0), (1), qf, qf, H', ⟨Nat.le_refl _⟩, ⟨qh HO145.out⟩, ⟨qn BK141.out⟩, ⟨qn BK142.out⟩, ⟨by repeat (first | (with_reducible first | exact HB.out | apply xY | apply xN | apply xS | refine xR ?_ GE141.out | refine xR ?_ GE142.out) | exact HB.out)⟩⟩
 case round =>
  clear H'
  try clear p2
  try clear c5
  try clear c6
  try clear hcz6_0
  try clear hcz6_1
  try clear hfz6_0
  try clear hfz6_1
  obtain ⟨x5_1, x6_1, x7_1, x143000_1, x143001_1, rfl, rfl, HA, HK1, HO_6, BK141, BK142, HB⟩ := hrel
  obtain _ | k1 := gk
  · exact absurd HA.out (by simp [lgpace.l0])
  have H := HA.out
  clear HA
  simp only [lgpace.l0] at H
  obtain ⟨c8b0, H⟩ | ⟨c8b0, H⟩ := yA H
  rotate_left
  ·
   simp only [Option.some.injEq, Prod.mk.injEq] at H
   obtain ⟨rfl, rfl, rfl⟩ := H
   have hnb44 := NB142_141.out
   have hnc44 := NB141_142.out
   have hcz45_0 : wr.cell? ⟨gb142, 0, none⟩ = some (.int .i64 x143000_1) := (xE BK142.out 0).trans rfl
   have hcz45_1 : wr.cell? ⟨gb142, 1, none⟩ = some (.int .i64 x143001_1) := (xE BK142.out 1).trans rfl
   have hfz45_0 := xC BK142.out 0
   have hfz45_1 := xC BK142.out 1
   have hcz46_0 : wr.cell? ⟨gb141, 0, none⟩ = some (.int .i64 0) := (xE BK141.out 0).trans rfl
   have hcz46_1 : wr.cell? ⟨gb141, 1, none⟩ = some (.int .i64 0) := (xE BK141.out 1).trans rfl
   have hfz46_0 := xC BK141.out 0
   have hfz46_1 := xC BK141.out 1
   go_wp2
   refine bodyPost_ret (results_ct rfl _ _ gb141 37 #[.int .i64 x143000_1, .int .i64 x143001_1] (0, 0) _ rfl (by (with_reducible repeat (first | refine xK ?_ _ | refine xI ?_ | refine xJ ?_ _)); refine xV (cs := #[.int .i64 x143000_1, .int .i64 0]) ?_ 1 _ rfl; (with_reducible repeat (first | refine xK ?_ _ | refine xI ?_ | refine xJ ?_ _)); refine xV (cs := #[.int .i64 0, .int .i64 0]) ?_ 0 _ rfl; (with_reducible repeat (first | refine xK ?_ _ | refine xI ?_ | refine xJ ?_ _)); exact BK141.out) Try.underlying37 rfl jk) rfl ?_
   exact ⟨rfl, by repeat (first | (with_reducible first | exact HB.out | apply xY | apply xN | apply xS | refine xR ?_ GE141.out | refine xR ?_ GE142.out) | exact HB.out)⟩
  replace H := qw H
  obtain ⟨t146, A90, H⟩ := H
  replace H : (lgpace.l1 k1 l0 x5_1 t146 x7_1 (l0.length : Int) 0 x143000_1 x143001_1) = some (r1, r2, r3) := H
  have A9 := xA.mk A90
  clear A90
  have H' := xA.mk H
  clear H
  obtain ⟨Ao10, co10, eo10⟩ := Kd.yC HO_6.out
  subst eo10
  go_wp2_with (first | ((with_reducible refine xG (f := 59) rfl ?_); refine xM (some 23) rfl rfl Try.func59 jk rfl #[.slice Ao10 x6_1.length co10, .slice A0 l0.length c0] rfl qc ?_; (with_reducible refine (lgtimes.calls k1 _ _ x6_1 _ _ l0 t146 _ ?side1 ?side2 ?side3 ?side4 A9.out).mono ?_); (case side1 => exact qm (Kd.xH HO_6.out).2.2); (case side2 => exact (Kd.xH HO_6.out).2.1); (case side3 => exact qm (Kd.xQ HR0.out HB.out)); (case side4 => exact HC0.out); rintro e w11 ⟨v147, rfl, ho0, hb⟩; refine ⟨_, rfl, ?_⟩; have HO148 := xA.mk (Kd.S_lower (Kd.S_new' ho0 (Kd.S_lt (qh HO_6.out))) (xB (by repeat (first | (with_reducible first | exact HB.out | apply xY | apply xN | apply xS | refine xR ?_ GE141.out | refine xR ?_ GE142.out) | exact HB.out)))); replace HO_6 := xA.mk (Kd.S_elder' (qh HO_6.out) (Kd.S_base ho0) hb); replace BK141 := xA.mk (xO (g := gb141) (o := .cells #[.int .i64 0, .int .i64 0] 37 (0, 0)) (qn BK141.out) hb); replace BK142 := xA.mk (xO (g := gb142) (o := .cells #[.int .i64 x143000_1, .int .i64 x143001_1] 37 (0, 0)) (qn BK142.out) hb); replace HB := xA.mk (xD (by repeat (first | (with_reducible first | exact HB.out | apply xY | apply xN | apply xS | refine xR ?_ GE141.out | refine xR ?_ GE142.out) | exact HB.out)) hb); (try clear hb); (try clear hb2); (try clear hk); (try clear hi); (try clear ho0)))
  go_loopg [5, 26] k1 (fun kq v5 v26 w' => ∃ (x5_2 : Bool) (x26_2 : Int) (x143000_2 : Int) (x143001_2 : Int), v5 = .bool x5_2 ∧ v26 = .int .i64 x26_2 ∧ xA (lgpace.l1 kq l0 x5_2 t146 x7_1 (l0.length : Int) x26_2 x143000_2 x143001_2 = some (r1, r2, r3)) ∧ xA (kq ≤ k1) ∧ xA (Kd.S (Kd.slice 3 (Kd.int .i64)) 26 w' w.heap.size (fun _ => True) v147 t146) ∧ xA (w'.heap[gb141]? = some (.cells #[.int .i64 0, .int .i64 0] 37 (0, 0))) ∧ xA (w'.heap[gb142]? = some (.cells #[.int .i64 x143000_2, .int .i64 x143001_2] 37 (0, 0))) ∧ xA (Below w.heap.size w w'))
  case atStart => exact ⟨(x5_1), (0), (x143000_1), (x143001_1), qf, qf, H', ⟨Nat.le_refl _⟩, ⟨by (with_reducible repeat (first | apply Kd.S_alloc | apply Kd.S_drewN | apply Kd.S_drew)); exact Kd.xT HO148.out (fun _ hk => trivial)⟩, ⟨qn BK141.out⟩, ⟨qn BK142.out⟩, ⟨by repeat (first | (with_reducible first | exact HB.out | apply xY | apply xN | apply xS | refine xR ?_ GE141.out | refine xR ?_ GE142.out) | exact HB.out)⟩⟩
  case round =>
   clear H'
   try clear p2
   try clear c5
   try clear c6
   try clear c8
   try clear c8b0
   try clear hcz6_0
   try clear hcz6_1
   try clear hfz6_0
   obtain ⟨x5_2, x26_2, x143000_2, x143001_2, rfl, rfl, HA, HK2, HO_6, BK141, BK142, HB⟩ := hrel
   obtain _ | k2 := gk
   · exact absurd HA.out (by simp [lgpace.l1])
   have H := HA.out
   clear HA
   simp only [lgpace.l1] at H
   obtain ⟨c12b0, H⟩ | ⟨c12b0, H⟩ := yA H
   rotate_left
   ·
    have H' := xA.mk H
    clear H
    go_wp2
    go_roundg k2
    case measure => have := HK1.out; have := HK2.out; omega
    case rel => exact ⟨(x5_2), (t146), (wrap64 (x7_1 + 1)), (x143000_2), (x143001_2), rfl, rfl, H', ⟨by have := HK1.out; have := HK2.out; omega⟩, ⟨by exact HO_6.out⟩, ⟨qn BK141.out⟩, ⟨qn BK142.out⟩, ⟨by repeat (first | (with_reducible first | exact HB.out | apply xY | apply xN | apply xS | refine xR ?_ GE141.out | refine xR ?_ GE142.out) | exact HB.out)⟩⟩
   obtain ⟨c13b0, H⟩ := xF H
   obtain ⟨c14b0, H⟩ := xF H
   obtain ⟨c15b0, H⟩ := xF H
   replace H := qw H
   obtain ⟨t151, A160, H⟩ := H
   replace H : (if (rd (rd_L1 t146 x26_2) x26_2) = t151 then (lgpace.l1 k2 l0 x5_2 t146 x7_1 (l0.length : Int) (wrap64 (x26_2 + 1)) x143000_2 x143001_2) else (if x5_2 = true then (if (wrap64 ((rd (rd_L1 t146 x26_2) x26_2) * x143001_2)) > (wrap64 (x143000_2 * x7_1)) then ((line_gcd.f k2 (rd (rd_L1 t146 x26_2) x26_2) x7_1).bind fun t154 => (if t154 = 0 then (none) else (lgpace.l1 k2 l0 true t146 x7_1 (l0.length : Int) (wrap64 (x26_2 + 1)) (wrap64 (Int.tdiv (rd (rd_L1 t146 x26_2) x26_2) t154)) (wrap64 (Int.tdiv x7_1 t154))))) else (lgpace.l1 k2 l0 x5_2 t146 x7_1 (l0.length : Int) (wrap64 (x26_2 + 1)) x143000_2 x143001_2)) else ((line_gcd.f k2 (rd (rd_L1 t146 x26_2) x26_2) x7_1).bind fun t155 => (if t155 = 0 then (none) else (lgpace.l1 k2 l0 true t146 x7_1 (l0.length : Int) (wrap64 (x26_2 + 1)) (wrap64 (Int.tdiv (rd (rd_L1 t146 x26_2) x26_2) t155)) (wrap64 (Int.tdiv x7_1 t155))))))) = some (r1, r2, r3) := H
   have A16 := xA.mk A160
   clear A160
   by_cases c17 : (rd (rd_L1 t146 x26_2) x26_2) = t151
   ·
    rw [if_pos c17] at H
    have c17b0 : ((rd (rd_L1 t146 x26_2) x26_2) == t151) = true := beq_iff_eq.mpr c17
    clear c17
    have H' := xA.mk H
    clear H
    try go_wp2
    have n0_ := xA.mk (Kd.S_drew HO_6.out)
    have n1_ := xA.mk (xI BK141.out)
    have n2_ := xA.mk (xI BK142.out)
    have n3_ := xA.mk (xS HB.out)
    clear HO_6
    clear BK141
    clear BK142
    clear HB
    have HO_6 := n0_
    have BK141 := n1_
    have BK142 := n2_
    have HB := n3_
    clear n0_ n1_ n2_ n3_
    obtain ⟨Ao19, co19, eo19⟩ := Kd.yC HO_6.out
    (first | subst eo19 | (injection eo19 with f1_ f2_ f3_; have f4_ := f1_.symm; have f5_ := f3_.symm; clear f1_ f2_ f3_; subst f4_; subst f5_))
    have p149 : 0 ≤ (x26_2 : Int) := qq
    have q149 : x26_2 < (t146.length : Int) := qq
    obtain ⟨ad149, A149_0, c149_0, e149, hx149_0, hl149_0, hi149_0⟩ := at_L1 (Kd.xH HO_6.out).2.2 x26_2 p149 q149
    cases e149
    obtain ⟨ce149, hce149, hMe149, hcc149⟩ := Kd.S_get HO_6.out [] x26_2 p149 (by first | exact q149 | exact qq | (have e_ := (Kd.xH HO_6.out).1; omega))
    obtain ⟨ve149_0, rfl, ge149_0⟩ := hMe149
    have hv149_0 := hcc149 0 _ rfl
    rw [Nat.add_zero, show ((Kd.slice 3 (Kd.int .i64))).sz = 1 from rfl, Nat.mul_one] at hv149_0
    replace hv149_0 := qx (hv149_0.symm.trans hx149_0)
    rw [hv149_0] at ge149_0
    have HL149_0 := xA.mk (show Kd.R (Kd.int .i64) 3 _ _ _ _ (rd_L1 t146 x26_2) from ge149_0)
    clear hv149_0 ge149_0
    clear hcc149 hce149
    have HR149_0 := xA.mk hi149_0
    have HC149_0 := xA.mk hl149_0
    clear hi149_0 hl149_0
    replace p149 := eq_true p149
    replace q149 := eq_true q149
    have p150 : 0 ≤ (x26_2 : Int) := qq
    have q150 : x26_2 < ((rd_L1 t146 x26_2).length : Int) := qq
    obtain ⟨ad150, e150, hx150_0⟩ := Kd.xU (by repeat (first | (with_reducible exact HR149_0.out) | exact HR149_0.out)) x26_2 p150 q150
    cases e150
    replace p150 := eq_true p150
    replace q150 := eq_true q150
    refine start_ (n := 9) (S := fun w' => w'.cell? (ad149.add (x26_2).toNat) = some (.slice (some ad150) (rd_L1 t146 x26_2).length c149_0) ∧ w'.cell? (ad150.add (x26_2).toNat) = some (.int .i64 (rd (rd_L1 t146 x26_2) x26_2))) (ds := []) (jl 9 0) jk rfl rfl ⟨hx149_0, hx150_0⟩ (fun hHeld => ?_); refine with_tabW lgpace.tab10 lgpace.bits10 (fun HT_ HW_ => ?_)
    generalize wr.drew = w18 at HO_6 BK141 BK142 HB HL149_0 HR149_0 hx149_0 hx150_0 hHeld ⊢
    refine pure_ (i := 0) (N := some 29) (v := ?_) (a' := ?_) (jl 9 1) rfl rfl (xL HT_.out jk) (fun _ _ _ h => h) (Or.inl ⟨by rfl, ?_⟩) ?_ ?_
    rotate_left
    ·
     intro w'
     go_simp
     with_reducible rfl
    rotate_left
    ·
     simp only [Act.put, qy, qz, ja, i64_w, i32_w]
     rfl
    refine pure_ (i := 1) (N := some 30) (v := ?_) (a' := ?_) (jl 9 3) rfl rfl (xL HT_.out jk) (fun _ _ _ h => h) (Or.inl ⟨by rfl, ?_⟩) ?_ ?_
    rotate_left
    ·
     intro w'
     go_simp
     with_reducible rfl
    rotate_left
    ·
     simp only [Act.put, qy, qz, ja, i64_w, i32_w]
     rfl
    refine pure_ (i := 2) (N := some 31) (v := ?_) (a' := ?_) (jl 9 7) rfl rfl (xL HT_.out jk) (fun _ _ _ h => h) (Or.inl ⟨by rfl, ?_⟩) ?_ ?_
    rotate_left
    ·
     intro w'
     go_simp
     with_reducible rfl
    rotate_left
    ·
     simp only [Act.put, qy, qz, ja, i64_w, i32_w]
     rfl
    refine pure_ (i := 4) (N := some 33) (v := ?_) (a' := ?_) (jl 9 23) rfl rfl (xL HT_.out jk) (fun _ _ _ h => h) (Or.inl ⟨by rfl, ?_⟩) ?_ ?_
    rotate_left
    ·
     intro w'
     go_simp
     with_reducible rfl
    rotate_left
    ·
     simp only [Act.put, qy, qz, ja, i64_w, i32_w]
     rfl
    refine take_ (i := 3) (N := some 32) (v := ?_) (a' := ?_) (jl 9 31) rfl rfl (take_ofW HT_.out HW_.out jk) (fun _ _ _ h => h) (Or.inl ⟨by rfl, ?_⟩) hHeld ?_ ?_
    rotate_left
    ·
     rintro w' ⟨s0, s1⟩
     go_simp
     with_reducible rfl
    rotate_left
    ·
     simp only [Act.put, qy, qz, ja, i64_w, i32_w]
     rfl
    refine pure_ (i := 5) (N := some 34) (v := ?_) (a' := ?_) (jl 9 63) rfl rfl (xL HT_.out jk) (fun _ _ _ h => h) (Or.inl ⟨by rfl, ?_⟩) ?_ ?_
    rotate_left
    ·
     intro w'
     go_simp
     with_reducible rfl
    rotate_left
    ·
     simp only [Act.put, qy, qz, ja, i64_w, i32_w]
     rfl
    refine take_ (i := 6) (N := some 35) (v := ?_) (a' := ?_) (jl 9 127) rfl rfl (take_ofW HT_.out HW_.out jk) (fun _ _ _ h => h) (Or.inl ⟨by rfl, ?_⟩) hHeld ?_ ?_
    rotate_left
    ·
     rintro w' ⟨s0, s1⟩
     go_simp
     with_reducible rfl
    rotate_left
    ·
     simp only [Act.put, qy, qz, ja, i64_w, i32_w]
     rfl
    refine one_ (i := 7) (N := some 36) (jl 9 255) rfl rfl (one_of HT_.out jk) (by decide) (fun K hK => ?_)
    refine goes_ Try.func83 jk rfl #[] (by rfl) rfl rfl qc ?_
    with_reducible refine (line_never_int.calls  t151 _ A16.out).mono ?_
    rintro e w' ⟨rfl, ⟨nd, rfl⟩⟩
    refine ⟨_, rfl, ?_⟩
    refine hK.out _ _ ⟨hHeld.1, hHeld.2⟩ (fun hHeld => ?_)
    clear hK K
    refine norm_ (a' := ?_) ?_ ?_
    rotate_left
    ·
     show Act.put _ (some 36) _ = _
     simp only [Act.put, qy, qz, ja, i64_w, i32_w]
     rfl
    refine pure_ (i := 8) (N := some 37) (v := ?_) (a' := ?_) (jl 9 511) rfl rfl (xL HT_.out jk) (fun _ _ _ h => h) (Or.inl ⟨by rfl, ?_⟩) ?_ ?_
    rotate_left
    ·
     intro w'
     go_simp
     with_reducible rfl
    rotate_left
    ·
     simp only [Act.put, qy, qz, ja, i64_w, i32_w]
     rfl
    refine done_ (done_of HT_.out jk) ?_
    try go_wp2
    go_roundg k2
    case measure => have := HK1.out; have := HK2.out; omega
    case rel => exact ⟨(x5_2), (wrap64 (x26_2 + 1)), (x143000_2), (x143001_2), rfl, rfl, H', ⟨by have := HK1.out; have := HK2.out; omega⟩, ⟨by exact HO_6.out⟩, ⟨qn BK141.out⟩, ⟨qn BK142.out⟩, ⟨by repeat (first | (with_reducible first | exact HB.out | apply xY | apply xN | apply xS | refine xR ?_ GE141.out | refine xR ?_ GE142.out) | exact HB.out)⟩⟩
   rw [if_neg c17] at H
   have c17b0 : ((rd (rd_L1 t146 x26_2) x26_2) == t151) = false := jg c17
   by_cases c20 : x5_2 = true
   rotate_left
   ·
    replace c20 := Bool.eq_false_iff.mpr c20
    subst c20
    have H1 : ((line_gcd.f k2 (rd (rd_L1 t146 x26_2) x26_2) x7_1).bind fun t155 => (if t155 = 0 then (none) else (lgpace.l1 k2 l0 true t146 x7_1 (l0.length : Int) (wrap64 (x26_2 + 1)) (wrap64 (Int.tdiv (rd (rd_L1 t146 x26_2) x26_2) t155)) (wrap64 (Int.tdiv x7_1 t155))))) = some (r1, r2, r3) := by rw [if_neg (show ¬ (false = true) by decide)] at H; exact H
    clear H
    have H := H1
    clear H1
    replace H := qw H
    obtain ⟨t155, A360, H⟩ := H
    replace H : (if t155 = 0 then (none) else (lgpace.l1 k2 l0 true t146 x7_1 (l0.length : Int) (wrap64 (x26_2 + 1)) (wrap64 (Int.tdiv (rd (rd_L1 t146 x26_2) x26_2) t155)) (wrap64 (Int.tdiv x7_1 t155)))) = some (r1, r2, r3) := H
    have A36 := xA.mk A360
    clear A360
    by_cases c37 : t155 = 0
    ·
     rw [if_pos c37] at H
     exact absurd H (by simp)
    rw [if_neg c37] at H
    have c37b0 : (t155 == 0) = false := jg c37
    have H' := xA.mk H
    clear H
    try go_wp2
    have n0_ := xA.mk (Kd.S_drew HO_6.out)
    have n1_ := xA.mk (xI BK141.out)
    have n2_ := xA.mk (xI BK142.out)
    have n3_ := xA.mk (xS HB.out)
    clear HO_6
    clear BK141
    clear BK142
    clear HB
    have HO_6 := n0_
    have BK141 := n1_
    have BK142 := n2_
    have HB := n3_
    clear n0_ n1_ n2_ n3_
    obtain ⟨Ao39, co39, eo39⟩ := Kd.yC HO_6.out
    (first | subst eo39 | (injection eo39 with f1_ f2_ f3_; have f4_ := f1_.symm; have f5_ := f3_.symm; clear f1_ f2_ f3_; subst f4_; subst f5_))
    have p149 : 0 ≤ (x26_2 : Int) := qq
    have q149 : x26_2 < (t146.length : Int) := qq
    obtain ⟨ad149, A149_0, c149_0, e149, hx149_0, hl149_0, hi149_0⟩ := at_L1 (Kd.xH HO_6.out).2.2 x26_2 p149 q149
    cases e149
    obtain ⟨ce149, hce149, hMe149, hcc149⟩ := Kd.S_get HO_6.out [] x26_2 p149 (by first | exact q149 | exact qq | (have e_ := (Kd.xH HO_6.out).1; omega))
    obtain ⟨ve149_0, rfl, ge149_0⟩ := hMe149
    have hv149_0 := hcc149 0 _ rfl
    rw [Nat.add_zero, show ((Kd.slice 3 (Kd.int .i64))).sz = 1 from rfl, Nat.mul_one] at hv149_0
    replace hv149_0 := qx (hv149_0.symm.trans hx149_0)
    rw [hv149_0] at ge149_0
    have HL149_0 := xA.mk (show Kd.R (Kd.int .i64) 3 _ _ _ _ (rd_L1 t146 x26_2) from ge149_0)
    clear hv149_0 ge149_0
    clear hcc149 hce149
    have HR149_0 := xA.mk hi149_0
    have HC149_0 := xA.mk hl149_0
    clear hi149_0 hl149_0
    replace p149 := eq_true p149
    replace q149 := eq_true q149
    have p150 : 0 ≤ (x26_2 : Int) := qq
    have q150 : x26_2 < ((rd_L1 t146 x26_2).length : Int) := qq
    obtain ⟨ad150, e150, hx150_0⟩ := Kd.xU (by repeat (first | (with_reducible exact HR149_0.out) | exact HR149_0.out)) x26_2 p150 q150
    cases e150
    replace p150 := eq_true p150
    replace q150 := eq_true q150
    refine start_ (n := 9) (S := fun w' => w'.cell? (ad149.add (x26_2).toNat) = some (.slice (some ad150) (rd_L1 t146 x26_2).length c149_0) ∧ w'.cell? (ad150.add (x26_2).toNat) = some (.int .i64 (rd (rd_L1 t146 x26_2) x26_2))) (ds := []) (jl 9 0) jk rfl rfl ⟨hx149_0, hx150_0⟩ (fun hHeld => ?_); refine with_tabW lgpace.tab10 lgpace.bits10 (fun HT_ HW_ => ?_)
    generalize wr.drew = w38 at HO_6 BK141 BK142 HB HL149_0 HR149_0 hx149_0 hx150_0 hHeld ⊢
    refine pure_ (i := 0) (N := some 29) (v := ?_) (a' := ?_) (jl 9 1) rfl rfl (xL HT_.out jk) (fun _ _ _ h => h) (Or.inl ⟨by rfl, ?_⟩) ?_ ?_
    rotate_left
    ·
     intro w'
     go_simp
     with_reducible rfl
    rotate_left
    ·
     simp only [Act.put, qy, qz, ja, i64_w, i32_w]
     rfl
    refine pure_ (i := 1) (N := some 30) (v := ?_) (a' := ?_) (jl 9 3) rfl rfl (xL HT_.out jk) (fun _ _ _ h => h) (Or.inl ⟨by rfl, ?_⟩) ?_ ?_
    rotate_left
    ·
     intro w'
     go_simp
     with_reducible rfl
    rotate_left
    ·
     simp only [Act.put, qy, qz, ja, i64_w, i32_w]
     rfl
    refine pure_ (i := 2) (N := some 31) (v := ?_) (a' := ?_) (jl 9 7) rfl rfl (xL HT_.out jk) (fun _ _ _ h => h) (Or.inl ⟨by rfl, ?_⟩) ?_ ?_
    rotate_left
    ·
     intro w'
     go_simp
     with_reducible rfl
    rotate_left
    ·
     simp only [Act.put, qy, qz, ja, i64_w, i32_w]
     rfl
    refine pure_ (i := 4) (N := some 33) (v := ?_) (a' := ?_) (jl 9 23) rfl rfl (xL HT_.out jk) (fun _ _ _ h => h) (Or.inl ⟨by rfl, ?_⟩) ?_ ?_
    rotate_left
    ·
     intro w'
     go_simp
     with_reducible rfl
    rotate_left
    ·
     simp only [Act.put, qy, qz, ja, i64_w, i32_w]
     rfl
    refine take_ (i := 3) (N := some 32) (v := ?_) (a' := ?_) (jl 9 31) rfl rfl (take_ofW HT_.out HW_.out jk) (fun _ _ _ h => h) (Or.inl ⟨by rfl, ?_⟩) hHeld ?_ ?_
    rotate_left
    ·
     rintro w' ⟨s0, s1⟩
     go_simp
     with_reducible rfl
    rotate_left
    ·
     simp only [Act.put, qy, qz, ja, i64_w, i32_w]
     rfl
    refine pure_ (i := 5) (N := some 34) (v := ?_) (a' := ?_) (jl 9 63) rfl rfl (xL HT_.out jk) (fun _ _ _ h => h) (Or.inl ⟨by rfl, ?_⟩) ?_ ?_
    rotate_left
    ·
     intro w'
     go_simp
     with_reducible rfl
    rotate_left
    ·
     simp only [Act.put, qy, qz, ja, i64_w, i32_w]
     rfl
    refine take_ (i := 6) (N := some 35) (v := ?_) (a' := ?_) (jl 9 127) rfl rfl (take_ofW HT_.out HW_.out jk) (fun _ _ _ h => h) (Or.inl ⟨by rfl, ?_⟩) hHeld ?_ ?_
    rotate_left
    ·
     rintro w' ⟨s0, s1⟩
     go_simp
     with_reducible rfl
    rotate_left
    ·
     simp only [Act.put, qy, qz, ja, i64_w, i32_w]
     rfl
    refine one_ (i := 7) (N := some 36) (jl 9 255) rfl rfl (one_of HT_.out jk) (by decide) (fun K hK => ?_)
    refine goes_ Try.func83 jk rfl #[] (by rfl) rfl rfl qc ?_
    with_reducible refine (line_never_int.calls  t151 _ A16.out).mono ?_
    rintro e w' ⟨rfl, ⟨nd, rfl⟩⟩
    refine ⟨_, rfl, ?_⟩
    refine hK.out _ _ ⟨hHeld.1, hHeld.2⟩ (fun hHeld => ?_)
    clear hK K
    refine norm_ (a' := ?_) ?_ ?_
    rotate_left
    ·
     show Act.put _ (some 36) _ = _
     simp only [Act.put, qy, qz, ja, i64_w, i32_w]
     rfl
    refine pure_ (i := 8) (N := some 37) (v := ?_) (a' := ?_) (jl 9 511) rfl rfl (xL HT_.out jk) (fun _ _ _ h => h) (Or.inl ⟨by rfl, ?_⟩) ?_ ?_
    rotate_left
    ·
     intro w'
     go_simp
     with_reducible rfl
    rotate_left
    ·
     simp only [Act.put, qy, qz, ja, i64_w, i32_w]
     rfl
    refine done_ (done_of HT_.out jk) ?_
    have p152 : 0 ≤ (x26_2 : Int) := qr
    have q152 : x26_2 < (t146.length : Int) := qr
    obtain ⟨ad152, A152_0, c152_0, e152, hx152_0, hl152_0, hi152_0⟩ := at_L1 (Kd.xH HO_6.out).2.2 x26_2 p152 q152
    obtain rfl : ad149 = ad152 := (by injection e152)
    obtain ⟨ce152, hce152, hMe152, hcc152⟩ := Kd.S_get HO_6.out [] x26_2 p152 (by first | exact q152 | exact qr | (have e_ := (Kd.xH HO_6.out).1; omega))
    obtain ⟨ve152_0, rfl, ge152_0⟩ := hMe152
    have hv152_0 := hcc152 0 _ rfl
    rw [Nat.add_zero, show ((Kd.slice 3 (Kd.int .i64))).sz = 1 from rfl, Nat.mul_one] at hv152_0
    replace hv152_0 := qx (hv152_0.symm.trans hx152_0)
    rw [hv152_0] at ge152_0
    have HL152_0 := xA.mk (show Kd.R (Kd.int .i64) 3 _ _ _ _ (rd_L1 t146 x26_2) from ge152_0)
    clear hv152_0 ge152_0
    clear hcc152 hce152
    have HR152_0 := xA.mk hi152_0
    have HC152_0 := xA.mk hl152_0
    clear hi152_0 hl152_0
    replace p152 := eq_true p152
    replace q152 := eq_true q152
    have ea_ := qx (hx149_0.symm.trans hx152_0)
    injection ea_ with ea_ en_ ec_
    subst ea_
    subst ec_
    clear en_
    have p153 : 0 ≤ (x26_2 : Int) := qr
    have q153 : x26_2 < ((rd_L1 t146 x26_2).length : Int) := qr
    obtain ⟨ad153, e153, hx153_0⟩ := Kd.xU (by repeat (first | (with_reducible exact HR152_0.out) | (with_reducible refine Kd.C_alloc ?_ _) | (with_reducible refine Kd.C_drewN ?_ _) | (with_reducible refine Kd.C_drew ?_) | exact HR152_0.out)) x26_2 p153 q153
    cases e153
    replace p153 := eq_true p153
    replace q153 := eq_true q153
    try go_wp2_with (first | ((with_reducible refine xG (f := 89) rfl ?_); refine xM (some 60) rfl rfl Try.func89 jk rfl #[.int .i64 (rd (rd_L1 t146 x26_2) x26_2), .int .i64 x7_1] rfl qc ?_; (with_reducible refine (line_gcd.calls k2 (rd (rd_L1 t146 x26_2) x26_2) x7_1 t155 _ A36.out).mono ?_); rintro e w40 ⟨rfl, hb⟩; refine ⟨_, rfl, ?_⟩; replace HO_6 := xA.mk (Kd.S_below (qh HO_6.out) hb); replace HL149_0 := xA.mk (Kd.R_below (qi HL149_0.out) hb); replace HL152_0 := xA.mk (Kd.R_below (qi HL152_0.out) hb); replace BK141 := xA.mk (xO (g := gb141) (o := .cells #[.int .i64 0, .int .i64 0] 37 (0, 0)) (qn BK141.out) hb); replace BK142 := xA.mk (xO (g := gb142) (o := .cells #[.int .i64 x143000_2, .int .i64 x143001_2] 37 (0, 0)) (qn BK142.out) hb); replace HR149_0 := xA.mk (Kd.xQ (by repeat (first | (with_reducible exact HR149_0.out) | (with_reducible refine Kd.C_alloc ?_ _) | (with_reducible refine Kd.C_drewN ?_ _) | (with_reducible refine Kd.C_drew ?_) | exact HR149_0.out)) hb); replace HR152_0 := xA.mk (Kd.xQ (by repeat (first | (with_reducible exact HR152_0.out) | (with_reducible refine Kd.C_alloc ?_ _) | (with_reducible refine Kd.C_drewN ?_ _) | (with_reducible refine Kd.C_drew ?_) | exact HR152_0.out)) hb); replace HB := xA.mk (xD (by repeat (first | (with_reducible first | exact HB.out | apply xY | apply xN | apply xS | refine xR ?_ GE141.out | refine xR ?_ GE142.out) | exact HB.out)) hb); (try clear hb); (try clear hb2); (try clear hk); (try clear hi)))
    have n0_ := xA.mk (Kd.S_drew HO_6.out)
    have n1_ := xA.mk (Kd.R_drew HL149_0.out)
    have n2_ := xA.mk (Kd.R_drew HL152_0.out)
    have n3_ := xA.mk (xI BK141.out)
    have n4_ := xA.mk (xI BK142.out)
    have n5_ := xA.mk (Kd.C_drew HR149_0.out)
    have n6_ := xA.mk (Kd.C_drew HR152_0.out)
    have n7_ := xA.mk (xS HB.out)
    clear HO_6
    clear HL149_0
    clear HL152_0
    clear BK141
    clear BK142
    clear HR149_0
    clear HR152_0
    clear HB
    have HO_6 := n0_
    have HL149_0 := n1_
    have HL152_0 := n2_
    have BK141 := n3_
    have BK142 := n4_
    have HR149_0 := n5_
    have HR152_0 := n6_
    have HB := n7_
    clear n0_ n1_ n2_ n3_ n4_ n5_ n6_ n7_
    refine start_ (n := 9) (S := fun w' => True) (ds := []) (jl 9 0) jk rfl rfl trivial (fun hHeld => ?_); refine with_tabW lgpace.tab14 lgpace.bits14 (fun HT_ HW_ => ?_)
    generalize w40.drew = w41 at HO_6 HL149_0 HL152_0 BK141 BK142 HR149_0 HR152_0 HB hHeld ⊢
    refine pure_ (i := 0) (N := some 61) (v := ?_) (a' := ?_) (jl 9 1) rfl rfl (xL HT_.out jk) (fun _ _ _ h => h) (Or.inl ⟨by rfl, ?_⟩) ?_ ?_
    rotate_left
    ·
     intro w'
     go_simp
     with_reducible rfl
    rotate_left
    ·
     simp only [Act.put, qy, qz, ja, i64_w, i32_w]
     rfl
    refine pure_ (i := 1) (N := some 62) (v := ?_) (a' := ?_) (jl 9 3) rfl rfl (xL HT_.out jk) (fun _ _ _ h => h) (Or.inl ⟨by rfl, ?_⟩) ?_ ?_
    rotate_left
    ·
     intro w'
     go_simp
     with_reducible rfl
    rotate_left
    ·
     simp only [Act.put, qy, qz, ja, i64_w, i32_w]
     rfl
    refine pure_ (i := 2) (N := some 63) (v := ?_) (a' := ?_) (jl 9 7) rfl rfl (xL HT_.out jk) (fun _ _ _ h => h) (Or.inl ⟨by rfl, ?_⟩) ?_ ?_
    rotate_left
    ·
     intro w'
     go_simp
     with_reducible rfl
    rotate_left
    ·
     simp only [Act.put, qy, qz, ja, i64_w, i32_w]
     rfl
    refine pure_ (i := 3) (N := some 64) (v := ?_) (a' := ?_) (jl 9 15) rfl rfl (xL HT_.out jk) (fun _ _ _ h => h) (Or.inl ⟨by rfl, ?_⟩) ?_ ?_
    rotate_left
    ·
     intro w'
     go_simp
     with_reducible rfl
    rotate_left
    ·
     simp only [Act.put, qy, qz, ja, i64_w, i32_w]
     rfl
    refine pure_ (i := 4) (N := some 65) (v := ?_) (a' := ?_) (jl 9 31) rfl rfl (xL HT_.out jk) (fun _ _ _ h => h) (Or.inl ⟨by rfl, ?_⟩) ?_ ?_
    rotate_left
    ·
     intro w'
     go_simp
     with_reducible rfl
    rotate_left
    ·
     simp only [Act.put, qy, qz, ja, i64_w, i32_w]
     rfl
    refine pure_ (i := 5) (N := some 66) (v := ?_) (a' := ?_) (jl 9 63) rfl rfl (xL HT_.out jk) (fun _ _ _ h => h) (Or.inl ⟨by rfl, ?_⟩) ?_ ?_
    rotate_left
    ·
     intro w'
     go_simp
     with_reducible rfl
    rotate_left
    ·
     simp only [Act.put, qy, qz, ja, i64_w, i32_w]
     rfl
    refine pure_ (i := 6) (N := some 67) (v := ?_) (a' := ?_) (jl 9 127) rfl rfl (xL HT_.out jk) (fun _ _ _ h => h) (Or.inl ⟨by rfl, ?_⟩) ?_ ?_
    rotate_left
    ·
     intro w'
     go_simp
     with_reducible rfl
    rotate_left
    ·
     simp only [Act.put, qy, qz, ja, i64_w, i32_w]
     rfl
    refine one_ (i := 7) (N := none) (jl 9 255) rfl rfl (one_of HT_.out jk) (by decide) (fun K hK => ?_)
    have hs42 : w41.cell? ⟨gb142, 0, none⟩ = some (.int .i64 x143000_2) := (xE BK142.out 0).trans rfl
    have hfs42 := xC BK142.out 0
    have hns42_0 := NB141_142.out
    have hms42_0 := NB142_141.out
    have hs43 : w41.cell? ⟨gb142, 1, none⟩ = some (.int .i64 x143001_2) := (xE BK142.out 1).trans rfl
    have hfs43 := xC BK142.out 1
    have hns43_0 := NB141_142.out
    have hms43_0 := NB142_141.out
    refine skip_ (w1 := ?_) (by rfl) rfl ?_ ?_
    rotate_left
    ·
     go_simp
     rfl
    refine hK.out _ _ trivial (fun hHeld => ?_)
    clear hK K
    refine pure_ (i := 8) (N := some 5) (v := ?_) (a' := ?_) (jl 9 511) rfl rfl (xL HT_.out jk) (fun _ _ _ h => h) (Or.inl ⟨by rfl, ?_⟩) ?_ ?_
    rotate_left
    ·
     intro w'
     go_simp
     with_reducible rfl
    rotate_left
    ·
     simp only [Act.put, qy, qz, ja, i64_w, i32_w]
     rfl
    refine done_ (done_of HT_.out jk) ?_
    try go_wp2
    go_roundg k2
    case measure => have := HK1.out; have := HK2.out; omega
    case rel => exact ⟨(true), (wrap64 (x26_2 + 1)), (wrap64 (Int.tdiv (rd (rd_L1 t146 x26_2) x26_2) t155)), (wrap64 (Int.tdiv x7_1 t155)), rfl, rfl, H', ⟨by have := HK1.out; have := HK2.out; omega⟩, ⟨by (with_reducible repeat (first | apply Kd.S_alloc | apply Kd.S_drewN | apply Kd.S_drew)); exact Kd.xT (Kd.S_far (p := ⟨gb142, 1, none⟩) (Kd.S_far (p := ⟨gb142, 0, none⟩) (Kd.S_types HO_6.out BK142.out (by decide)) (fun _ hk => hk.2) (.int .i64 (wrap64 (Int.tdiv (rd (rd_L1 t146 x26_2) x26_2) t155)))) (fun _ hk => hk.2) (.int .i64 (wrap64 (Int.tdiv x7_1 t155)))) (fun _ hk => trivial)⟩, ⟨by (with_reducible repeat (first | refine xK ?_ _ | refine xI ?_ | refine xJ ?_ _)); refine blk_far ?_ NB141_142.out _; (with_reducible repeat (first | refine xK ?_ _ | refine xI ?_ | refine xJ ?_ _)); refine blk_far ?_ NB141_142.out _; (with_reducible repeat (first | refine xK ?_ _ | refine xI ?_ | refine xJ ?_ _)); exact BK141.out⟩, ⟨by (with_reducible repeat (first | refine xK ?_ _ | refine xI ?_ | refine xJ ?_ _)); refine xV (cs := #[.int .i64 (wrap64 (Int.tdiv (rd (rd_L1 t146 x26_2) x26_2) t155)), .int .i64 x143001_2]) ?_ 1 _ rfl; (with_reducible repeat (first | refine xK ?_ _ | refine xI ?_ | refine xJ ?_ _)); refine xV (cs := #[.int .i64 x143000_2, .int .i64 x143001_2]) ?_ 0 _ rfl; (with_reducible repeat (first | refine xK ?_ _ | refine xI ?_ | refine xJ ?_ _)); exact BK142.out⟩, ⟨by repeat (first | (with_reducible first | exact HB.out | apply xY | apply xN | apply xS | refine xR ?_ GE141.out | refine xR ?_ GE142.out) | exact HB.out)⟩⟩
   subst c20
   have H1 : (if (wrap64 ((rd (rd_L1 t146 x26_2) x26_2) * x143001_2)) > (wrap64 (x143000_2 * x7_1)) then ((line_gcd.f k2 (rd (rd_L1 t146 x26_2) x26_2) x7_1).bind fun t154 => (if t154 = 0 then (none) else (lgpace.l1 k2 l0 true t146 x7_1 (l0.length : Int) (wrap64 (x26_2 + 1)) (wrap64 (Int.tdiv (rd (rd_L1 t146 x26_2) x26_2) t154)) (wrap64 (Int.tdiv x7_1 t154))))) else (lgpace.l1 k2 l0 true t146 x7_1 (l0.length : Int) (wrap64 (x26_2 + 1)) x143000_2 x143001_2)) = some (r1, r2, r3) := by rw [if_pos rfl] at H; exact H
   clear H
   have H := H1
   clear H1
   by_cases c21 : (wrap64 ((rd (rd_L1 t146 x26_2) x26_2) * x143001_2)) > (wrap64 (x143000_2 * x7_1))
   rotate_left
   ·
    rw [if_neg c21] at H
    have c21b0 : decide ((wrap64 (x143000_2 * x7_1)) < (wrap64 ((rd (rd_L1 t146 x26_2) x26_2) * x143001_2))) = false := qv c21
    clear c21
    have H' := xA.mk H
    clear H
    try go_wp2
    have n0_ := xA.mk (Kd.S_drew HO_6.out)
    have n1_ := xA.mk (xI BK141.out)
    have n2_ := xA.mk (xI BK142.out)
    have n3_ := xA.mk (xS HB.out)
    clear HO_6
    clear BK141
    clear BK142
    clear HB
    have HO_6 := n0_
    have BK141 := n1_
    have BK142 := n2_
    have HB := n3_
    clear n0_ n1_ n2_ n3_
    obtain ⟨Ao33, co33, eo33⟩ := Kd.yC HO_6.out
    (first | subst eo33 | (injection eo33 with f1_ f2_ f3_; have f4_ := f1_.symm; have f5_ := f3_.symm; clear f1_ f2_ f3_; subst f4_; subst f5_))
    have p149 : 0 ≤ (x26_2 : Int) := qq
    have q149 : x26_2 < (t146.length : Int) := qq
    obtain ⟨ad149, A149_0, c149_0, e149, hx149_0, hl149_0, hi149_0⟩ := at_L1 (Kd.xH HO_6.out).2.2 x26_2 p149 q149
    cases e149
    obtain ⟨ce149, hce149, hMe149, hcc149⟩ := Kd.S_get HO_6.out [] x26_2 p149 (by first | exact q149 | exact qq | (have e_ := (Kd.xH HO_6.out).1; omega))
    obtain ⟨ve149_0, rfl, ge149_0⟩ := hMe149
    have hv149_0 := hcc149 0 _ rfl
    rw [Nat.add_zero, show ((Kd.slice 3 (Kd.int .i64))).sz = 1 from rfl, Nat.mul_one] at hv149_0
    replace hv149_0 := qx (hv149_0.symm.trans hx149_0)
    rw [hv149_0] at ge149_0
    have HL149_0 := xA.mk (show Kd.R (Kd.int .i64) 3 _ _ _ _ (rd_L1 t146 x26_2) from ge149_0)
    clear hv149_0 ge149_0
    clear hcc149 hce149
    have HR149_0 := xA.mk hi149_0
    have HC149_0 := xA.mk hl149_0
    clear hi149_0 hl149_0
    replace p149 := eq_true p149
    replace q149 := eq_true q149
    have p150 : 0 ≤ (x26_2 : Int) := qq
    have q150 : x26_2 < ((rd_L1 t146 x26_2).length : Int) := qq
    obtain ⟨ad150, e150, hx150_0⟩ := Kd.xU (by repeat (first | (with_reducible exact HR149_0.out) | exact HR149_0.out)) x26_2 p150 q150
    cases e150
    replace p150 := eq_true p150
    replace q150 := eq_true q150
    refine start_ (n := 9) (S := fun w' => w'.cell? (ad149.add (x26_2).toNat) = some (.slice (some ad150) (rd_L1 t146 x26_2).length c149_0) ∧ w'.cell? (ad150.add (x26_2).toNat) = some (.int .i64 (rd (rd_L1 t146 x26_2) x26_2))) (ds := []) (jl 9 0) jk rfl rfl ⟨hx149_0, hx150_0⟩ (fun hHeld => ?_); refine with_tabW lgpace.tab10 lgpace.bits10 (fun HT_ HW_ => ?_)
    generalize wr.drew = w32 at HO_6 BK141 BK142 HB HL149_0 HR149_0 hx149_0 hx150_0 hHeld ⊢
    refine pure_ (i := 0) (N := some 29) (v := ?_) (a' := ?_) (jl 9 1) rfl rfl (xL HT_.out jk) (fun _ _ _ h => h) (Or.inl ⟨by rfl, ?_⟩) ?_ ?_
    rotate_left
    ·
     intro w'
     go_simp
     with_reducible rfl
    rotate_left
    ·
     simp only [Act.put, qy, qz, ja, i64_w, i32_w]
     rfl
    refine pure_ (i := 1) (N := some 30) (v := ?_) (a' := ?_) (jl 9 3) rfl rfl (xL HT_.out jk) (fun _ _ _ h => h) (Or.inl ⟨by rfl, ?_⟩) ?_ ?_
    rotate_left
    ·
     intro w'
     go_simp
     with_reducible rfl
    rotate_left
    ·
     simp only [Act.put, qy, qz, ja, i64_w, i32_w]
     rfl
    refine pure_ (i := 2) (N := some 31) (v := ?_) (a' := ?_) (jl 9 7) rfl rfl (xL HT_.out jk) (fun _ _ _ h => h) (Or.inl ⟨by rfl, ?_⟩) ?_ ?_
    rotate_left
    ·
     intro w'
     go_simp
     with_reducible rfl
    rotate_left
    ·
     simp only [Act.put, qy, qz, ja, i64_w, i32_w]
     rfl
    refine pure_ (i := 4) (N := some 33) (v := ?_) (a' := ?_) (jl 9 23) rfl rfl (xL HT_.out jk) (fun _ _ _ h => h) (Or.inl ⟨by rfl, ?_⟩) ?_ ?_
    rotate_left
    ·
     intro w'
     go_simp
     with_reducible rfl
    rotate_left
    ·
     simp only [Act.put, qy, qz, ja, i64_w, i32_w]
     rfl
    refine take_ (i := 3) (N := some 32) (v := ?_) (a' := ?_) (jl 9 31) rfl rfl (take_ofW HT_.out HW_.out jk) (fun _ _ _ h => h) (Or.inl ⟨by rfl, ?_⟩) hHeld ?_ ?_
    rotate_left
    ·
     rintro w' ⟨s0, s1⟩
     go_simp
     with_reducible rfl
    rotate_left
    ·
     simp only [Act.put, qy, qz, ja, i64_w, i32_w]
     rfl
    refine pure_ (i := 5) (N := some 34) (v := ?_) (a' := ?_) (jl 9 63) rfl rfl (xL HT_.out jk) (fun _ _ _ h => h) (Or.inl ⟨by rfl, ?_⟩) ?_ ?_
    rotate_left
    ·
     intro w'
     go_simp
     with_reducible rfl
    rotate_left
    ·
     simp only [Act.put, qy, qz, ja, i64_w, i32_w]
     rfl
    refine take_ (i := 6) (N := some 35) (v := ?_) (a' := ?_) (jl 9 127) rfl rfl (take_ofW HT_.out HW_.out jk) (fun _ _ _ h => h) (Or.inl ⟨by rfl, ?_⟩) hHeld ?_ ?_
    rotate_left
    ·
     rintro w' ⟨s0, s1⟩
     go_simp
     with_reducible rfl
    rotate_left
    ·
     simp only [Act.put, qy, qz, ja, i64_w, i32_w]
     rfl
    refine one_ (i := 7) (N := some 36) (jl 9 255) rfl rfl (one_of HT_.out jk) (by decide) (fun K hK => ?_)
    refine goes_ Try.func83 jk rfl #[] (by rfl) rfl rfl qc ?_
    with_reducible refine (line_never_int.calls  t151 _ A16.out).mono ?_
    rintro e w' ⟨rfl, ⟨nd, rfl⟩⟩
    refine ⟨_, rfl, ?_⟩
    refine hK.out _ _ ⟨hHeld.1, hHeld.2⟩ (fun hHeld => ?_)
    clear hK K
    refine norm_ (a' := ?_) ?_ ?_
    rotate_left
    ·
     show Act.put _ (some 36) _ = _
     simp only [Act.put, qy, qz, ja, i64_w, i32_w]
     rfl
    refine pure_ (i := 8) (N := some 37) (v := ?_) (a' := ?_) (jl 9 511) rfl rfl (xL HT_.out jk) (fun _ _ _ h => h) (Or.inl ⟨by rfl, ?_⟩) ?_ ?_
    rotate_left
    ·
     intro w'
     go_simp
     with_reducible rfl
    rotate_left
    ·
     simp only [Act.put, qy, qz, ja, i64_w, i32_w]
     rfl
    refine done_ (done_of HT_.out jk) ?_
    have p152 : 0 ≤ (x26_2 : Int) := qq
    have q152 : x26_2 < (t146.length : Int) := qq
    obtain ⟨ad152, A152_0, c152_0, e152, hx152_0, hl152_0, hi152_0⟩ := at_L1 (Kd.xH HO_6.out).2.2 x26_2 p152 q152
    obtain rfl : ad149 = ad152 := (by injection e152)
    obtain ⟨ce152, hce152, hMe152, hcc152⟩ := Kd.S_get HO_6.out [] x26_2 p152 (by first | exact q152 | exact qq | (have e_ := (Kd.xH HO_6.out).1; omega))
    obtain ⟨ve152_0, rfl, ge152_0⟩ := hMe152
    have hv152_0 := hcc152 0 _ rfl
    rw [Nat.add_zero, show ((Kd.slice 3 (Kd.int .i64))).sz = 1 from rfl, Nat.mul_one] at hv152_0
    replace hv152_0 := qx (hv152_0.symm.trans hx152_0)
    rw [hv152_0] at ge152_0
    have HL152_0 := xA.mk (show Kd.R (Kd.int .i64) 3 _ _ _ _ (rd_L1 t146 x26_2) from ge152_0)
    clear hv152_0 ge152_0
    clear hcc152 hce152
    have HR152_0 := xA.mk hi152_0
    have HC152_0 := xA.mk hl152_0
    clear hi152_0 hl152_0
    replace p152 := eq_true p152
    replace q152 := eq_true q152
    have ea_ := qx (hx149_0.symm.trans hx152_0)
    injection ea_ with ea_ en_ ec_
    subst ea_
    subst ec_
    clear en_
    have p153 : 0 ≤ (x26_2 : Int) := qq
    have q153 : x26_2 < ((rd_L1 t146 x26_2).length : Int) := qq
    obtain ⟨ad153, e153, hx153_0⟩ := Kd.xU (by repeat (first | (with_reducible exact HR152_0.out) | exact HR152_0.out)) x26_2 p153 q153
    cases e153
    replace p153 := eq_true p153
    replace q153 := eq_true q153
    have hnb34 := NB142_141.out
    have hnc34 := NB141_142.out
    have hcz35_0 : w32.cell? ⟨gb142, 0, none⟩ = some (.int .i64 x143000_2) := (xE BK142.out 0).trans rfl
    have hcz35_1 : w32.cell? ⟨gb142, 1, none⟩ = some (.int .i64 x143001_2) := (xE BK142.out 1).trans rfl
    have hfz35_0 := xC BK142.out 0
    have hfz35_1 := xC BK142.out 1
    try go_wp2
    go_roundg k2
    case measure => have := HK1.out; have := HK2.out; omega
    case rel => exact ⟨(true), (wrap64 (x26_2 + 1)), (x143000_2), (x143001_2), rfl, rfl, H', ⟨by have := HK1.out; have := HK2.out; omega⟩, ⟨by exact HO_6.out⟩, ⟨qn BK141.out⟩, ⟨qn BK142.out⟩, ⟨by repeat (first | (with_reducible first | exact HB.out | apply xY | apply xN | apply xS | refine xR ?_ GE141.out | refine xR ?_ GE142.out) | exact HB.out)⟩⟩
   rw [if_pos c21] at H
   have c21b0 : decide ((wrap64 (x143000_2 * x7_1)) < (wrap64 ((rd (rd_L1 t146 x26_2) x26_2) * x143001_2))) = true := qu c21
   clear c21
   replace H := qw H
   obtain ⟨t154, A220, H⟩ := H
   replace H : (if t154 = 0 then (none) else (lgpace.l1 k2 l0 true t146 x7_1 (l0.length : Int) (wrap64 (x26_2 + 1)) (wrap64 (Int.tdiv (rd (rd_L1 t146 x26_2) x26_2) t154)) (wrap64 (Int.tdiv x7_1 t154)))) = some (r1, r2, r3) := H
   have A22 := xA.mk A220
   clear A220
   by_cases c23 : t154 = 0
   ·
    rw [if_pos c23] at H
    exact absurd H (by simp)
   rw [if_neg c23] at H
   have c23b0 : (t154 == 0) = false := jg c23
   have H' := xA.mk H
   clear H
   try go_wp2
   have n0_ := xA.mk (Kd.S_drew HO_6.out)
   have n1_ := xA.mk (xI BK141.out)
   have n2_ := xA.mk (xI BK142.out)
   have n3_ := xA.mk (xS HB.out)
   clear HO_6
   clear BK141
   clear BK142
   clear HB
   have HO_6 := n0_
   have BK141 := n1_
   have BK142 := n2_
   have HB := n3_
   clear n0_ n1_ n2_ n3_
   obtain ⟨Ao25, co25, eo25⟩ := Kd.yC HO_6.out
   (first | subst eo25 | (injection eo25 with f1_ f2_ f3_; have f4_ := f1_.symm; have f5_ := f3_.symm; clear f1_ f2_ f3_; subst f4_; subst f5_))
   have p149 : 0 ≤ (x26_2 : Int) := qq
   have q149 : x26_2 < (t146.length : Int) := qq
   obtain ⟨ad149, A149_0, c149_0, e149, hx149_0, hl149_0, hi149_0⟩ := at_L1 (Kd.xH HO_6.out).2.2 x26_2 p149 q149
   cases e149
   obtain ⟨ce149, hce149, hMe149, hcc149⟩ := Kd.S_get HO_6.out [] x26_2 p149 (by first | exact q149 | exact qq | (have e_ := (Kd.xH HO_6.out).1; omega))
   obtain ⟨ve149_0, rfl, ge149_0⟩ := hMe149
   have hv149_0 := hcc149 0 _ rfl
   rw [Nat.add_zero, show ((Kd.slice 3 (Kd.int .i64))).sz = 1 from rfl, Nat.mul_one] at hv149_0
   replace hv149_0 := qx (hv149_0.symm.trans hx149_0)
   rw [hv149_0] at ge149_0
   have HL149_0 := xA.mk (show Kd.R (Kd.int .i64) 3 _ _ _ _ (rd_L1 t146 x26_2) from ge149_0)
   clear hv149_0 ge149_0
   clear hcc149 hce149
   have HR149_0 := xA.mk hi149_0
   have HC149_0 := xA.mk hl149_0
   clear hi149_0 hl149_0
   replace p149 := eq_true p149
   replace q149 := eq_true q149
   have p150 : 0 ≤ (x26_2 : Int) := qq
   have q150 : x26_2 < ((rd_L1 t146 x26_2).length : Int) := qq
   obtain ⟨ad150, e150, hx150_0⟩ := Kd.xU (by repeat (first | (with_reducible exact HR149_0.out) | exact HR149_0.out)) x26_2 p150 q150
   cases e150
   replace p150 := eq_true p150
   replace q150 := eq_true q150
   refine start_ (n := 9) (S := fun w' => w'.cell? (ad149.add (x26_2).toNat) = some (.slice (some ad150) (rd_L1 t146 x26_2).length c149_0) ∧ w'.cell? (ad150.add (x26_2).toNat) = some (.int .i64 (rd (rd_L1 t146 x26_2) x26_2))) (ds := []) (jl 9 0) jk rfl rfl ⟨hx149_0, hx150_0⟩ (fun hHeld => ?_); refine with_tabW lgpace.tab10 lgpace.bits10 (fun HT_ HW_ => ?_)
   generalize wr.drew = w24 at HO_6 BK141 BK142 HB HL149_0 HR149_0 hx149_0 hx150_0 hHeld ⊢
   refine pure_ (i := 0) (N := some 29) (v := ?_) (a' := ?_) (jl 9 1) rfl rfl (xL HT_.out jk) (fun _ _ _ h => h) (Or.inl ⟨by rfl, ?_⟩) ?_ ?_
   rotate_left
   ·
    intro w'
    go_simp
    with_reducible rfl
   rotate_left
   ·
    simp only [Act.put, qy, qz, ja, i64_w, i32_w]
    rfl
   refine pure_ (i := 1) (N := some 30) (v := ?_) (a' := ?_) (jl 9 3) rfl rfl (xL HT_.out jk) (fun _ _ _ h => h) (Or.inl ⟨by rfl, ?_⟩) ?_ ?_
   rotate_left
   ·
    intro w'
    go_simp
    with_reducible rfl
   rotate_left
   ·
    simp only [Act.put, qy, qz, ja, i64_w, i32_w]
    rfl
   refine pure_ (i := 2) (N := some 31) (v := ?_) (a' := ?_) (jl 9 7) rfl rfl (xL HT_.out jk) (fun _ _ _ h => h) (Or.inl ⟨by rfl, ?_⟩) ?_ ?_
   rotate_left
   ·
    intro w'
    go_simp
    with_reducible rfl
   rotate_left
   ·
    simp only [Act.put, qy, qz, ja, i64_w, i32_w]
    rfl
   refine pure_ (i := 4) (N := some 33) (v := ?_) (a' := ?_) (jl 9 23) rfl rfl (xL HT_.out jk) (fun _ _ _ h => h) (Or.inl ⟨by rfl, ?_⟩) ?_ ?_
   rotate_left
   ·
    intro w'
    go_simp
    with_reducible rfl
   rotate_left
   ·
    simp only [Act.put, qy, qz, ja, i64_w, i32_w]
    rfl
   refine take_ (i := 3) (N := some 32) (v := ?_) (a' := ?_) (jl 9 31) rfl rfl (take_ofW HT_.out HW_.out jk) (fun _ _ _ h => h) (Or.inl ⟨by rfl, ?_⟩) hHeld ?_ ?_
   rotate_left
   ·
    rintro w' ⟨s0, s1⟩
    go_simp
    with_reducible rfl
   rotate_left
   ·
    simp only [Act.put, qy, qz, ja, i64_w, i32_w]
    rfl
   refine pure_ (i := 5) (N := some 34) (v := ?_) (a' := ?_) (jl 9 63) rfl rfl (xL HT_.out jk) (fun _ _ _ h => h) (Or.inl ⟨by rfl, ?_⟩) ?_ ?_
   rotate_left
   ·
    intro w'
    go_simp
    with_reducible rfl
   rotate_left
   ·
    simp only [Act.put, qy, qz, ja, i64_w, i32_w]
    rfl
   refine take_ (i := 6) (N := some 35) (v := ?_) (a' := ?_) (jl 9 127) rfl rfl (take_ofW HT_.out HW_.out jk) (fun _ _ _ h => h) (Or.inl ⟨by rfl, ?_⟩) hHeld ?_ ?_
   rotate_left
   ·
    rintro w' ⟨s0, s1⟩
    go_simp
    with_reducible rfl
   rotate_left
   ·
    simp only [Act.put, qy, qz, ja, i64_w, i32_w]
    rfl
   refine one_ (i := 7) (N := some 36) (jl 9 255) rfl rfl (one_of HT_.out jk) (by decide) (fun K hK => ?_)
   refine goes_ Try.func83 jk rfl #[] (by rfl) rfl rfl qc ?_
   with_reducible refine (line_never_int.calls  t151 _ A16.out).mono ?_
   rintro e w' ⟨rfl, ⟨nd, rfl⟩⟩
   refine ⟨_, rfl, ?_⟩
   refine hK.out _ _ ⟨hHeld.1, hHeld.2⟩ (fun hHeld => ?_)
   clear hK K
   refine norm_ (a' := ?_) ?_ ?_
   rotate_left
   ·
    show Act.put _ (some 36) _ = _
    simp only [Act.put, qy, qz, ja, i64_w, i32_w]
    rfl
   refine pure_ (i := 8) (N := some 37) (v := ?_) (a' := ?_) (jl 9 511) rfl rfl (xL HT_.out jk) (fun _ _ _ h => h) (Or.inl ⟨by rfl, ?_⟩) ?_ ?_
   rotate_left
   ·
    intro w'
    go_simp
    with_reducible rfl
   rotate_left
   ·
    simp only [Act.put, qy, qz, ja, i64_w, i32_w]
    rfl
   refine done_ (done_of HT_.out jk) ?_
   have p152 : 0 ≤ (x26_2 : Int) := qr
   have q152 : x26_2 < (t146.length : Int) := qr
   obtain ⟨ad152, A152_0, c152_0, e152, hx152_0, hl152_0, hi152_0⟩ := at_L1 (Kd.xH HO_6.out).2.2 x26_2 p152 q152
   obtain rfl : ad149 = ad152 := (by injection e152)
   obtain ⟨ce152, hce152, hMe152, hcc152⟩ := Kd.S_get HO_6.out [] x26_2 p152 (by first | exact q152 | exact qr | (have e_ := (Kd.xH HO_6.out).1; omega))
   obtain ⟨ve152_0, rfl, ge152_0⟩ := hMe152
   have hv152_0 := hcc152 0 _ rfl
   rw [Nat.add_zero, show ((Kd.slice 3 (Kd.int .i64))).sz = 1 from rfl, Nat.mul_one] at hv152_0
   replace hv152_0 := qx (hv152_0.symm.trans hx152_0)
   rw [hv152_0] at ge152_0
   have HL152_0 := xA.mk (show Kd.R (Kd.int .i64) 3 _ _ _ _ (rd_L1 t146 x26_2) from ge152_0)
   clear hv152_0 ge152_0
   clear hcc152 hce152
   have HR152_0 := xA.mk hi152_0
   have HC152_0 := xA.mk hl152_0
   clear hi152_0 hl152_0
   replace p152 := eq_true p152
   replace q152 := eq_true q152
   have ea_ := qx (hx149_0.symm.trans hx152_0)
   injection ea_ with ea_ en_ ec_
   subst ea_
   subst ec_
   clear en_
   have p153 : 0 ≤ (x26_2 : Int) := qr
   have q153 : x26_2 < ((rd_L1 t146 x26_2).length : Int) := qr
   obtain ⟨ad153, e153, hx153_0⟩ := Kd.xU (by repeat (first | (with_reducible exact HR152_0.out) | (with_reducible refine Kd.C_alloc ?_ _) | (with_reducible refine Kd.C_drewN ?_ _) | (with_reducible refine Kd.C_drew ?_) | exact HR152_0.out)) x26_2 p153 q153
   cases e153
   replace p153 := eq_true p153
   replace q153 := eq_true q153
   have hnb26 := NB142_141.out
   have hnc26 := NB141_142.out
   have hcz27_0 : w24.cell? ⟨gb142, 0, none⟩ = some (.int .i64 x143000_2) := (xE BK142.out 0).trans rfl
   have hcz27_1 : w24.cell? ⟨gb142, 1, none⟩ = some (.int .i64 x143001_2) := (xE BK142.out 1).trans rfl
   have hfz27_0 := xC BK142.out 0
   have hfz27_1 := xC BK142.out 1
   try go_wp2_with (first | ((with_reducible refine xG (f := 89) rfl ?_); refine xM (some 60) rfl rfl Try.func89 jk rfl #[.int .i64 (rd (rd_L1 t146 x26_2) x26_2), .int .i64 x7_1] rfl qc ?_; (with_reducible refine (line_gcd.calls k2 (rd (rd_L1 t146 x26_2) x26_2) x7_1 t154 _ A22.out).mono ?_); rintro e w28 ⟨rfl, hb⟩; refine ⟨_, rfl, ?_⟩; replace HO_6 := xA.mk (Kd.S_below (qh HO_6.out) hb); replace HL149_0 := xA.mk (Kd.R_below (qi HL149_0.out) hb); replace HL152_0 := xA.mk (Kd.R_below (qi HL152_0.out) hb); replace BK141 := xA.mk (xO (g := gb141) (o := .cells #[.int .i64 0, .int .i64 0] 37 (0, 0)) (qn BK141.out) hb); replace BK142 := xA.mk (xO (g := gb142) (o := .cells #[.int .i64 x143000_2, .int .i64 x143001_2] 37 (0, 0)) (qn BK142.out) hb); replace HR149_0 := xA.mk (Kd.xQ (by repeat (first | (with_reducible exact HR149_0.out) | (with_reducible refine Kd.C_alloc ?_ _) | (with_reducible refine Kd.C_drewN ?_ _) | (with_reducible refine Kd.C_drew ?_) | exact HR149_0.out)) hb); replace HR152_0 := xA.mk (Kd.xQ (by repeat (first | (with_reducible exact HR152_0.out) | (with_reducible refine Kd.C_alloc ?_ _) | (with_reducible refine Kd.C_drewN ?_ _) | (with_reducible refine Kd.C_drew ?_) | exact HR152_0.out)) hb); replace HB := xA.mk (xD (by repeat (first | (with_reducible first | exact HB.out | apply xY | apply xN | apply xS | refine xR ?_ GE141.out | refine xR ?_ GE142.out) | exact HB.out)) hb); (try clear hb); (try clear hb2); (try clear hk); (try clear hi)))
   have n0_ := xA.mk (Kd.S_drew HO_6.out)
   have n1_ := xA.mk (Kd.R_drew HL149_0.out)
   have n2_ := xA.mk (Kd.R_drew HL152_0.out)
   have n3_ := xA.mk (xI BK141.out)
   have n4_ := xA.mk (xI BK142.out)
   have n5_ := xA.mk (Kd.C_drew HR149_0.out)
   have n6_ := xA.mk (Kd.C_drew HR152_0.out)
   have n7_ := xA.mk (xS HB.out)
   clear HO_6
   clear HL149_0
   clear HL152_0
   clear BK141
   clear BK142
   clear HR149_0
   clear HR152_0
   clear HB
   have HO_6 := n0_
   have HL149_0 := n1_
   have HL152_0 := n2_
   have BK141 := n3_
   have BK142 := n4_
   have HR149_0 := n5_
   have HR152_0 := n6_
   have HB := n7_
   clear n0_ n1_ n2_ n3_ n4_ n5_ n6_ n7_
   refine start_ (n := 9) (S := fun w' => True) (ds := []) (jl 9 0) jk rfl rfl trivial (fun hHeld => ?_); refine with_tabW lgpace.tab14 lgpace.bits14 (fun HT_ HW_ => ?_)
   generalize w28.drew = w29 at HO_6 HL149_0 HL152_0 BK141 BK142 HR149_0 HR152_0 HB hHeld ⊢
   refine pure_ (i := 0) (N := some 61) (v := ?_) (a' := ?_) (jl 9 1) rfl rfl (xL HT_.out jk) (fun _ _ _ h => h) (Or.inl ⟨by rfl, ?_⟩) ?_ ?_
   rotate_left
   ·
    intro w'
    go_simp
    with_reducible rfl
   rotate_left
   ·
    simp only [Act.put, qy, qz, ja, i64_w, i32_w]
    rfl
   refine pure_ (i := 1) (N := some 62) (v := ?_) (a' := ?_) (jl 9 3) rfl rfl (xL HT_.out jk) (fun _ _ _ h => h) (Or.inl ⟨by rfl, ?_⟩) ?_ ?_
   rotate_left
   ·
    intro w'
    go_simp
    with_reducible rfl
   rotate_left
   ·
    simp only [Act.put, qy, qz, ja, i64_w, i32_w]
    rfl
   refine pure_ (i := 2) (N := some 63) (v := ?_) (a' := ?_) (jl 9 7) rfl rfl (xL HT_.out jk) (fun _ _ _ h => h) (Or.inl ⟨by rfl, ?_⟩) ?_ ?_
   rotate_left
   ·
    intro w'
    go_simp
    with_reducible rfl
   rotate_left
   ·
    simp only [Act.put, qy, qz, ja, i64_w, i32_w]
    rfl
   refine pure_ (i := 3) (N := some 64) (v := ?_) (a' := ?_) (jl 9 15) rfl rfl (xL HT_.out jk) (fun _ _ _ h => h) (Or.inl ⟨by rfl, ?_⟩) ?_ ?_
   rotate_left
   ·
    intro w'
    go_simp
    with_reducible rfl
   rotate_left
   ·
    simp only [Act.put, qy, qz, ja, i64_w, i32_w]
    rfl
   refine pure_ (i := 4) (N := some 65) (v := ?_) (a' := ?_) (jl 9 31) rfl rfl (xL HT_.out jk) (fun _ _ _ h => h) (Or.inl ⟨by rfl, ?_⟩) ?_ ?_
   rotate_left
   ·
    intro w'
    go_simp
    with_reducible rfl
   rotate_left
   ·
    simp only [Act.put, qy, qz, ja, i64_w, i32_w]
    rfl
   refine pure_ (i := 5) (N := some 66) (v := ?_) (a' := ?_) (jl 9 63) rfl rfl (xL HT_.out jk) (fun _ _ _ h => h) (Or.inl ⟨by rfl, ?_⟩) ?_ ?_
   rotate_left
   ·
    intro w'
    go_simp
    with_reducible rfl
   rotate_left
   ·
    simp only [Act.put, qy, qz, ja, i64_w, i32_w]
    rfl
   refine pure_ (i := 6) (N := some 67) (v := ?_) (a' := ?_) (jl 9 127) rfl rfl (xL HT_.out jk) (fun _ _ _ h => h) (Or.inl ⟨by rfl, ?_⟩) ?_ ?_
   rotate_left
   ·
    intro w'
    go_simp
    with_reducible rfl
   rotate_left
   ·
    simp only [Act.put, qy, qz, ja, i64_w, i32_w]
    rfl
   refine one_ (i := 7) (N := none) (jl 9 255) rfl rfl (one_of HT_.out jk) (by decide) (fun K hK => ?_)
   have hs30 : w29.cell? ⟨gb142, 0, none⟩ = some (.int .i64 x143000_2) := (xE BK142.out 0).trans rfl
   have hfs30 := xC BK142.out 0
   have hns30_0 := NB141_142.out
   have hms30_0 := NB142_141.out
   have hs31 : w29.cell? ⟨gb142, 1, none⟩ = some (.int .i64 x143001_2) := (xE BK142.out 1).trans rfl
   have hfs31 := xC BK142.out 1
   have hns31_0 := NB141_142.out
   have hms31_0 := NB142_141.out
   refine skip_ (w1 := ?_) (by rfl) rfl ?_ ?_
   rotate_left
   ·
    go_simp
    rfl
   refine hK.out _ _ trivial (fun hHeld => ?_)
   clear hK K
   refine pure_ (i := 8) (N := some 5) (v := ?_) (a' := ?_) (jl 9 511) rfl rfl (xL HT_.out jk) (fun _ _ _ h => h) (Or.inl ⟨by rfl, ?_⟩) ?_ ?_
   rotate_left
   ·
    intro w'
    go_simp
    with_reducible rfl
   rotate_left
   ·
    simp only [Act.put, qy, qz, ja, i64_w, i32_w]
    rfl
   refine done_ (done_of HT_.out jk) ?_
   try go_wp2
   go_roundg k2
   case measure => have := HK1.out; have := HK2.out; omega
   case rel => exact ⟨(true), (wrap64 (x26_2 + 1)), (wrap64 (Int.tdiv (rd (rd_L1 t146 x26_2) x26_2) t154)), (wrap64 (Int.tdiv x7_1 t154)), rfl, rfl, H', ⟨by have := HK1.out; have := HK2.out; omega⟩, ⟨by (with_reducible repeat (first | apply Kd.S_alloc | apply Kd.S_drewN | apply Kd.S_drew)); exact Kd.xT (Kd.S_far (p := ⟨gb142, 1, none⟩) (Kd.S_far (p := ⟨gb142, 0, none⟩) (Kd.S_types HO_6.out BK142.out (by decide)) (fun _ hk => hk.2) (.int .i64 (wrap64 (Int.tdiv (rd (rd_L1 t146 x26_2) x26_2) t154)))) (fun _ hk => hk.2) (.int .i64 (wrap64 (Int.tdiv x7_1 t154)))) (fun _ hk => trivial)⟩, ⟨by (with_reducible repeat (first | refine xK ?_ _ | refine xI ?_ | refine xJ ?_ _)); refine blk_far ?_ NB141_142.out _; (with_reducible repeat (first | refine xK ?_ _ | refine xI ?_ | refine xJ ?_ _)); refine blk_far ?_ NB141_142.out _; (with_reducible repeat (first | refine xK ?_ _ | refine xI ?_ | refine xJ ?_ _)); exact BK141.out⟩, ⟨by (with_reducible repeat (first | refine xK ?_ _ | refine xI ?_ | refine xJ ?_ _)); refine xV (cs := #[.int .i64 (wrap64 (Int.tdiv (rd (rd_L1 t146 x26_2) x26_2) t154)), .int .i64 x143001_2]) ?_ 1 _ rfl; (with_reducible repeat (first | refine xK ?_ _ | refine xI ?_ | refine xJ ?_ _)); refine xV (cs := #[.int .i64 x143000_2, .int .i64 x143001_2]) ?_ 0 _ rfl; (with_reducible repeat (first | refine xK ?_ _ | refine xI ?_ | refine xJ ?_ _)); exact BK142.out⟩, ⟨by repeat (first | (with_reducible first | exact HB.out | apply xY | apply xN | apply xS | refine xR ?_ GE141.out | refine xR ?_ GE142.out) | exact HB.out)⟩⟩
mutual
def lgclosed.l0 : Nat → List (List Int) → List (List Int) → Int → Int → Option ((List (List Int)))
 | 0, _, _, _, _ => none
 | k + 1, x0, x3, x13, x14 => if x14 < x13 then (lgclosed.l1 k x0 x3 x14 x13 x14 (x0.length : Int) 0) else (lgclosed.l2 k x0 x3 (x0.length : Int) 0)
def lgclosed.l1 : Nat → List (List Int) → List (List Int) → Int → Int → Int → Int → Int → Option ((List (List Int)))
 | 0, _, _, _, _, _, _, _ => none
 | k + 1, x0, x3, x4, x13, x14, x18, x19 => if x19 < x18 then (if 0 ≤ x4 then (if x4 < (x3.length : Int) then (if 0 ≤ x19 then (if x19 < ((rd_L1 x3 x4).length : Int) then (if x4 < (x0.length : Int) then (if x19 < ((rd_L1 x0 x4).length : Int) then (lgclosed.l1 k x0 (x3.set (x4 : Int).toNat ((rd_L1 x3 x4).set (x19 : Int).toNat (mx (rd (rd_L1 x3 x4) x19) (rd (rd_L1 x0 x4) x19)))) x4 x13 x14 x18 (wrap64 (x19 + 1))) else (none)) else (none)) else (none)) else (none)) else (none)) else (none)) else (lgclosed.l0 k x0 x3 x13 (wrap64 (x14 + 1)))
def lgclosed.l2 : Nat → List (List Int) → List (List Int) → Int → Int → Option ((List (List Int)))
 | 0, _, _, _, _ => none
 | k + 1, x0, x3, x46, x47 => if x47 < x46 then (lgclosed.l3 k x0 x3 x47 x46 x47 (x0.length : Int) 0) else (some x3)
def lgclosed.l3 : Nat → List (List Int) → List (List Int) → Int → Int → Int → Int → Int → Option ((List (List Int)))
 | 0, _, _, _, _, _, _, _ => none
 | k + 1, x0, x3, x6, x46, x47, x51, x52 => if x52 < x51 then (lgclosed.l4 k x0 x3 x6 x52 x46 x47 x51 x52 (x0.length : Int) 0) else (lgclosed.l2 k x0 x3 x46 (wrap64 (x47 + 1)))
def lgclosed.l4 : Nat → List (List Int) → List (List Int) → Int → Int → Int → Int → Int → Int → Int → Int → Option ((List (List Int)))
 | 0, _, _, _, _, _, _, _, _, _, _ => none
 | k + 1, x0, x3, x6, x7, x46, x47, x51, x52, x56, x57 => if x57 < x56 then (if 0 ≤ x7 then (if x7 < (x3.length : Int) then (if 0 ≤ x57 then (if x57 < ((rd_L1 x3 x7).length : Int) then (if 0 ≤ x6 then (if x6 < ((rd_L1 x3 x7).length : Int) then (if x6 < (x3.length : Int) then (if x57 < ((rd_L1 x3 x6).length : Int) then ((line_both_int.f (rd (rd_L1 x3 x7) x6) (rd (rd_L1 x3 x6) x57)).bind fun t174 => (lgclosed.l4 k x0 (x3.set (x7 : Int).toNat ((rd_L1 x3 x7).set (x57 : Int).toNat (mx (rd (rd_L1 x3 x7) x57) t174))) x6 x7 x46 x47 x51 x52 x56 (wrap64 (x57 + 1)))) else (none)) else (none)) else (none)) else (none)) else (none)) else (none)) else (none)) else (none)) else (lgclosed.l3 k x0 x3 x6 x46 x47 x51 (wrap64 (x52 + 1)))
end
def lgclosed.f (k : Nat) (l0 : List (List Int)) : Option ((List (List Int))) := (line_one_int.f k (l0.length : Int)).bind fun t156 => (lgclosed.l0 k l0 t156 (l0.length : Int) 0)
theorem lgclosed.mono_l : ∀ k, (∀ y0 y1 y2 y3, LeO (lgclosed.l0 k y0 y1 y2 y3) (lgclosed.l0 (k + 1) y0 y1 y2 y3)) ∧ (∀ y0 y1 y2 y3 y4 y5 y6, LeO (lgclosed.l1 k y0 y1 y2 y3 y4 y5 y6) (lgclosed.l1 (k + 1) y0 y1 y2 y3 y4 y5 y6)) ∧ (∀ y0 y1 y2 y3, LeO (lgclosed.l2 k y0 y1 y2 y3) (lgclosed.l2 (k + 1) y0 y1 y2 y3)) ∧ (∀ y0 y1 y2 y3 y4 y5 y6, LeO (lgclosed.l3 k y0 y1 y2 y3 y4 y5 y6) (lgclosed.l3 (k + 1) y0 y1 y2 y3 y4 y5 y6)) ∧ (∀ y0 y1 y2 y3 y4 y5 y6 y7 y8 y9, LeO (lgclosed.l4 k y0 y1 y2 y3 y4 y5 y6 y7 y8 y9) (lgclosed.l4 (k + 1) y0 y1 y2 y3 y4 y5 y6 y7 y8 y9))
 | 0 => ⟨fun _ _ _ _ r h => by simp [lgclosed.l0] at h, fun _ _ _ _ _ _ _ r h => by simp [lgclosed.l1] at h, fun _ _ _ _ r h => by simp [lgclosed.l2] at h, fun _ _ _ _ _ _ _ r h => by simp [lgclosed.l3] at h, fun _ _ _ _ _ _ _ _ _ _ r h => by simp [lgclosed.l4] at h⟩
 | k + 1 => by
  obtain ⟨ih0, ih1, ih2, ih3, ih4⟩ := lgclosed.mono_l k
  refine ⟨?_, ?_, ?_, ?_, ?_⟩
  ·
   intro y0 y1 y2 y3
   unfold lgclosed.l0
   repeat' first
   | (with_reducible exact LeO.refl _)
   | (with_reducible exact LeO.none _)
   | (with_reducible refine LeO.ite ?_ ?_)
   | (with_reducible refine LeO.bind ?_ (fun _ => ?_))
   | exact ih0 _ _ _ _
   | exact ih1 _ _ _ _ _ _ _
   | exact ih2 _ _ _ _
   | exact ih3 _ _ _ _ _ _ _
   | exact ih4 _ _ _ _ _ _ _ _ _ _
   | exact line_one_int.mono _ _
  ·
   intro y0 y1 y2 y3 y4 y5 y6
   unfold lgclosed.l1
   repeat' first
   | (with_reducible exact LeO.refl _)
   | (with_reducible exact LeO.none _)
   | (with_reducible refine LeO.ite ?_ ?_)
   | (with_reducible refine LeO.bind ?_ (fun _ => ?_))
   | exact ih0 _ _ _ _
   | exact ih1 _ _ _ _ _ _ _
   | exact ih2 _ _ _ _
   | exact ih3 _ _ _ _ _ _ _
   | exact ih4 _ _ _ _ _ _ _ _ _ _
   | exact line_one_int.mono _ _
  ·
   intro y0 y1 y2 y3
   unfold lgclosed.l2
   repeat' first
   | (with_reducible exact LeO.refl _)
   | (with_reducible exact LeO.none _)
   | (with_reducible refine LeO.ite ?_ ?_)
   | (with_reducible refine LeO.bind ?_ (fun _ => ?_))
   | exact ih0 _ _ _ _
   | exact ih1 _ _ _ _ _ _ _
   | exact ih2 _ _ _ _
   | exact ih3 _ _ _ _ _ _ _
   | exact ih4 _ _ _ _ _ _ _ _ _ _
   | exact line_one_int.mono _ _
  ·
   intro y0 y1 y2 y3 y4 y5 y6
   unfold lgclosed.l3
   repeat' first
   | (with_reducible exact LeO.refl _)
   | (with_reducible exact LeO.none _)
   | (with_reducible refine LeO.ite ?_ ?_)
   | (with_reducible refine LeO.bind ?_ (fun _ => ?_))
   | exact ih0 _ _ _ _
   | exact ih1 _ _ _ _ _ _ _
   | exact ih2 _ _ _ _
   | exact ih3 _ _ _ _ _ _ _
   | exact ih4 _ _ _ _ _ _ _ _ _ _
   | exact line_one_int.mono _ _
  ·
   intro y0 y1 y2 y3 y4 y5 y6 y7 y8 y9
   unfold lgclosed.l4
   repeat' first
   | (with_reducible exact LeO.refl _)
   | (with_reducible exact LeO.none _)
   | (with_reducible refine LeO.ite ?_ ?_)
   | (with_reducible refine LeO.bind ?_ (fun _ => ?_))
   | exact ih0 _ _ _ _
   | exact ih1 _ _ _ _ _ _ _
   | exact ih2 _ _ _ _
   | exact ih3 _ _ _ _ _ _ _
   | exact ih4 _ _ _ _ _ _ _ _ _ _
   | exact line_one_int.mono _ _
theorem lgclosed.mono : ∀ a0 k, LeO (lgclosed.f k a0) (lgclosed.f (k + 1) a0) := by
 intro a0 k
 obtain ⟨ih0, ih1, ih2, ih3, ih4⟩ := lgclosed.mono_l k
 unfold lgclosed.f
 repeat' first
   | (with_reducible exact LeO.refl _)
   | (with_reducible exact LeO.none _)
   | (with_reducible refine LeO.ite ?_ ?_)
   | (with_reducible refine LeO.bind ?_ (fun _ => ?_))
   | exact ih0 _ _ _ _
   | exact ih1 _ _ _ _ _ _ _
   | exact ih2 _ _ _ _
   | exact ih3 _ _ _ _ _ _ _
   | exact ih4 _ _ _ _ _ _ _ _ _ _
   | exact line_one_int.mono _ _
def lgclosed.T8 : Bool × List (List Nat × List Nat) := (true, [([], []), ([], []), ([0, 1], [0, 1]), ([2], [2]), ([], []), ([], []), ([], []), ([5, 6], [5, 6]), ([7], [7]), ([], []), ([8, 9], [8, 9]), ([10], [10]), ([], []), ([], []), ([12, 13], [12, 13]), ([14], [14]), ([], []), ([15, 16], [15, 16]), ([17], [17]), ([11, 18], [11, 18]), ([3, 4, 0, 1, 2, 3, 4, 5, 6, 7, 8, 9, 10, 11, 12, 13, 14, 15, 16, 17, 18, 19], [3, 4]), ([20, 19, 0, 1, 2, 3, 4, 5, 6, 7, 8, 9, 10, 11, 12, 13, 14, 15, 16, 17, 18, 19], [19, 20])])
def lgclosed.B8 : List Nat := [0, 0, 3, 7, 0, 0, 0, 96, 224, 0, 992, 2016, 0, 0, 12288, 28672, 0, 126976, 258048, 524256, 1048575, 2097151]
theorem lgclosed.tab8 : rtab .any (opsOf Try.f66 8) = lgclosed.T8 := by kernel_rfl
theorem lgclosed.bits8 : waitsOk lgclosed.T8.2 lgclosed.B8 = true := by kernel_rfl
def lgclosed.T20 : Bool × List (List Nat × List Nat) := (true, [([], []), ([], []), ([0, 1], [0, 1]), ([2], [2]), ([], []), ([], []), ([], []), ([5, 6], [5, 6]), ([7], [7]), ([], []), ([8, 9], [8, 9]), ([10], [10]), ([], []), ([], []), ([12, 13], [12, 13]), ([14], [14]), ([], []), ([15, 16], [15, 16]), ([17], [17]), ([], []), ([], []), ([19, 20], [19, 20]), ([21], [21]), ([], []), ([22, 23], [22, 23]), ([24], [24]), ([18, 25], [18, 25]), ([11, 26], [11, 26]), ([3, 4, 0, 1, 2, 3, 4, 5, 6, 7, 8, 9, 10, 11, 12, 13, 14, 15, 16, 17, 18, 19, 20, 21, 22, 23, 24, 25, 26, 27], [3, 4]), ([28, 27, 26, 0, 1, 2, 3, 4, 5, 6, 7, 8, 9, 10, 11, 12, 13, 14, 15, 16, 17, 18, 19, 20, 21, 22, 23, 24, 25, 26, 27], [27, 28])])
def lgclosed.B20 : List Nat := [0, 0, 3, 7, 0, 0, 0, 96, 224, 0, 992, 2016, 0, 0, 12288, 28672, 0, 126976, 258048, 0, 0, 1572864, 3670016, 0, 16252928, 33030144, 67104768, 134217696, 268435455, 536870911]
theorem lgclosed.tab20 : rtab .any (opsOf Try.f66 20) = lgclosed.T20 := by kernel_rfl
theorem lgclosed.bits20 : waitsOk lgclosed.T20.2 lgclosed.B20 = true := by kernel_rfl
theorem lgclosed.calls (k : Nat) (A0 : Option Addr) (c0 : Nat) (l0 : List (List Int)) (r : List (List Int)) (w : World) (hr0 : Kd.C (Kd.slice 3 (Kd.int .i64)) w A0 l0.length l0) (hc0 : l0.length ≤ c0) (h : lgclosed.f k l0 = some r) :
  Calls Try.prog 66 #[.slice A0 l0.length c0] w fun e w' => ∃ v0_ : Value, e = .returned (v0_) ∧ Kd.S (Kd.slice 3 (Kd.int .i64)) 26 w' w.heap.size (fun _ => True) v0_ r ∧ Below w.heap.size w w' := by
 have HR0 := xA.mk hr0
 have HC0 := xA.mk hc0
 clear hr0 hc0
 have HB := xA.mk (Below.refl w.heap.size w)
 have H : ((line_one_int.f k (l0.length : Int)).bind fun t156 => (lgclosed.l0 k l0 t156 (l0.length : Int) 0)) = some r := h
 clear h
 replace H := qw H
 obtain ⟨t156, A20, H⟩ := H
 replace H : (lgclosed.l0 k l0 t156 (l0.length : Int) 0) = some r := H
 have A2 := xA.mk A20
 clear A20
 have H' := xA.mk H
 clear H
 go_enter Try.func66, Try.ntmps66
 go_wp2_with (first | ((with_reducible refine xG (f := 87) rfl ?_); refine xM (some 11) rfl rfl Try.func87 jk rfl #[.int .i64 (l0.length : Int)] rfl qd ?_; (with_reducible refine (line_one_int.calls k (l0.length : Int) t156 _ A2.out).mono ?_); rintro e w3 ⟨v157, rfl, ho0, hb⟩; refine ⟨_, rfl, ?_⟩; have HO158 := xA.mk (Kd.S_lower ho0 (xB (HB.out))); replace HB := xA.mk (xD (HB.out) hb)))
 go_loopg [14] k (fun kq v14 w' => ∃ (x3_1 : List (List Int)) (x14_1 : Int), v14 = .int .i64 x14_1 ∧ xA (lgclosed.l0 kq l0 x3_1 (l0.length : Int) x14_1 = some r) ∧ xA (kq ≤ k) ∧ xA (Kd.S (Kd.slice 3 (Kd.int .i64)) 26 w' w.heap.size (fun _ => True) v157 x3_1) ∧ xA (Below w.heap.size w w'))
 case atStart => exact ⟨(t156), (0), rfl, H', ⟨Nat.le_refl _⟩, ⟨by exact HO158.out⟩, ⟨HB.out⟩⟩
 case round =>
  clear H'
  obtain ⟨x3_1, x14_1, rfl, HA, HK1, HO_3, HB⟩ := hrel
  obtain _ | k1 := gk
  · exact absurd HA.out (by simp [lgclosed.l0])
  have H := HA.out
  clear HA
  simp only [lgclosed.l0] at H
  obtain ⟨c4b0, H⟩ | ⟨c4b0, H⟩ := yA H
  ·
   have H' := xA.mk H
   clear H
   go_wp2
   go_loopg [19] k1 (fun kq v19 w' => ∃ (x3_2 : List (List Int)) (x19_2 : Int), v19 = .int .i64 x19_2 ∧ xA (lgclosed.l1 kq l0 x3_2 x14_1 (l0.length : Int) x14_1 (l0.length : Int) x19_2 = some r) ∧ xA (kq ≤ k1) ∧ xA (Kd.S (Kd.slice 3 (Kd.int .i64)) 26 w' w.heap.size (fun _ => True) v157 x3_2) ∧ xA (Below w.heap.size w w'))
   case atStart => exact ⟨(x3_1), (0), rfl, H', ⟨Nat.le_refl _⟩, ⟨by exact HO_3.out⟩, ⟨HB.out⟩⟩
   case round =>
    clear H'
    obtain ⟨x3_2, x19_2, rfl, HA, HK2, HO_3, HB⟩ := hrel
    obtain _ | k2 := gk
    · exact absurd HA.out (by simp [lgclosed.l1])
    have H := HA.out
    clear HA
    simp only [lgclosed.l1] at H
    obtain ⟨c5b0, H⟩ | ⟨c5b0, H⟩ := yA H
    rotate_left
    ·
     have H' := xA.mk H
     clear H
     go_wp2
     go_roundg k2
     case measure => have := HK1.out; have := HK2.out; omega
     case rel => exact ⟨(x3_2), (wrap64 (x14_1 + 1)), rfl, H', ⟨by have := HK1.out; have := HK2.out; omega⟩, ⟨by exact HO_3.out⟩, ⟨HB.out⟩⟩
    obtain ⟨c6b0, H⟩ := xF H
    obtain ⟨c7b0, H⟩ := xF H
    obtain ⟨c8b0, H⟩ := xF H
    obtain ⟨c9b0, H⟩ := xF H
    obtain ⟨c10b0, H⟩ := xF H
    obtain ⟨c11b0, H⟩ := xF H
    obtain ⟨ji12, hji12⟩ : ∃ j_ : Int, (mx (rd (rd_L1 x3_2 x14_1) x19_2) (rd (rd_L1 l0 x14_1) x19_2)) = j_ := ⟨_, rfl⟩
    replace H : (lgclosed.l1 k2 l0 (x3_2.set (x14_1 : Int).toNat ((rd_L1 x3_2 x14_1).set (x19_2 : Int).toNat (ji12))) x14_1 (l0.length : Int) x14_1 (l0.length : Int) (wrap64 (x19_2 + 1))) = some r := by first | (rw [hji12] at H; exact H) | (simp only [hji12] at H ⊢; exact H)
    have hji12_ : (if (rd (rd_L1 x3_2 x14_1) x19_2) < (rd (rd_L1 l0 x14_1) x19_2) then (rd (rd_L1 l0 x14_1) x19_2) else (rd (rd_L1 x3_2 x14_1) x19_2)) = ji12 := hji12
    obtain ⟨y164, hy164⟩ : ∃ y_ : List Int, y_ = ((rd_L1 x3_2 x14_1).set (x19_2 : Int).toNat (ji12)) := ⟨_, rfl⟩
    replace H : (lgclosed.l1 k2 l0 (x3_2.set (x14_1 : Int).toNat y164) x14_1 (l0.length : Int) x14_1 (l0.length : Int) (wrap64 (x19_2 + 1))) = some r := by rw [hy164]; exact H
    have Ny164 := xA.mk hy164
    clear hy164
    obtain ⟨y166, hy166⟩ : ∃ y_ : List (List Int), y_ = (x3_2.set (x14_1 : Int).toNat y164) := ⟨_, rfl⟩
    replace H : (lgclosed.l1 k2 l0 y166 x14_1 (l0.length : Int) x14_1 (l0.length : Int) (wrap64 (x19_2 + 1))) = some r := by rw [hy166]; exact H
    have Ny166 := xA.mk hy166
    clear hy166
    have H' := xA.mk H
    clear H
    try go_wp2
    have n0_ := xA.mk (Kd.S_drew HO_3.out)
    have n1_ := xA.mk (xS HB.out)
    clear HO_3
    clear HB
    have HO_3 := n0_
    have HB := n1_
    clear n0_ n1_
    obtain ⟨Ao15, co15, eo15⟩ := Kd.yC HO_3.out
    (first | subst eo15 | (injection eo15 with f1_ f2_ f3_; have f4_ := f1_.symm; have f5_ := f3_.symm; clear f1_ f2_ f3_; subst f4_; subst f5_))
    have p159 : 0 ≤ (x14_1 : Int) := qq
    have q159 : x14_1 < (x3_2.length : Int) := qq
    obtain ⟨ad159, A159_0, c159_0, e159, hx159_0, hl159_0, hi159_0⟩ := at_L1 (Kd.xH HO_3.out).2.2 x14_1 p159 q159
    cases e159
    obtain ⟨ce159, hce159, hMe159, hcc159⟩ := Kd.S_get HO_3.out [] x14_1 p159 (by first | exact q159 | exact qq | (have e_ := (Kd.xH HO_3.out).1; omega))
    obtain ⟨ve159_0, rfl, ge159_0⟩ := hMe159
    have hv159_0 := hcc159 0 _ rfl
    rw [Nat.add_zero, show ((Kd.slice 3 (Kd.int .i64))).sz = 1 from rfl, Nat.mul_one] at hv159_0
    replace hv159_0 := qx (hv159_0.symm.trans hx159_0)
    rw [hv159_0] at ge159_0
    have HL159_0 := xA.mk (show Kd.R (Kd.int .i64) 3 _ _ _ _ (rd_L1 x3_2 x14_1) from ge159_0)
    clear hv159_0 ge159_0
    have HX159_0 := xA.mk hx159_0
    clear hcc159 hce159
    have HR159_0 := xA.mk hi159_0
    have HC159_0 := xA.mk hl159_0
    clear hi159_0 hl159_0
    replace p159 := eq_true p159
    replace q159 := eq_true q159
    have p160 : 0 ≤ (x14_1 : Int) := qq
    have q160 : x14_1 < (x3_2.length : Int) := qq
    obtain ⟨ad160, A160_0, c160_0, e160, hx160_0, hl160_0, hi160_0⟩ := at_L1 (Kd.xH HO_3.out).2.2 x14_1 p160 q160
    obtain rfl : ad159 = ad160 := (by injection e160)
    obtain ⟨ce160, hce160, hMe160, hcc160⟩ := Kd.S_get HO_3.out [] x14_1 p160 (by first | exact q160 | exact qq | (have e_ := (Kd.xH HO_3.out).1; omega))
    obtain ⟨ve160_0, rfl, ge160_0⟩ := hMe160
    have hv160_0 := hcc160 0 _ rfl
    rw [Nat.add_zero, show ((Kd.slice 3 (Kd.int .i64))).sz = 1 from rfl, Nat.mul_one] at hv160_0
    replace hv160_0 := qx (hv160_0.symm.trans hx160_0)
    rw [hv160_0] at ge160_0
    have HL160_0 := xA.mk (show Kd.R (Kd.int .i64) 3 _ _ _ _ (rd_L1 x3_2 x14_1) from ge160_0)
    clear hv160_0 ge160_0
    have HX160_0 := xA.mk hx160_0
    clear hcc160 hce160
    have HR160_0 := xA.mk hi160_0
    have HC160_0 := xA.mk hl160_0
    clear hi160_0 hl160_0
    replace p160 := eq_true p160
    replace q160 := eq_true q160
    have ea_ := qx (hx159_0.symm.trans hx160_0)
    injection ea_ with ea_ en_ ec_
    subst ea_
    subst ec_
    clear en_
    have p161 : 0 ≤ (x19_2 : Int) := qq
    have q161 : x19_2 < ((rd_L1 x3_2 x14_1).length : Int) := qq
    obtain ⟨ad161, e161, hx161_0⟩ := Kd.xU (by repeat (first | (with_reducible exact HR160_0.out) | exact HR160_0.out)) x19_2 p161 q161
    cases e161
    replace p161 := eq_true p161
    replace q161 := eq_true q161
    have p162 : 0 ≤ (x14_1 : Int) := qq
    have q162 : x14_1 < (l0.length : Int) := qq
    obtain ⟨ad162, A162_0, c162_0, e162, hx162_0, hl162_0, hi162_0⟩ := at_L1 HR0.out x14_1 p162 q162
    have hw162_0 := hx162_0
    cases e162
    replace hx162_0 := (HB.out.cell (World.block_lt_of_cell? w _ hx162_0)).trans hx162_0
    have HR162_0 := xA.mk hi162_0
    have HC162_0 := xA.mk hl162_0
    clear hi162_0 hl162_0
    replace p162 := eq_true p162
    replace q162 := eq_true q162
    have p163 : 0 ≤ (x19_2 : Int) := qq
    have q163 : x19_2 < ((rd_L1 l0 x14_1).length : Int) := qq
    obtain ⟨ad163, e163, hx163_0⟩ := Kd.xU HR162_0.out x19_2 p163 q163
    have hw163_0 := hx163_0
    cases e163
    replace hx163_0 := (HB.out.cell (World.block_lt_of_cell? w _ hx163_0)).trans hx163_0
    replace p163 := eq_true p163
    replace q163 := eq_true q163
    have p13 : 0 ≤ (x19_2 : Int) := qq
    have q13 : (x19_2 : Int) < (((rd_L1 x3_2 x14_1).length : Int) : Int) := qq
    obtain ⟨go13, co13, eo13, gb13, gl13, cl13, HG13⟩ := Kd.R_form HL159_0.out jj
    (first | cases eo13 | (injection eo13 with ea_ en_ ec_; (first | subst ea_ | (injection ea_ with ea_; subst ea_)); subst ec_; clear en_))
    have GB13 := xA.mk gb13
    have GG13 := xA.mk HG13
    clear gb13 gl13 HG13
    (first | simp only [add_plain] at hx161_0 | skip)
    obtain ⟨hx13_0, hf13_0⟩ := Kd.R_celln 0 HL159_0.out (x19_2 : Int) p13 q13
    replace p13 := eq_true p13
    replace q13 := eq_true q13
    have hq16 : (x14_1 : Int) < (x3_2.length : Int) := (by have h_ : (x14_1 : Int) < ((x3_2.length : Int) : Int) := qq; first | exact h_ | (have e_ := (Kd.xH HO_3.out).1; omega) | simpa only [List.length_set, List.length_set] using h_)
    obtain ⟨oki16, ce16, hcl16, hM16, hcc16, hok16, hbk16⟩ := Kd.S_borrow HO_3.out [] (x14_1 : Int) (qq) hq16
    obtain ⟨ve16_0, rfl, ge16_0⟩ := hM16
    have hv16 := hcc16 0 _ rfl
    rw [Nat.add_zero, show ((Kd.slice 3 (Kd.int .i64))).sz = 1 from rfl, Nat.mul_one] at hv16
    replace hv16 := qx (hv16.symm.trans HX159_0.out)
    subst hv16
    clear hcc16 hcl16
    replace ge16_0 := (show Kd.R (Kd.int .i64) 3 _ _ _ _ (rd_L1 x3_2 x14_1) from ge16_0)
    have HP16 := Kd.R_putg ge16_0 (x19_2 : Int) ji12
    rw [← Ny164.out] at HP16
    have HS16 := hbk16 HP16.2 (fun k_ e_ => by injection e_ with e_; subst e_; exact ge16_0.1 _ rfl) (x' := y164) (Kd.M_row HP16.1)
    rw [← Ny166.out] at HS16
    have HQ16 := xA.mk HS16
    clear HP16 HS16 hbk16 hok16
    refine start_ (n := 22) (S := fun w' => w'.cell? (ad159.add (x14_1).toNat) = some (.slice (some ⟨go13, 0, none⟩) (rd_L1 x3_2 x14_1).length c159_0) ∧ w'.cell? (ad159.add (x14_1).toNat) = some (.slice (some ⟨go13, 0, none⟩) (rd_L1 x3_2 x14_1).length c159_0) ∧ w'.cell? ⟨go13, (x19_2).toNat, none⟩ = some (.int .i64 (rd (rd_L1 x3_2 x14_1) x19_2)) ∧ w'.cell? (ad162.add (x14_1).toNat) = some (.slice (some ad163) (rd_L1 l0 x14_1).length c162_0) ∧ w'.cell? (ad163.add (x19_2).toNat) = some (.int .i64 (rd (rd_L1 l0 x14_1) x19_2))) (ds := [21]) (jl 22 0) jk rfl rfl ⟨hx159_0, hx160_0, hx161_0, ((HB.out.cell (World.block_lt_of_cell? w _ hw162_0)).trans hw162_0), ((HB.out.cell (World.block_lt_of_cell? w _ hw163_0)).trans hw163_0)⟩ (fun hHeld => ?_); refine with_tabW lgclosed.tab8 lgclosed.bits8 (fun HT_ HW_ => ?_)
    generalize wr.drew = w14 at HO_3 HB GG13 HL159_0 HL160_0 HQ16 HR159_0 HR160_0 HR162_0 HX159_0 HX160_0 hf13_0 hx13_0 hx159_0 hx160_0 hx161_0 hx162_0 hx163_0 hHeld ⊢
    refine pure_ (i := 0) (N := some 22) (v := ?_) (a' := ?_) (jl 22 1) rfl rfl (xL HT_.out jk) (fun _ _ _ h => h) (Or.inl ⟨by rfl, ?_⟩) ?_ ?_
    rotate_left
    ·
     intro w'
     go_simp
     with_reducible rfl
    rotate_left
    ·
     simp only [Act.put, qy, qz, ja, i64_w, i32_w]
     rfl
    refine pure_ (i := 1) (N := some 23) (v := ?_) (a' := ?_) (jl 22 3) rfl rfl (xL HT_.out jk) (fun _ _ _ h => h) (Or.inl ⟨by rfl, ?_⟩) ?_ ?_
    rotate_left
    ·
     intro w'
     go_simp
     with_reducible rfl
    rotate_left
    ·
     simp only [Act.put, qy, qz, ja, i64_w, i32_w]
     rfl
    refine pure_ (i := 2) (N := some 24) (v := ?_) (a' := ?_) (jl 22 7) rfl rfl (xL HT_.out jk) (fun _ _ _ h => h) (Or.inl ⟨by rfl, ?_⟩) ?_ ?_
    rotate_left
    ·
     intro w'
     go_simp
     with_reducible rfl
    rotate_left
    ·
     simp only [Act.put, qy, qz, ja, i64_w, i32_w]
     rfl
    refine pure_ (i := 4) (N := some 26) (v := ?_) (a' := ?_) (jl 22 23) rfl rfl (xL HT_.out jk) (fun _ _ _ h => h) (Or.inl ⟨by rfl, ?_⟩) ?_ ?_
    rotate_left
    ·
     intro w'
     go_simp
     with_reducible rfl
    rotate_left
    ·
     simp only [Act.put, qy, qz, ja, i64_w, i32_w]
     rfl
    refine pure_ (i := 5) (N := some 27) (v := ?_) (a' := ?_) (jl 22 55) rfl rfl (xL HT_.out jk) (fun _ _ _ h => h) (Or.inl ⟨by rfl, ?_⟩) ?_ ?_
    rotate_left
    ·
     intro w'
     go_simp
     with_reducible rfl
    rotate_left
    ·
     simp only [Act.put, qy, qz, ja, i64_w, i32_w]
     rfl
    refine pure_ (i := 6) (N := some 28) (v := ?_) (a' := ?_) (jl 22 119) rfl rfl (xL HT_.out jk) (fun _ _ _ h => h) (Or.inl ⟨by rfl, ?_⟩) ?_ ?_
    rotate_left
    ·
     intro w'
     go_simp
     with_reducible rfl
    rotate_left
    ·
     simp only [Act.put, qy, qz, ja, i64_w, i32_w]
     rfl
    refine pure_ (i := 7) (N := some 29) (v := ?_) (a' := ?_) (jl 22 247) rfl rfl (xL HT_.out jk) (fun _ _ _ h => h) (Or.inl ⟨by rfl, ?_⟩) ?_ ?_
    rotate_left
    ·
     intro w'
     go_simp
     with_reducible rfl
    rotate_left
    ·
     simp only [Act.put, qy, qz, ja, i64_w, i32_w]
     rfl
    refine pure_ (i := 9) (N := some 31) (v := ?_) (a' := ?_) (jl 22 759) rfl rfl (xL HT_.out jk) (fun _ _ _ h => h) (Or.inl ⟨by rfl, ?_⟩) ?_ ?_
    rotate_left
    ·
     intro w'
     go_simp
     with_reducible rfl
    rotate_left
    ·
     simp only [Act.put, qy, qz, ja, i64_w, i32_w]
     rfl
    refine pure_ (i := 12) (N := some 34) (v := ?_) (a' := ?_) (jl 22 4855) rfl rfl (xL HT_.out jk) (fun _ _ _ h => h) (Or.inl ⟨by rfl, ?_⟩) ?_ ?_
    rotate_left
    ·
     intro w'
     go_simp
     with_reducible rfl
    rotate_left
    ·
     simp only [Act.put, qy, qz, ja, i64_w, i32_w]
     rfl
    refine pure_ (i := 13) (N := some 35) (v := ?_) (a' := ?_) (jl 22 13047) rfl rfl (xL HT_.out jk) (fun _ _ _ h => h) (Or.inl ⟨by rfl, ?_⟩) ?_ ?_
    rotate_left
    ·
     intro w'
     go_simp
     with_reducible rfl
    rotate_left
    ·
     simp only [Act.put, qy, qz, ja, i64_w, i32_w]
     rfl
    refine pure_ (i := 14) (N := some 36) (v := ?_) (a' := ?_) (jl 22 29431) rfl rfl (xL HT_.out jk) (fun _ _ _ h => h) (Or.inl ⟨by rfl, ?_⟩) ?_ ?_
    rotate_left
    ·
     intro w'
     go_simp
     with_reducible rfl
    rotate_left
    ·
     simp only [Act.put, qy, qz, ja, i64_w, i32_w]
     rfl
    refine pure_ (i := 16) (N := some 38) (v := ?_) (a' := ?_) (jl 22 94967) rfl rfl (xL HT_.out jk) (fun _ _ _ h => h) (Or.inl ⟨by rfl, ?_⟩) ?_ ?_
    rotate_left
    ·
     intro w'
     go_simp
     with_reducible rfl
    rotate_left
    ·
     simp only [Act.put, qy, qz, ja, i64_w, i32_w]
     rfl
    refine take_ (i := 3) (N := some 25) (v := ?_) (a' := ?_) (jl 22 94975) rfl rfl (take_ofW HT_.out HW_.out jk) (fun _ _ _ h => h) (Or.inl ⟨by rfl, ?_⟩) hHeld ?_ ?_
    rotate_left
    ·
     rintro w' ⟨s0, s1, s2, s3, s4⟩
     go_simp
     with_reducible rfl
    rotate_left
    ·
     simp only [Act.put, qy, qz, ja, i64_w, i32_w]
     rfl
    refine take_ (i := 8) (N := some 30) (v := ?_) (a' := ?_) (jl 22 95231) rfl rfl (take_ofW HT_.out HW_.out jk) (fun _ _ _ h => h) (Or.inl ⟨by rfl, ?_⟩) hHeld ?_ ?_
    rotate_left
    ·
     rintro w' ⟨s0, s1, s2, s3, s4⟩
     go_simp
     with_reducible rfl
    rotate_left
    ·
     simp only [Act.put, qy, qz, ja, i64_w, i32_w]
     rfl
    refine pure_ (i := 10) (N := some 32) (v := ?_) (a' := ?_) (jl 22 96255) rfl rfl (xL HT_.out jk) (fun _ _ _ h => h) (Or.inl ⟨by rfl, ?_⟩) ?_ ?_
    rotate_left
    ·
     intro w'
     go_simp
     with_reducible rfl
    rotate_left
    ·
     simp only [Act.put, qy, qz, ja, i64_w, i32_w]
     rfl
    refine take_ (i := 11) (N := some 33) (v := ?_) (a' := ?_) (jl 22 98303) rfl rfl (take_ofW HT_.out HW_.out jk) (fun _ _ _ h => h) (Or.inl ⟨by rfl, ?_⟩) hHeld ?_ ?_
    rotate_left
    ·
     rintro w' ⟨s0, s1, s2, s3, s4⟩
     go_simp
     with_reducible rfl
    rotate_left
    ·
     simp only [Act.put, qy, qz, ja, i64_w, i32_w]
     rfl
    refine take_ (i := 15) (N := some 37) (v := ?_) (a' := ?_) (jl 22 131071) rfl rfl (take_ofW HT_.out HW_.out jk) (fun _ _ _ h => h) (Or.inl ⟨by rfl, ?_⟩) hHeld ?_ ?_
    rotate_left
    ·
     rintro w' ⟨s0, s1, s2, s3, s4⟩
     go_simp
     with_reducible rfl
    rotate_left
    ·
     simp only [Act.put, qy, qz, ja, i64_w, i32_w]
     rfl
    refine pure_ (i := 17) (N := some 39) (v := ?_) (a' := ?_) (jl 22 262143) rfl rfl (xL HT_.out jk) (fun _ _ _ h => h) (Or.inl ⟨by rfl, ?_⟩) ?_ ?_
    rotate_left
    ·
     intro w'
     go_simp
     with_reducible rfl
    rotate_left
    ·
     simp only [Act.put, qy, qz, ja, i64_w, i32_w]
     rfl
    refine take_ (i := 18) (N := some 40) (v := ?_) (a' := ?_) (jl 22 524287) rfl rfl (take_ofW HT_.out HW_.out jk) (fun _ _ _ h => h) (Or.inl ⟨by rfl, ?_⟩) hHeld ?_ ?_
    rotate_left
    ·
     rintro w' ⟨s0, s1, s2, s3, s4⟩
     go_simp
     with_reducible rfl
    rotate_left
    ·
     simp only [Act.put, qy, qz, ja, i64_w, i32_w]
     rfl
    refine pure_ (i := 19) (N := some 41) (v := ?_) (a' := ?_) (jl 22 1048575) rfl rfl (xL HT_.out jk) (fun _ _ _ h => h) (Or.inl ⟨by rfl, ?_⟩) ?_ ?_
    rotate_left
    ·
     intro w'
     go_simp
     with_reducible rfl
    rotate_left
    ·
     simp only [Act.put, qy, qz, ja, i64_w, i32_w]
     rfl
    refine pure_ (i := 20) (N := some 42) (v := ?_) (a' := ?_) (jl 22 2097151) rfl rfl (xL HT_.out jk) (fun _ _ _ h => h) (Or.inl ⟨by rfl, ?_⟩) ?_ ?_
    rotate_left
    ·
     intro w'
     go_simp
     with_reducible rfl
    rotate_left
    ·
     simp only [Act.put, qy, qz, ja, i64_w, i32_w]
     rfl
    refine last_ (i := 21) (N := none) (jl 22 4194303) rfl rfl (one_of HT_.out jk) (by decide) (fun K hK => ?_)
    refine skip_ (w1 := ?_) (by rfl) rfl ?_ ?_
    rotate_left
    ·
     go_simp
     rfl
    refine hK.out _ _ ?_
    clear hK K
    refine done_ (done_of HT_.out jk) ?_
    try go_wp2
    go_roundg k2
    case measure => have := HK1.out; have := HK2.out; omega
    case rel => exact ⟨(y166), (wrap64 (x19_2 + 1)), rfl, H', ⟨by have := HK1.out; have := HK2.out; omega⟩, ⟨qh HQ16.out⟩, ⟨by repeat (first | exact HB.out | apply xY | apply xN | apply xS | refine xR ?_ GB13.out)⟩⟩
  have H' := xA.mk H
  clear H
  go_wp2
  go_loopg [47] k1 (fun kq v47 w' => ∃ (x3_2 : List (List Int)) (x47_2 : Int), v47 = .int .i64 x47_2 ∧ xA (lgclosed.l2 kq l0 x3_2 (l0.length : Int) x47_2 = some r) ∧ xA (kq ≤ k1) ∧ xA (Kd.S (Kd.slice 3 (Kd.int .i64)) 26 w' w.heap.size (fun _ => True) v157 x3_2) ∧ xA (Below w.heap.size w w'))
  case atStart => exact ⟨(x3_1), (0), rfl, H', ⟨Nat.le_refl _⟩, ⟨by exact HO_3.out⟩, ⟨HB.out⟩⟩
  case round =>
   clear H'
   obtain ⟨x3_2, x47_2, rfl, HA, HK2, HO_3, HB⟩ := hrel
   obtain _ | k2 := gk
   · exact absurd HA.out (by simp [lgclosed.l2])
   have H := HA.out
   clear HA
   simp only [lgclosed.l2] at H
   obtain ⟨c18b0, H⟩ | ⟨c18b0, H⟩ := yA H
   rotate_left
   ·
    obtain rfl := qx H
    go_wp2
    go_ret
    exact ⟨_, rfl, by exact HO_3.out, HB.out⟩
   have H' := xA.mk H
   clear H
   go_wp2
   go_loopg [52] k2 (fun kq v52 w' => ∃ (x3_3 : List (List Int)) (x52_3 : Int), v52 = .int .i64 x52_3 ∧ xA (lgclosed.l3 kq l0 x3_3 x47_2 (l0.length : Int) x47_2 (l0.length : Int) x52_3 = some r) ∧ xA (kq ≤ k2) ∧ xA (Kd.S (Kd.slice 3 (Kd.int .i64)) 26 w' w.heap.size (fun _ => True) v157 x3_3) ∧ xA (Below w.heap.size w w'))
   case atStart => exact ⟨(x3_2), (0), rfl, H', ⟨Nat.le_refl _⟩, ⟨by exact HO_3.out⟩, ⟨HB.out⟩⟩
   case round =>
    clear H'
    obtain ⟨x3_3, x52_3, rfl, HA, HK3, HO_3, HB⟩ := hrel
    obtain _ | k3 := gk
    · exact absurd HA.out (by simp [lgclosed.l3])
    have H := HA.out
    clear HA
    simp only [lgclosed.l3] at H
    obtain ⟨c19b0, H⟩ | ⟨c19b0, H⟩ := yA H
    rotate_left
    ·
     have H' := xA.mk H
     clear H
     go_wp2
     go_roundg k3
     case measure => have := HK1.out; have := HK2.out; have := HK3.out; omega
     case rel => exact ⟨(x3_3), (wrap64 (x47_2 + 1)), rfl, H', ⟨by have := HK1.out; have := HK2.out; have := HK3.out; omega⟩, ⟨by exact HO_3.out⟩, ⟨HB.out⟩⟩
    have H' := xA.mk H
    clear H
    go_wp2
    go_loopg [57] k3 (fun kq v57 w' => ∃ (x3_4 : List (List Int)) (x57_4 : Int), v57 = .int .i64 x57_4 ∧ xA (lgclosed.l4 kq l0 x3_4 x47_2 x52_3 (l0.length : Int) x47_2 (l0.length : Int) x52_3 (l0.length : Int) x57_4 = some r) ∧ xA (kq ≤ k3) ∧ xA (Kd.S (Kd.slice 3 (Kd.int .i64)) 26 w' w.heap.size (fun _ => True) v157 x3_4) ∧ xA (Below w.heap.size w w'))
    case atStart => exact ⟨(x3_3), (0), rfl, H', ⟨Nat.le_refl _⟩, ⟨by exact HO_3.out⟩, ⟨HB.out⟩⟩
    case round =>
     clear H'
     obtain ⟨x3_4, x57_4, rfl, HA, HK4, HO_3, HB⟩ := hrel
     obtain _ | k4 := gk
     · exact absurd HA.out (by simp [lgclosed.l4])
     have H := HA.out
     clear HA
     simp only [lgclosed.l4] at H
     obtain ⟨c20b0, H⟩ | ⟨c20b0, H⟩ := yA H
     rotate_left
     ·
      have H' := xA.mk H
      clear H
      go_wp2
      go_roundg k4
      case measure => have := HK1.out; have := HK2.out; have := HK3.out; have := HK4.out; omega
      case rel => exact ⟨(x3_4), (wrap64 (x52_3 + 1)), rfl, H', ⟨by have := HK1.out; have := HK2.out; have := HK3.out; have := HK4.out; omega⟩, ⟨by exact HO_3.out⟩, ⟨HB.out⟩⟩
     obtain ⟨c21b0, H⟩ := xF H
     obtain ⟨c22b0, H⟩ := xF H
     obtain ⟨c23b0, H⟩ := xF H
     obtain ⟨c24b0, H⟩ := xF H
     obtain ⟨c25b0, H⟩ := xF H
     obtain ⟨c26b0, H⟩ := xF H
     obtain ⟨c27b0, H⟩ := xF H
     obtain ⟨c28b0, H⟩ := xF H
     replace H := qw H
     obtain ⟨t174, A290, H⟩ := H
     replace H : (lgclosed.l4 k4 l0 (x3_4.set (x52_3 : Int).toNat ((rd_L1 x3_4 x52_3).set (x57_4 : Int).toNat (mx (rd (rd_L1 x3_4 x52_3) x57_4) t174))) x47_2 x52_3 (l0.length : Int) x47_2 (l0.length : Int) x52_3 (l0.length : Int) (wrap64 (x57_4 + 1))) = some r := H
     have A29 := xA.mk A290
     clear A290
     obtain ⟨ji30, hji30⟩ : ∃ j_ : Int, (mx (rd (rd_L1 x3_4 x52_3) x57_4) t174) = j_ := ⟨_, rfl⟩
     replace H : (lgclosed.l4 k4 l0 (x3_4.set (x52_3 : Int).toNat ((rd_L1 x3_4 x52_3).set (x57_4 : Int).toNat (ji30))) x47_2 x52_3 (l0.length : Int) x47_2 (l0.length : Int) x52_3 (l0.length : Int) (wrap64 (x57_4 + 1))) = some r := by first | (rw [hji30] at H; exact H) | (simp only [hji30] at H ⊢; exact H)
     (try rw [hji30] at A29)
     have hji30_ : (if (rd (rd_L1 x3_4 x52_3) x57_4) < t174 then t174 else (rd (rd_L1 x3_4 x52_3) x57_4)) = ji30 := hji30
     obtain ⟨y175, hy175⟩ : ∃ y_ : List Int, y_ = ((rd_L1 x3_4 x52_3).set (x57_4 : Int).toNat (ji30)) := ⟨_, rfl⟩
     replace H : (lgclosed.l4 k4 l0 (x3_4.set (x52_3 : Int).toNat y175) x47_2 x52_3 (l0.length : Int) x47_2 (l0.length : Int) x52_3 (l0.length : Int) (wrap64 (x57_4 + 1))) = some r := by rw [hy175]; exact H
     have Ny175 := xA.mk hy175
     clear hy175
     obtain ⟨y177, hy177⟩ : ∃ y_ : List (List Int), y_ = (x3_4.set (x52_3 : Int).toNat y175) := ⟨_, rfl⟩
     replace H : (lgclosed.l4 k4 l0 y177 x47_2 x52_3 (l0.length : Int) x47_2 (l0.length : Int) x52_3 (l0.length : Int) (wrap64 (x57_4 + 1))) = some r := by rw [hy177]; exact H
     have Ny177 := xA.mk hy177
     clear hy177
     have H' := xA.mk H
     clear H
     try go_wp2
     have n0_ := xA.mk (Kd.S_drew HO_3.out)
     have n1_ := xA.mk (xS HB.out)
     clear HO_3
     clear HB
     have HO_3 := n0_
     have HB := n1_
     clear n0_ n1_
     obtain ⟨Ao33, co33, eo33⟩ := Kd.yC HO_3.out
     (first | subst eo33 | (injection eo33 with f1_ f2_ f3_; have f4_ := f1_.symm; have f5_ := f3_.symm; clear f1_ f2_ f3_; subst f4_; subst f5_))
     have p167 : 0 ≤ (x52_3 : Int) := qq
     have q167 : x52_3 < (x3_4.length : Int) := qq
     obtain ⟨ad167, A167_0, c167_0, e167, hx167_0, hl167_0, hi167_0⟩ := at_L1 (Kd.xH HO_3.out).2.2 x52_3 p167 q167
     cases e167
     obtain ⟨ce167, hce167, hMe167, hcc167⟩ := Kd.S_get HO_3.out [] x52_3 p167 (by first | exact q167 | exact qq | (have e_ := (Kd.xH HO_3.out).1; omega))
     obtain ⟨ve167_0, rfl, ge167_0⟩ := hMe167
     have hv167_0 := hcc167 0 _ rfl
     rw [Nat.add_zero, show ((Kd.slice 3 (Kd.int .i64))).sz = 1 from rfl, Nat.mul_one] at hv167_0
     replace hv167_0 := qx (hv167_0.symm.trans hx167_0)
     rw [hv167_0] at ge167_0
     have HL167_0 := xA.mk (show Kd.R (Kd.int .i64) 3 _ _ _ _ (rd_L1 x3_4 x52_3) from ge167_0)
     clear hv167_0 ge167_0
     have HX167_0 := xA.mk hx167_0
     clear hcc167 hce167
     have HR167_0 := xA.mk hi167_0
     have HC167_0 := xA.mk hl167_0
     clear hi167_0 hl167_0
     replace p167 := eq_true p167
     replace q167 := eq_true q167
     have p168 : 0 ≤ (x52_3 : Int) := qq
     have q168 : x52_3 < (x3_4.length : Int) := qq
     obtain ⟨ad168, A168_0, c168_0, e168, hx168_0, hl168_0, hi168_0⟩ := at_L1 (Kd.xH HO_3.out).2.2 x52_3 p168 q168
     obtain rfl : ad167 = ad168 := (by injection e168)
     obtain ⟨ce168, hce168, hMe168, hcc168⟩ := Kd.S_get HO_3.out [] x52_3 p168 (by first | exact q168 | exact qq | (have e_ := (Kd.xH HO_3.out).1; omega))
     obtain ⟨ve168_0, rfl, ge168_0⟩ := hMe168
     have hv168_0 := hcc168 0 _ rfl
     rw [Nat.add_zero, show ((Kd.slice 3 (Kd.int .i64))).sz = 1 from rfl, Nat.mul_one] at hv168_0
     replace hv168_0 := qx (hv168_0.symm.trans hx168_0)
     rw [hv168_0] at ge168_0
     have HL168_0 := xA.mk (show Kd.R (Kd.int .i64) 3 _ _ _ _ (rd_L1 x3_4 x52_3) from ge168_0)
     clear hv168_0 ge168_0
     have HX168_0 := xA.mk hx168_0
     clear hcc168 hce168
     have HR168_0 := xA.mk hi168_0
     have HC168_0 := xA.mk hl168_0
     clear hi168_0 hl168_0
     replace p168 := eq_true p168
     replace q168 := eq_true q168
     have ea_ := qx (hx167_0.symm.trans hx168_0)
     injection ea_ with ea_ en_ ec_
     subst ea_
     subst ec_
     clear en_
     have p169 : 0 ≤ (x57_4 : Int) := qq
     have q169 : x57_4 < ((rd_L1 x3_4 x52_3).length : Int) := qq
     obtain ⟨ad169, e169, hx169_0⟩ := Kd.xU (by repeat (first | (with_reducible exact HR168_0.out) | exact HR168_0.out)) x57_4 p169 q169
     cases e169
     replace p169 := eq_true p169
     replace q169 := eq_true q169
     have p170 : 0 ≤ (x52_3 : Int) := qq
     have q170 : x52_3 < (x3_4.length : Int) := qq
     obtain ⟨ad170, A170_0, c170_0, e170, hx170_0, hl170_0, hi170_0⟩ := at_L1 (Kd.xH HO_3.out).2.2 x52_3 p170 q170
     obtain rfl : ad167 = ad170 := (by injection e170)
     obtain ⟨ce170, hce170, hMe170, hcc170⟩ := Kd.S_get HO_3.out [] x52_3 p170 (by first | exact q170 | exact qq | (have e_ := (Kd.xH HO_3.out).1; omega))
     obtain ⟨ve170_0, rfl, ge170_0⟩ := hMe170
     have hv170_0 := hcc170 0 _ rfl
     rw [Nat.add_zero, show ((Kd.slice 3 (Kd.int .i64))).sz = 1 from rfl, Nat.mul_one] at hv170_0
     replace hv170_0 := qx (hv170_0.symm.trans hx170_0)
     rw [hv170_0] at ge170_0
     have HL170_0 := xA.mk (show Kd.R (Kd.int .i64) 3 _ _ _ _ (rd_L1 x3_4 x52_3) from ge170_0)
     clear hv170_0 ge170_0
     have HX170_0 := xA.mk hx170_0
     clear hcc170 hce170
     have HR170_0 := xA.mk hi170_0
     have HC170_0 := xA.mk hl170_0
     clear hi170_0 hl170_0
     replace p170 := eq_true p170
     replace q170 := eq_true q170
     have ea_ := qx (hx167_0.symm.trans hx170_0)
     injection ea_ with ea_ en_ ec_
     subst ea_
     subst ec_
     clear en_
     have p171 : 0 ≤ (x47_2 : Int) := qq
     have q171 : x47_2 < ((rd_L1 x3_4 x52_3).length : Int) := qq
     obtain ⟨ad171, e171, hx171_0⟩ := Kd.xU (by repeat (first | (with_reducible exact HR170_0.out) | exact HR170_0.out)) x47_2 p171 q171
     cases e171
     replace p171 := eq_true p171
     replace q171 := eq_true q171
     have p172 : 0 ≤ (x47_2 : Int) := qq
     have q172 : x47_2 < (x3_4.length : Int) := qq
     obtain ⟨ad172, A172_0, c172_0, e172, hx172_0, hl172_0, hi172_0⟩ := at_L1 (Kd.xH HO_3.out).2.2 x47_2 p172 q172
     obtain rfl : ad167 = ad172 := (by injection e172)
     obtain ⟨ce172, hce172, hMe172, hcc172⟩ := Kd.S_get HO_3.out [] x47_2 p172 (by first | exact q172 | exact qq | (have e_ := (Kd.xH HO_3.out).1; omega))
     obtain ⟨ve172_0, rfl, ge172_0⟩ := hMe172
     have hv172_0 := hcc172 0 _ rfl
     rw [Nat.add_zero, show ((Kd.slice 3 (Kd.int .i64))).sz = 1 from rfl, Nat.mul_one] at hv172_0
     replace hv172_0 := qx (hv172_0.symm.trans hx172_0)
     rw [hv172_0] at ge172_0
     have HL172_0 := xA.mk (show Kd.R (Kd.int .i64) 3 _ _ _ _ (rd_L1 x3_4 x47_2) from ge172_0)
     clear hv172_0 ge172_0
     have HX172_0 := xA.mk hx172_0
     clear hcc172 hce172
     have HR172_0 := xA.mk hi172_0
     have HC172_0 := xA.mk hl172_0
     clear hi172_0 hl172_0
     replace p172 := eq_true p172
     replace q172 := eq_true q172
     have p173 : 0 ≤ (x57_4 : Int) := qq
     have q173 : x57_4 < ((rd_L1 x3_4 x47_2).length : Int) := qq
     obtain ⟨ad173, e173, hx173_0⟩ := Kd.xU (by repeat (first | (with_reducible exact HR172_0.out) | exact HR172_0.out)) x57_4 p173 q173
     cases e173
     replace p173 := eq_true p173
     replace q173 := eq_true q173
     refine start_ (n := 30) (S := fun w' => w'.cell? (ad167.add (x52_3).toNat) = some (.slice (some ad169) (rd_L1 x3_4 x52_3).length c167_0) ∧ w'.cell? (ad167.add (x52_3).toNat) = some (.slice (some ad169) (rd_L1 x3_4 x52_3).length c167_0) ∧ w'.cell? (ad169.add (x57_4).toNat) = some (.int .i64 (rd (rd_L1 x3_4 x52_3) x57_4)) ∧ w'.cell? (ad167.add (x52_3).toNat) = some (.slice (some ad169) (rd_L1 x3_4 x52_3).length c167_0) ∧ w'.cell? (ad169.add (x47_2).toNat) = some (.int .i64 (rd (rd_L1 x3_4 x52_3) x47_2)) ∧ w'.cell? (ad167.add (x47_2).toNat) = some (.slice (some ad173) (rd_L1 x3_4 x47_2).length c172_0) ∧ w'.cell? (ad173.add (x57_4).toNat) = some (.int .i64 (rd (rd_L1 x3_4 x47_2) x57_4))) (ds := [29]) (jl 30 0) jk rfl rfl ⟨hx167_0, hx168_0, hx169_0, hx170_0, hx171_0, hx172_0, hx173_0⟩ (fun hHeld => ?_); refine with_tabW lgclosed.tab20 lgclosed.bits20 (fun HT_ HW_ => ?_)
     generalize wr.drew = w32 at HO_3 HB HL167_0 HL168_0 HL170_0 HL172_0 HR167_0 HR168_0 HR170_0 HR172_0 HX167_0 HX168_0 HX170_0 HX172_0 hx167_0 hx168_0 hx169_0 hx170_0 hx171_0 hx172_0 hx173_0 hHeld ⊢
     refine pure_ (i := 0) (N := some 60) (v := ?_) (a' := ?_) (jl 30 1) rfl rfl (xL HT_.out jk) (fun _ _ _ h => h) (Or.inl ⟨by rfl, ?_⟩) ?_ ?_
     rotate_left
     ·
      intro w'
      go_simp
      with_reducible rfl
     rotate_left
     ·
      simp only [Act.put, qy, qz, ja, i64_w, i32_w]
      rfl
     refine pure_ (i := 1) (N := some 61) (v := ?_) (a' := ?_) (jl 30 3) rfl rfl (xL HT_.out jk) (fun _ _ _ h => h) (Or.inl ⟨by rfl, ?_⟩) ?_ ?_
     rotate_left
     ·
      intro w'
      go_simp
      with_reducible rfl
     rotate_left
     ·
      simp only [Act.put, qy, qz, ja, i64_w, i32_w]
      rfl
     refine pure_ (i := 2) (N := some 62) (v := ?_) (a' := ?_) (jl 30 7) rfl rfl (xL HT_.out jk) (fun _ _ _ h => h) (Or.inl ⟨by rfl, ?_⟩) ?_ ?_
     rotate_left
     ·
      intro w'
      go_simp
      with_reducible rfl
     rotate_left
     ·
      simp only [Act.put, qy, qz, ja, i64_w, i32_w]
      rfl
     refine pure_ (i := 4) (N := some 64) (v := ?_) (a' := ?_) (jl 30 23) rfl rfl (xL HT_.out jk) (fun _ _ _ h => h) (Or.inl ⟨by rfl, ?_⟩) ?_ ?_
     rotate_left
     ·
      intro w'
      go_simp
      with_reducible rfl
     rotate_left
     ·
      simp only [Act.put, qy, qz, ja, i64_w, i32_w]
      rfl
     refine pure_ (i := 5) (N := some 65) (v := ?_) (a' := ?_) (jl 30 55) rfl rfl (xL HT_.out jk) (fun _ _ _ h => h) (Or.inl ⟨by rfl, ?_⟩) ?_ ?_
     rotate_left
     ·
      intro w'
      go_simp
      with_reducible rfl
     rotate_left
     ·
      simp only [Act.put, qy, qz, ja, i64_w, i32_w]
      rfl
     refine pure_ (i := 6) (N := some 66) (v := ?_) (a' := ?_) (jl 30 119) rfl rfl (xL HT_.out jk) (fun _ _ _ h => h) (Or.inl ⟨by rfl, ?_⟩) ?_ ?_
     rotate_left
     ·
      intro w'
      go_simp
      with_reducible rfl
     rotate_left
     ·
      simp only [Act.put, qy, qz, ja, i64_w, i32_w]
      rfl
     refine pure_ (i := 7) (N := some 67) (v := ?_) (a' := ?_) (jl 30 247) rfl rfl (xL HT_.out jk) (fun _ _ _ h => h) (Or.inl ⟨by rfl, ?_⟩) ?_ ?_
     rotate_left
     ·
      intro w'
      go_simp
      with_reducible rfl
     rotate_left
     ·
      simp only [Act.put, qy, qz, ja, i64_w, i32_w]
      rfl
     refine pure_ (i := 9) (N := some 69) (v := ?_) (a' := ?_) (jl 30 759) rfl rfl (xL HT_.out jk) (fun _ _ _ h => h) (Or.inl ⟨by rfl, ?_⟩) ?_ ?_
     rotate_left
     ·
      intro w'
      go_simp
      with_reducible rfl
     rotate_left
     ·
      simp only [Act.put, qy, qz, ja, i64_w, i32_w]
      rfl
     refine pure_ (i := 12) (N := some 72) (v := ?_) (a' := ?_) (jl 30 4855) rfl rfl (xL HT_.out jk) (fun _ _ _ h => h) (Or.inl ⟨by rfl, ?_⟩) ?_ ?_
     rotate_left
     ·
      intro w'
      go_simp
      with_reducible rfl
     rotate_left
     ·
      simp only [Act.put, qy, qz, ja, i64_w, i32_w]
      rfl
     refine pure_ (i := 13) (N := some 73) (v := ?_) (a' := ?_) (jl 30 13047) rfl rfl (xL HT_.out jk) (fun _ _ _ h => h) (Or.inl ⟨by rfl, ?_⟩) ?_ ?_
     rotate_left
     ·
      intro w'
      go_simp
      with_reducible rfl
     rotate_left
     ·
      simp only [Act.put, qy, qz, ja, i64_w, i32_w]
      rfl
     refine pure_ (i := 14) (N := some 74) (v := ?_) (a' := ?_) (jl 30 29431) rfl rfl (xL HT_.out jk) (fun _ _ _ h => h) (Or.inl ⟨by rfl, ?_⟩) ?_ ?_
     rotate_left
     ·
      intro w'
      go_simp
      with_reducible rfl
     rotate_left
     ·
      simp only [Act.put, qy, qz, ja, i64_w, i32_w]
      rfl
     refine pure_ (i := 16) (N := some 76) (v := ?_) (a' := ?_) (jl 30 94967) rfl rfl (xL HT_.out jk) (fun _ _ _ h => h) (Or.inl ⟨by rfl, ?_⟩) ?_ ?_
     rotate_left
     ·
      intro w'
      go_simp
      with_reducible rfl
     rotate_left
     ·
      simp only [Act.put, qy, qz, ja, i64_w, i32_w]
      rfl
     refine pure_ (i := 19) (N := some 79) (v := ?_) (a' := ?_) (jl 30 619255) rfl rfl (xL HT_.out jk) (fun _ _ _ h => h) (Or.inl ⟨by rfl, ?_⟩) ?_ ?_
     rotate_left
     ·
      intro w'
      go_simp
      with_reducible rfl
     rotate_left
     ·
      simp only [Act.put, qy, qz, ja, i64_w, i32_w]
      rfl
     refine pure_ (i := 20) (N := some 80) (v := ?_) (a' := ?_) (jl 30 1667831) rfl rfl (xL HT_.out jk) (fun _ _ _ h => h) (Or.inl ⟨by rfl, ?_⟩) ?_ ?_
     rotate_left
     ·
      intro w'
      go_simp
      with_reducible rfl
     rotate_left
     ·
      simp only [Act.put, qy, qz, ja, i64_w, i32_w]
      rfl
     refine pure_ (i := 21) (N := some 81) (v := ?_) (a' := ?_) (jl 30 3764983) rfl rfl (xL HT_.out jk) (fun _ _ _ h => h) (Or.inl ⟨by rfl, ?_⟩) ?_ ?_
     rotate_left
     ·
      intro w'
      go_simp
      with_reducible rfl
     rotate_left
     ·
      simp only [Act.put, qy, qz, ja, i64_w, i32_w]
      rfl
     refine pure_ (i := 23) (N := some 83) (v := ?_) (a' := ?_) (jl 30 12153591) rfl rfl (xL HT_.out jk) (fun _ _ _ h => h) (Or.inl ⟨by rfl, ?_⟩) ?_ ?_
     rotate_left
     ·
      intro w'
      go_simp
      with_reducible rfl
     rotate_left
     ·
      simp only [Act.put, qy, qz, ja, i64_w, i32_w]
      rfl
     refine take_ (i := 3) (N := some 63) (v := ?_) (a' := ?_) (jl 30 12153599) rfl rfl (take_ofW HT_.out HW_.out jk) (fun _ _ _ h => h) (Or.inl ⟨by rfl, ?_⟩) hHeld ?_ ?_
     rotate_left
     ·
      rintro w' ⟨s0, s1, s2, s3, s4, s5, s6⟩
      go_simp
      with_reducible rfl
     rotate_left
     ·
      simp only [Act.put, qy, qz, ja, i64_w, i32_w]
      rfl
     refine take_ (i := 8) (N := some 68) (v := ?_) (a' := ?_) (jl 30 12153855) rfl rfl (take_ofW HT_.out HW_.out jk) (fun _ _ _ h => h) (Or.inl ⟨by rfl, ?_⟩) hHeld ?_ ?_
     rotate_left
     ·
      rintro w' ⟨s0, s1, s2, s3, s4, s5, s6⟩
      go_simp
      with_reducible rfl
     rotate_left
     ·
      simp only [Act.put, qy, qz, ja, i64_w, i32_w]
      rfl
     refine pure_ (i := 10) (N := some 70) (v := ?_) (a' := ?_) (jl 30 12154879) rfl rfl (xL HT_.out jk) (fun _ _ _ h => h) (Or.inl ⟨by rfl, ?_⟩) ?_ ?_
     rotate_left
     ·
      intro w'
      go_simp
      with_reducible rfl
     rotate_left
     ·
      simp only [Act.put, qy, qz, ja, i64_w, i32_w]
      rfl
     refine take_ (i := 11) (N := some 71) (v := ?_) (a' := ?_) (jl 30 12156927) rfl rfl (take_ofW HT_.out HW_.out jk) (fun _ _ _ h => h) (Or.inl ⟨by rfl, ?_⟩) hHeld ?_ ?_
     rotate_left
     ·
      rintro w' ⟨s0, s1, s2, s3, s4, s5, s6⟩
      go_simp
      with_reducible rfl
     rotate_left
     ·
      simp only [Act.put, qy, qz, ja, i64_w, i32_w]
      rfl
     refine take_ (i := 15) (N := some 75) (v := ?_) (a' := ?_) (jl 30 12189695) rfl rfl (take_ofW HT_.out HW_.out jk) (fun _ _ _ h => h) (Or.inl ⟨by rfl, ?_⟩) hHeld ?_ ?_
     rotate_left
     ·
      rintro w' ⟨s0, s1, s2, s3, s4, s5, s6⟩
      go_simp
      with_reducible rfl
     rotate_left
     ·
      simp only [Act.put, qy, qz, ja, i64_w, i32_w]
      rfl
     refine pure_ (i := 17) (N := some 77) (v := ?_) (a' := ?_) (jl 30 12320767) rfl rfl (xL HT_.out jk) (fun _ _ _ h => h) (Or.inl ⟨by rfl, ?_⟩) ?_ ?_
     rotate_left
     ·
      intro w'
      go_simp
      with_reducible rfl
     rotate_left
     ·
      simp only [Act.put, qy, qz, ja, i64_w, i32_w]
      rfl
     refine take_ (i := 18) (N := some 78) (v := ?_) (a' := ?_) (jl 30 12582911) rfl rfl (take_ofW HT_.out HW_.out jk) (fun _ _ _ h => h) (Or.inl ⟨by rfl, ?_⟩) hHeld ?_ ?_
     rotate_left
     ·
      rintro w' ⟨s0, s1, s2, s3, s4, s5, s6⟩
      go_simp
      with_reducible rfl
     rotate_left
     ·
      simp only [Act.put, qy, qz, ja, i64_w, i32_w]
      rfl
     refine take_ (i := 22) (N := some 82) (v := ?_) (a' := ?_) (jl 30 16777215) rfl rfl (take_ofW HT_.out HW_.out jk) (fun _ _ _ h => h) (Or.inl ⟨by rfl, ?_⟩) hHeld ?_ ?_
     rotate_left
     ·
      rintro w' ⟨s0, s1, s2, s3, s4, s5, s6⟩
      go_simp
      with_reducible rfl
     rotate_left
     ·
      simp only [Act.put, qy, qz, ja, i64_w, i32_w]
      rfl
     refine pure_ (i := 24) (N := some 84) (v := ?_) (a' := ?_) (jl 30 33554431) rfl rfl (xL HT_.out jk) (fun _ _ _ h => h) (Or.inl ⟨by rfl, ?_⟩) ?_ ?_
     rotate_left
     ·
      intro w'
      go_simp
      with_reducible rfl
     rotate_left
     ·
      simp only [Act.put, qy, qz, ja, i64_w, i32_w]
      rfl
     refine take_ (i := 25) (N := some 85) (v := ?_) (a' := ?_) (jl 30 67108863) rfl rfl (take_ofW HT_.out HW_.out jk) (fun _ _ _ h => h) (Or.inl ⟨by rfl, ?_⟩) hHeld ?_ ?_
     rotate_left
     ·
      rintro w' ⟨s0, s1, s2, s3, s4, s5, s6⟩
      go_simp
      with_reducible rfl
     rotate_left
     ·
      simp only [Act.put, qy, qz, ja, i64_w, i32_w]
      rfl
     refine one_ (i := 26) (N := some 86) (jl 30 134217727) rfl rfl (one_of HT_.out jk) (by decide) (fun K hK => ?_)
     refine goes_ Try.func91 jk rfl #[.int .i64 (rd (rd_L1 x3_4 x52_3) x47_2), .int .i64 (rd (rd_L1 x3_4 x47_2) x57_4)] (by rfl) rfl rfl qd ?_
     with_reducible refine (line_both_int.calls (rd (rd_L1 x3_4 x52_3) x47_2) (rd (rd_L1 x3_4 x47_2) x57_4) t174 _ A29.out).mono ?_
     rintro e w' ⟨rfl, ⟨nd, rfl⟩⟩
     refine ⟨_, rfl, ?_⟩
     have p31 : 0 ≤ (x57_4 : Int) := qq
     have q31 : (x57_4 : Int) < (((rd_L1 x3_4 x52_3).length : Int) : Int) := qq
     obtain ⟨go31, co31, eo31, gb31, gl31, cl31, HG31⟩ := Kd.R_form HL167_0.out jj
     (first | cases eo31 | (injection eo31 with ea_ en_ ec_; (first | subst ea_ | (injection ea_ with ea_; subst ea_)); subst ec_; clear en_))
     have GB31 := xA.mk gb31
     have GG31 := xA.mk HG31
     clear gb31 gl31 HG31
     (first | simp only [add_plain] at hx171_0 | skip)
     obtain ⟨hx31_0, hf31_0⟩ := Kd.R_celln 0 HL167_0.out (x57_4 : Int) p31 q31
     replace p31 := eq_true p31
     replace q31 := eq_true q31
     have hq34 : (x52_3 : Int) < (x3_4.length : Int) := (by have h_ : (x52_3 : Int) < ((x3_4.length : Int) : Int) := qq; first | exact h_ | (have e_ := (Kd.xH HO_3.out).1; omega) | simpa only [List.length_set, List.length_set] using h_)
     obtain ⟨oki34, ce34, hcl34, hM34, hcc34, hok34, hbk34⟩ := Kd.S_borrow HO_3.out [] (x52_3 : Int) (qq) hq34
     obtain ⟨ve34_0, rfl, ge34_0⟩ := hM34
     have hv34 := hcc34 0 _ rfl
     rw [Nat.add_zero, show ((Kd.slice 3 (Kd.int .i64))).sz = 1 from rfl, Nat.mul_one] at hv34
     replace hv34 := qx (hv34.symm.trans HX167_0.out)
     subst hv34
     clear hcc34 hcl34
     replace ge34_0 := (show Kd.R (Kd.int .i64) 3 _ _ _ _ (rd_L1 x3_4 x52_3) from ge34_0)
     have HP34 := Kd.R_putg ge34_0 (x57_4 : Int) ji30
     rw [← Ny175.out] at HP34
     have HS34 := hbk34 HP34.2 (fun k_ e_ => by injection e_ with e_; subst e_; exact ge34_0.1 _ rfl) (x' := y175) (Kd.M_row HP34.1)
     rw [← Ny177.out] at HS34
     have HQ34 := xA.mk HS34
     clear HP34 HS34 hbk34 hok34
     refine hK.out _ _ ⟨hHeld.1, hHeld.2.1, hHeld.2.2.1, hHeld.2.2.2.1, hHeld.2.2.2.2.1, hHeld.2.2.2.2.2.1, hHeld.2.2.2.2.2.2⟩ (fun hHeld => ?_)
     clear hK K
     refine norm_ (a' := ?_) ?_ ?_
     rotate_left
     ·
      show Act.put _ (some 86) _ = _
      simp only [Act.put, qy, qz, ja, i64_w, i32_w]
      rfl
     refine pure_ (i := 27) (N := some 87) (v := ?_) (a' := ?_) (jl 30 268435455) rfl rfl (xL HT_.out jk) (fun _ _ _ h => h) (Or.inl ⟨by rfl, ?_⟩) ?_ ?_
     rotate_left
     ·
      intro w'
      go_simp
      with_reducible rfl
     rotate_left
     ·
      simp only [Act.put, qy, qz, ja, i64_w, i32_w]
      rfl
     refine pure_ (i := 28) (N := some 88) (v := ?_) (a' := ?_) (jl 30 536870911) rfl rfl (xL HT_.out jk) (fun _ _ _ h => h) (Or.inl ⟨by rfl, ?_⟩) ?_ ?_
     rotate_left
     ·
      intro w'
      go_simp
      with_reducible rfl
     rotate_left
     ·
      simp only [Act.put, qy, qz, ja, i64_w, i32_w]
      rfl
     refine last_ (i := 29) (N := none) (jl 30 1073741823) rfl rfl (one_of HT_.out jk) (by decide) (fun K hK => ?_)
     refine skip_ (w1 := ?_) (by rfl) rfl ?_ ?_
     rotate_left
     ·
      go_simp
      rfl
     refine hK.out _ _ ?_
     clear hK K
     refine done_ (done_of HT_.out jk) ?_
     try go_wp2
     go_roundg k4
     case measure => have := HK1.out; have := HK2.out; have := HK3.out; have := HK4.out; omega
     case rel => exact ⟨(y177), (wrap64 (x57_4 + 1)), rfl, H', ⟨by have := HK1.out; have := HK2.out; have := HK3.out; have := HK4.out; omega⟩, ⟨qh HQ34.out⟩, ⟨by repeat (first | exact HB.out | apply xY | apply xN | apply xS | refine xR ?_ GB31.out)⟩⟩
def slices_Clone_int_int.f (l0 : List Int) : Option (List Int) := (some (([] : List Int) : List Int)).bind fun y178 => (if y178.length + l0.length < 17592186044416 then (some (y178 ++ l0)) else (none))
theorem slices_Clone_int_int.calls (A0 : Option Addr) (c0 : Nat) (l0 : List Int) (r : List Int) (w : World) (hr0 : Kd.C (Kd.int .i64) w A0 l0.length l0) (hc0 : l0.length ≤ c0) (h : slices_Clone_int_int.f l0 = some r) :
  Calls Try.prog 90 #[.slice A0 l0.length c0] w fun e w' => ∃ v0_ : Value, e = .returned (v0_) ∧ Kd.R (Kd.int .i64) 3 w' w.heap.size (fun _ => True) v0_ r ∧ Below w.heap.size w w' := by
 by_cases hA : A0.isNone = true
 ·
  have hl : l0 = [] := by
   rcases A0 with _ | a
   ·
    obtain ⟨_, _, h3⟩ := hr0
    cases l0 with
    | nil => rfl
    | cons x l => obtain ⟨ad, hn, _⟩ := h3 (by simp); cases hn
   ·
    cases hA
  subst hl
  obtain rfl : r = [] := by
   have h' : (some (([] : List Int) ++ []) : Option (List Int)) = some r := by rw [← h]; rfl
   exact (qx h').symm
  have he := fun W : World => Lib.run_eql_slice_nil (P := Try.prog) W 26 3 A0 0 c0 0 0 Try.underlying26
  rw [hA] at he
  go_enter Try.func90, Try.ntmps90
  go_wp2
  go_ret
  exact ⟨_, rfl, Kd.R_nil _ _ _ _ _, Below.refl _ _⟩
 have hA' : A0.isNone = false := Bool.eq_false_iff.mpr hA
 clear hA
 have he := fun W : World => Lib.run_eql_slice_nil (P := Try.prog) W 26 3 A0 l0.length c0 0 0 Try.underlying26
 rw [hA'] at he
 clear hA'
 have HR0 := xA.mk hr0
 have HC0 := xA.mk hc0
 clear hr0 hc0
 have HB := xA.mk (Below.refl w.heap.size w)
 have H : ((some (([] : List Int) : List Int)).bind fun y178 => (if y178.length + l0.length < 17592186044416 then (some (y178 ++ l0)) else (none))) = some r := h
 clear h
 obtain ⟨y178, hy178⟩ : ∃ y_ : List Int, y_ = (([] : List Int)) := ⟨_, rfl⟩
 replace H : (if y178.length + l0.length < 17592186044416 then (some (y178 ++ l0)) else (none)) = some r := by rw [hy178]; exact H
 have Ny178 := xA.mk hy178
 clear hy178
 obtain ⟨c2, H⟩ := yF H
 have LMc2 := xA.mk c2
 clear c2
 obtain ⟨y181, hy181⟩ : ∃ y_ : List Int, y_ = (y178 ++ l0) := ⟨_, rfl⟩
 replace H : (some y181) = some r := by rw [hy181]; exact H
 have Ny181 := xA.mk hy181
 clear hy181
 obtain rfl := qx H
 go_enter Try.func90, Try.ntmps90
 go_wp2_with (first | ((with_reducible refine xZ (N := 5) rfl ?_); refine Kd.R_lit (Kd.int .i64) _ 3 ?hg (N := 5) ?hd (xs := ([] : List Int)) (inner := []) (ok := fun _ => True) (okp := fun _ => True) ?hr ?hp (fun _ hk => hk) trivial (Below.refl _ _) (Nat.le_refl _) (by simp) ?_; (case hd => rfl); (case hg => rfl); (case hr => go_simp); (case hp => exact (Reps.none _ _)); intro v179 w3 ho4 hb hg_ hnew_; clear hg_ hnew_; (first | rw [← Ny178.out] at ho4 | (simp only [Int.reduceToNat] at ho4; rw [← Ny178.out] at ho4)); have HO180 := xA.mk (Kd.R_lower ho4 (xB (HB.out))); replace HB := xA.mk (xD (HB.out) hb); clear hb ho4) | ((with_reducible refine gate_builtin (b := .append) (xs := #[.tmp 5, .tmp 6]) rfl ?_); at_builtin; refine Kd.R_append_rows (Kd.int .i64) (w0 := w) w.heap.size rfl (.tmp 5) (.tmp 6) 26 3 (.int .i64 0) 8 rfl Try.underlying26 info3 rfl (by decide) jj v179 y178 l0 _ _ _ (fun _ => True) (fun _ => False) rfl rfl ?aO ?aR (fun _ _ h => h) (fun _ h => h.elim) ?aF ?aB ?aS ?aL ?_; (case aR => repeat (first | exact (Kd.xQ HR0.out HB.out))); (case aB => exact (HB.out)); (case aF => exact (fun _ _ => trivial)); (case aO => exact (by exact HO180.out)); (case aS => exact (xB (HB.out))); (case aL => have := LMc2.out; omega); intro v182 w5 ho hb hg hat; rw [← Ny181.out] at ho; have n0_ := xA.mk (hb); have n1_ := xA.mk (ho); clear HB; clear HO180; have HB := n0_; have HO183 := n1_; clear n0_ n1_; clear ho hb hg hat))
 go_ret
 exact ⟨_, rfl, by exact HO183.out, HB.out⟩
def lgreach_1.f (a0 : Int) : Option (Int) := some 0
theorem lgreach_1.calls (a0 : Int) (r : Int) (w : World) (h : lgreach_1.f a0 = some r) :
  Calls Try.prog 98 #[.int .i64 a0] w fun e w' => e = .returned (.int .i64 r) ∧ Drawn0 w w' := by
 have H : (some 0) = some r := h
 clear h
 obtain rfl := qx H
 go_enter Try.func98, Try.ntmps98
 go_wp2
 go_ret
 exact ⟨qf, qe⟩
end Go.Proofs.Ythjmfbmffchicaa.V
