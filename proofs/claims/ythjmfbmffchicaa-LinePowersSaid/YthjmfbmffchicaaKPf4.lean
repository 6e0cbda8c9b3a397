/- Walks of functions that the law LinePowers reaches: each theorem '.calls' says that the call comes to what its printed plain function says, under the conditions that stand in it. -/
import Derived.Test.YthjmfbmffchicaaKPf3
namespace Go.Proofs.Ythjmfbmffchicaa.V
open Go.RowKit Go.Proofs.YthjmfbmffchicaaW.PrintWords Go.Proofs.YthjmfbmffchicaaW.PrintLast Go.Proofs.YthjmfbmffchicaaW.PrintMore
attribute [local go_sem] max2_int min2_int max_two min_two max_three min_three max_four min_four
set_option linter.unusedVariables false
set_option linter.unusedSimpArgs false
mutual
def r5Run.j0 : Nat → List (List Int) → List Int → Int → Bool → Option (List Int × Int)
 | 0, _, _, _, _ => none
 | k + 1, x0, x1, x2, x32 => if x32 = true then (some (([] : List Int), 2)) else (r5Run.l0 k x0 x1 x2 0)
def r5Run.l0 : Nat → List (List Int) → List Int → Int → Int → Option (List Int × Int)
 | 0, _, _, _, _ => none
 | k + 1, x0, x1, x2, x8 => if x8 < (x1.length : Int) then (if 0 ≤ x8 then (if (rd x1 x8) = (-1152921504606846976) then (r5Run.l0 k x0 x1 x2 (wrap64 (x8 + 1))) else (if (rd x1 x8) < (-1125899906842624) then (some (([] : List Int), 2)) else (if (rd x1 x8) > 562949953421312 then (some (([] : List Int), 2)) else (r5Run.l0 k x0 x1 x2 (wrap64 (x8 + 1)))))) else (none)) else ((r5raised.f k x0 x2).bind fun t1032 => (r5Run.l1 k x1 t1032 ([] : List Int) 0))
def r5Run.l1 : Nat → List Int → List (List Int) → List Int → Int → Option (List Int × Int)
 | 0, _, _, _, _ => none
 | k + 1, x1, x9, x10, x11 => if x11 < (x1.length : Int) then (r5Run.l2 k x1 x9 x10 x11 (-1152921504606846976) 0) else (r5Run.l3 k x1 x10 0)
def r5Run.l2 : Nat → List Int → List (List Int) → List Int → Int → Int → Int → Option (List Int × Int)
 | 0, _, _, _, _, _, _ => none
 | k + 1, x1, x9, x10, x11, x12, x13 => if x13 < (x1.length : Int) then (if 0 ≤ x11 then (if x11 < (x9.length : Int) then (if 0 ≤ x13 then (if x13 < ((rd_L1 x9 x11).length : Int) then ((r5plus.f (rd (rd_L1 x9 x11) x13) (rd x1 x13)).bind fun t1038 => (r5Run.l2 k x1 x9 x10 x11 (mx x12 t1038) (wrap64 (x13 + 1)))) else (none)) else (none)) else (none)) else (none)) else (if x10.length < 17592186044416 then (r5Run.l1 k x1 x9 (x10 ++ [x12]) (wrap64 (x11 + 1))) else (none))
def r5Run.l3 : Nat → List Int → List Int → Int → Option (List Int × Int)
 | 0, _, _, _ => none
 | k + 1, x1, x10, x14 => if x14 < (x1.length : Int) then (if 0 ≤ x14 then (if x14 < (x10.length : Int) then (if (rd x10 x14) = (-1152921504606846976) then (r5Run.l3 k x1 x10 (wrap64 (x14 + 1))) else (if (rd x10 x14) < (-1125899906842624) then (some (([] : List Int), 4)) else (if (rd x10 x14) > 1125899906842624 then (some (([] : List Int), 4)) else (r5Run.l3 k x1 x10 (wrap64 (x14 + 1)))))) else (none)) else (none)) else (some (x10, 0))
end
def r5Run.f (k : Nat) (l0 : List (List Int)) (l1 : List Int) (a2 : Int) : Option (List Int × Int) := (r5Matrix.f k l0).bind fun t1028 => (if t1028 = true then (if a2 < 0 then (r5Run.j0 k l0 l1 a2 true) else (if a2 > 1048576 then (r5Run.j0 k l0 l1 a2 true) else (r5Run.j0 k l0 l1 a2 ((l1.length : Int) != (l0.length : Int))))) else (r5Run.j0 k l0 l1 a2 true))
theorem r5Run.mono_l : ∀ k, (∀ y0 y1 y2 y3, LeO (r5Run.j0 k y0 y1 y2 y3) (r5Run.j0 (k + 1) y0 y1 y2 y3)) ∧ (∀ y0 y1 y2 y3, LeO (r5Run.l0 k y0 y1 y2 y3) (r5Run.l0 (k + 1) y0 y1 y2 y3)) ∧ (∀ y0 y1 y2 y3, LeO (r5Run.l1 k y0 y1 y2 y3) (r5Run.l1 (k + 1) y0 y1 y2 y3)) ∧ (∀ y0 y1 y2 y3 y4 y5, LeO (r5Run.l2 k y0 y1 y2 y3 y4 y5) (r5Run.l2 (k + 1) y0 y1 y2 y3 y4 y5)) ∧ (∀ y0 y1 y2, LeO (r5Run.l3 k y0 y1 y2) (r5Run.l3 (k + 1) y0 y1 y2))
 | 0 => ⟨fun _ _ _ _ r h => by simp [r5Run.j0] at h, fun _ _ _ _ r h => by simp [r5Run.l0] at h, fun _ _ _ _ r h => by simp [r5Run.l1] at h, fun _ _ _ _ _ _ r h => by simp [r5Run.l2] at h, fun _ _ _ r h => by simp [r5Run.l3] at h⟩
 | k + 1 => by
  obtain ⟨ih0, ih1, ih2, ih3, ih4⟩ := r5Run.mono_l k
  refine ⟨?_, ?_, ?_, ?_, ?_⟩
  ·
   intro y0 y1 y2 y3
   unfold r5Run.j0
   repeat' first
   | (with_reducible exact LeO.refl _)
   | (with_reducible exact LeO.none _)
   | (with_reducible refine LeO.ite ?_ ?_)
   | (with_reducible refine LeO.bind ?_ (fun _ => ?_))
   | exact ih0 _ _ _ _
   | exact ih1 _ _ _ _
   | exact ih2 _ _ _ _
   | exact ih3 _ _ _ _ _ _
   | exact ih4 _ _ _
   | exact r5Matrix.mono _ _
   | exact r5raised.mono _ _ _
   | exact LeO.none _
   | refine LeO.ite ?_ ?_
   | refine LeO.bind ?_ (fun _ => ?_)
  ·
   intro y0 y1 y2 y3
   unfold r5Run.l0
   repeat' first
   | (with_reducible exact LeO.refl _)
   | (with_reducible exact LeO.none _)
   | (with_reducible refine LeO.ite ?_ ?_)
   | (with_reducible refine LeO.bind ?_ (fun _ => ?_))
   | exact ih0 _ _ _ _
   | exact ih1 _ _ _ _
   | exact ih2 _ _ _ _
   | exact ih3 _ _ _ _ _ _
   | exact ih4 _ _ _
   | exact r5Matrix.mono _ _
   | exact r5raised.mono _ _ _
   | exact LeO.none _
   | refine LeO.ite ?_ ?_
   | refine LeO.bind ?_ (fun _ => ?_)
  ·
   intro y0 y1 y2 y3
   unfold r5Run.l1
   repeat' first
   | (with_reducible exact LeO.refl _)
   | (with_reducible exact LeO.none _)
   | (with_reducible refine LeO.ite ?_ ?_)
   | (with_reducible refine LeO.bind ?_ (fun _ => ?_))
   | exact ih0 _ _ _ _
   | exact ih1 _ _ _ _
   | exact ih2 _ _ _ _
   | exact ih3 _ _ _ _ _ _
   | exact ih4 _ _ _
   | exact r5Matrix.mono _ _
   | exact r5raised.mono _ _ _
   | exact LeO.none _
   | refine LeO.ite ?_ ?_
   | refine LeO.bind ?_ (fun _ => ?_)
  ·
   intro y0 y1 y2 y3 y4 y5
   unfold r5Run.l2
   repeat' first
   | (with_reducible exact LeO.refl _)
   | (with_reducible exact LeO.none _)
   | (with_reducible refine LeO.ite ?_ ?_)
   | (with_reducible refine LeO.bind ?_ (fun _ => ?_))
   | exact ih0 _ _ _ _
   | exact ih1 _ _ _ _
   | exact ih2 _ _ _ _
   | exact ih3 _ _ _ _ _ _
   | exact ih4 _ _ _
   | exact r5Matrix.mono _ _
   | exact r5raised.mono _ _ _
   | exact LeO.none _
   | refine LeO.ite ?_ ?_
   | refine LeO.bind ?_ (fun _ => ?_)
  ·
   intro y0 y1 y2
   unfold r5Run.l3
   repeat' first
   | (with_reducible exact LeO.refl _)
   | (with_reducible exact LeO.none _)
   | (with_reducible refine LeO.ite ?_ ?_)
   | (with_reducible refine LeO.bind ?_ (fun _ => ?_))
   | exact ih0 _ _ _ _
   | exact ih1 _ _ _ _
   | exact ih2 _ _ _ _
   | exact ih3 _ _ _ _ _ _
   | exact ih4 _ _ _
   | exact r5Matrix.mono _ _
   | exact r5raised.mono _ _ _
   | exact LeO.none _
   | refine LeO.ite ?_ ?_
   | refine LeO.bind ?_ (fun _ => ?_)
theorem r5Run.mono : ∀ a0 a1 a2 k, LeO (r5Run.f k a0 a1 a2) (r5Run.f (k + 1) a0 a1 a2) := by
 intro a0 a1 a2 k
 obtain ⟨ih0, ih1, ih2, ih3, ih4⟩ := r5Run.mono_l k
 unfold r5Run.f
 repeat' first
   | (with_reducible exact LeO.refl _)
   | (with_reducible exact LeO.none _)
   | (with_reducible refine LeO.ite ?_ ?_)
   | (with_reducible refine LeO.bind ?_ (fun _ => ?_))
   | exact ih0 _ _ _ _
   | exact ih1 _ _ _ _
   | exact ih2 _ _ _ _
   | exact ih3 _ _ _ _ _ _
   | exact ih4 _ _ _
   | exact r5Matrix.mono _ _
   | exact r5raised.mono _ _ _
   | exact LeO.none _
   | refine LeO.ite ?_ ?_
   | refine LeO.bind ?_ (fun _ => ?_)
set_option maxHeartbeats 8000000 in
set_option maxRecDepth 100000 in
theorem r5Run.calls (k : Nat) (A0 : Option Addr) (c0 : Nat) (l0 : List (List Int)) (A1 : Option Addr) (c1 : Nat) (l1 : List Int) (a2 : Int) (r1 : List Int) (r2 : Int) (w : World) (hr0 : Kd.C (Kd.slice 3 (Kd.int .i64)) w A0 l0.length l0) (hc0 : l0.length ≤ c0) (hr1 : Kd.C (Kd.int .i64) w A1 l1.length l1) (hc1 : l1.length ≤ c1) (h : r5Run.f k l0 l1 a2 = some (r1, r2)) :
  Calls Try.prog 42 #[.slice A0 l0.length c0, .slice A1 l1.length c1, .int .i64 a2] w fun e w' => ∃ v0_ : Value, e = .returned (.tuple #[v0_, .int .i64 r2]) ∧ Kd.R (Kd.int .i64) 3 w' w.heap.size (fun _ => True) v0_ r1 ∧ Below w.heap.size w w' := by
 have HR0 := Aside0.mk hr0
 have HC0 := Aside0.mk hc0
 clear hr0 hc0
 have HR1 := Aside0.mk hr1
 have HC1 := Aside0.mk hc1
 clear hr1 hc1
 have HB := Aside0.mk (Below.refl w.heap.size w)
 have H : ((r5Matrix.f k l0).bind fun t1028 => (if t1028 = true then (if a2 < 0 then (r5Run.j0 k l0 l1 a2 true) else (if a2 > 1048576 then (r5Run.j0 k l0 l1 a2 true) else (r5Run.j0 k l0 l1 a2 ((l1.length : Int) != (l0.length : Int))))) else (r5Run.j0 k l0 l1 a2 true))) = some (r1, r2) := h
 clear h
 have HC4 := Aside0.mk H
 clear H
 go_enter Try.func42, Try.ntmps42
 go_upto_region 1 with (fail)
 go_cut [32] (fun v32 wc => ∃ (kq : Nat) (x32_3 : Bool), v32 = .bool x32_3 ∧ Aside0 (r5Run.j0 kq l0 l1 a2 x32_3 = some (r1, r2)) ∧ Aside0 (kq ≤ k) ∧ Aside0 (Below w.heap.size w wc))
 case first =>
  have H := HC4.out
  clear HC4
  replace H := Option.bind_eq_some_iff.mp H
  obtain ⟨t1028, A50, H⟩ := H
  replace H : (if t1028 = true then (if a2 < 0 then (r5Run.j0 k l0 l1 a2 true) else (if a2 > 1048576 then (r5Run.j0 k l0 l1 a2 true) else (r5Run.j0 k l0 l1 a2 ((l1.length : Int) != (l0.length : Int))))) else (r5Run.j0 k l0 l1 a2 true)) = some (r1, r2) := H
  have A5 := Aside0.mk A50
  clear A50
  by_cases c6 : t1028 = true
  ·
   subst c6
   have H1 : (if a2 < 0 then (r5Run.j0 k l0 l1 a2 true) else (if a2 > 1048576 then (r5Run.j0 k l0 l1 a2 true) else (r5Run.j0 k l0 l1 a2 ((l1.length : Int) != (l0.length : Int))))) = some (r1, r2) := by rw [if_pos rfl] at H; exact H
   clear H
   have H := H1
   clear H1
   by_cases c7 : a2 < 0
   ·
    rw [if_pos c7] at H
    have c7b0 : decide (a2 < 0) = true := decide_eq_true c7
    clear c7
    (first | rw [c7b0] | skip)
    have H' := Aside0.mk H
    clear H
    go_wp2_with (first | (go_at_call 49; (with_reducible refine (r5Matrix.calls k _ _ l0 true _ ?side1 ?side2 A5.out).mono ?_); (case side1 => repeat (first | exact (Kd.C_below HR0.out HB.out))); (case side2 => exact HC0.out); rintro e w' ⟨rfl, ⟨nd, rfl⟩⟩; (try first | exact ⟨rfl, _, World.drewN_drewN _ _ _⟩ | exact ⟨rfl, _, Eq.trans (World.drewN_drewN _ _ _) (congrArg (World.drewN _) (Nat.add_assoc _ _ _))⟩)))
    go_meet
    case rel => exact ⟨_, (true), rfl, H', ⟨by first | omega | exact Nat.le_refl _⟩, ⟨by repeat (first | exact HB.out | apply below_alloc | apply pw_below_drewN | apply below_drew1)⟩⟩
   ·
    rw [if_neg c7] at H
    have c7b0 : decide (a2 < 0) = false := decide_eq_false c7
    clear c7
    (first | rw [c7b0] | skip)
    by_cases c8 : a2 > 1048576
    ·
     rw [if_pos c8] at H
     have c8b0 : decide (1048576 < a2) = true := decide_eq_true c8
     clear c8
     have H' := Aside0.mk H
     clear H
     go_wp2_with (first | (go_at_call 49; (with_reducible refine (r5Matrix.calls k _ _ l0 true _ ?side1 ?side2 A5.out).mono ?_); (case side1 => repeat (first | exact (Kd.C_below HR0.out HB.out))); (case side2 => exact HC0.out); rintro e w' ⟨rfl, ⟨nd, rfl⟩⟩; (try first | exact ⟨rfl, _, World.drewN_drewN _ _ _⟩ | exact ⟨rfl, _, Eq.trans (World.drewN_drewN _ _ _) (congrArg (World.drewN _) (Nat.add_assoc _ _ _))⟩)))
     go_meet
     case rel => exact ⟨_, (true), rfl, H', ⟨by first | omega | exact Nat.le_refl _⟩, ⟨by repeat (first | exact HB.out | apply below_alloc | apply pw_below_drewN | apply below_drew1)⟩⟩
    ·
     rw [if_neg c8] at H
     have c8b0 : decide (1048576 < a2) = false := decide_eq_false c8
     clear c8
     have H' := Aside0.mk H
     clear H
     go_wp2_with (first | (go_at_call 49; (with_reducible refine (r5Matrix.calls k _ _ l0 true _ ?side1 ?side2 A5.out).mono ?_); (case side1 => repeat (first | exact (Kd.C_below HR0.out HB.out))); (case side2 => exact HC0.out); rintro e w' ⟨rfl, ⟨nd, rfl⟩⟩; (try first | exact ⟨rfl, _, World.drewN_drewN _ _ _⟩ | exact ⟨rfl, _, Eq.trans (World.drewN_drewN _ _ _) (congrArg (World.drewN _) (Nat.add_assoc _ _ _))⟩)))
     go_meet
     case rel => exact ⟨_, (((l1.length : Int) != (l0.length : Int))), rfl, H', ⟨by first | omega | exact Nat.le_refl _⟩, ⟨by repeat (first | exact HB.out | apply below_alloc | apply pw_below_drewN | apply below_drew1)⟩⟩
  ·
   replace c6 := Bool.eq_false_iff.mpr c6
   subst c6
   have H1 : (r5Run.j0 k l0 l1 a2 true) = some (r1, r2) := by rw [if_neg (show ¬ (false = true) by decide)] at H; exact H
   clear H
   have H := H1
   clear H1
   have H' := Aside0.mk H
   clear H
   go_wp2_with (first | (go_at_call 49; (with_reducible refine (r5Matrix.calls k _ _ l0 false _ ?side1 ?side2 A5.out).mono ?_); (case side1 => repeat (first | exact (Kd.C_below HR0.out HB.out))); (case side2 => exact HC0.out); rintro e w' ⟨rfl, ⟨nd, rfl⟩⟩; (try first | exact ⟨rfl, _, World.drewN_drewN _ _ _⟩ | exact ⟨rfl, _, Eq.trans (World.drewN_drewN _ _ _) (congrArg (World.drewN _) (Nat.add_assoc _ _ _))⟩)))
   go_meet
   case rel => exact ⟨_, (true), rfl, H', ⟨by first | omega | exact Nat.le_refl _⟩, ⟨by repeat (first | exact HB.out | apply below_alloc | apply pw_below_drewN | apply below_drew1)⟩⟩
 case rest =>
  clear HC4
  obtain ⟨kq, x32_3, rfl, HA, HJ3, HB⟩ := hcut
  cases kq with
  | zero => exact absurd HA.out (by simp [r5Run.j0])
  | succ kj3 =>
   have H := HA.out
   clear HA
   simp only [r5Run.j0] at H
   by_cases c9 : x32_3 = true
   ·
    subst c9
    have H1 : (some (([] : List Int), 2)) = some (r1, r2) := by rw [if_pos rfl] at H; exact H
    clear H
    have H := H1
    clear H1
    simp only [Option.some.injEq, Prod.mk.injEq] at H
    obtain ⟨rfl, rfl⟩ := H
    go_wp2
    go_ret2
    exact ⟨_, rfl, by first | exact Kd.R_nil _ _ _ _ _ | exact Kd.N_nil _ _ _ _ _ | exact Kd.V_nil _ _ _ _ _ | exact Kd.Q_nil _ _ _ _ _ | exact Kd.S_nil _ _ _ _ _, HB.out⟩
   ·
    replace c9 := Bool.eq_false_iff.mpr c9
    subst c9
    have H1 : (r5Run.l0 kj3 l0 l1 a2 0) = some (r1, r2) := by rw [if_neg (show ¬ (false = true) by decide)] at H; exact H
    clear H
    have H := H1
    clear H1
    have H' := Aside0.mk H
    clear H
    go_wp2
    go_loopg [8] kj3 (fun kq v8 w' => ∃ (x8_2 : Int), v8 = .int .i64 x8_2 ∧ Aside0 (r5Run.l0 kq l0 l1 a2 x8_2 = some (r1, r2)) ∧ Aside0 (kq ≤ kj3) ∧ Aside0 (Below w.heap.size w w'))
    case atStart => exact ⟨(0), rfl, H', ⟨Nat.le_refl _⟩, ⟨HB.out⟩⟩
    case round =>
     clear H'
     try clear c6
     try clear c7
     try clear c7b0
     try clear c8
     try clear c8b0
     try clear c9
     try clear p2
     obtain ⟨x8_2, rfl, HA, HK2, HB⟩ := hrel
     cases gk with
     | zero => exact absurd HA.out (by simp [r5Run.l0])
     | succ k2 =>
      have H := HA.out
      clear HA
      simp only [r5Run.l0] at H
      by_cases c10 : x8_2 < (l1.length : Int)
      ·
       rw [if_pos c10] at H
       have c10b0 : decide (x8_2 < (l1.length : Int)) = true := decide_eq_true c10
       clear c10
       by_cases c11 : 0 ≤ x8_2
       ·
        rw [if_pos c11] at H
        have c11b0 : decide (0 ≤ x8_2) = true := decide_eq_true c11
        clear c11
        by_cases c12 : (rd l1 x8_2) = (-1152921504606846976)
        ·
         rw [if_pos c12] at H
         have c12b0 : ((rd l1 x8_2) == (-1152921504606846976)) = true := beq_iff_eq.mpr c12
         have c12b1 : ((rd l1 x8_2) != (-1152921504606846976)) = false := bne_eq_false_iff_eq.mpr c12
         clear c12
         have H' := Aside0.mk H
         clear H
         have p1029 : 0 ≤ (x8_2 : Int) := of_decide_eq_true (by first | (with_reducible assumption) | assumption)
         have q1029 : x8_2 < (l1.length : Int) := of_decide_eq_true (by first | (with_reducible assumption) | assumption)
         obtain ⟨ad1029, e1029, hx1029_0⟩ := Kd.at_int HR1.out x8_2 p1029 q1029
         cases e1029
         replace hx1029_0 := (HB.out.cell (World.block_lt_of_cell? w _ hx1029_0)).trans hx1029_0
         replace p1029 := eq_true p1029
         replace q1029 := eq_true q1029
         go_wp2
         go_roundg k2
         case measure => have := HJ3.out; have := HK2.out; omega
         case rel => exact ⟨(wrap64 (x8_2 + 1)), rfl, H', ⟨by have := HJ3.out; have := HK2.out; omega⟩, ⟨HB.out⟩⟩
        ·
         rw [if_neg c12] at H
         have c12b0 : ((rd l1 x8_2) == (-1152921504606846976)) = false := beq_eq_false_iff_ne.mpr c12
         by_cases c13 : (rd l1 x8_2) < (-1125899906842624)
         ·
          rw [if_pos c13] at H
          have c13b0 : decide ((rd l1 x8_2) < (-1125899906842624)) = true := decide_eq_true c13
          clear c13
          simp only [Option.some.injEq, Prod.mk.injEq] at H
          obtain ⟨rfl, rfl⟩ := H
          have p1029 : 0 ≤ (x8_2 : Int) := of_decide_eq_true (by assumption)
          have q1029 : x8_2 < (l1.length : Int) := of_decide_eq_true (by assumption)
          obtain ⟨ad1029, e1029, hx1029_0⟩ := Kd.at_int HR1.out x8_2 p1029 q1029
          cases e1029
          replace hx1029_0 := (HB.out.cell (World.block_lt_of_cell? w _ hx1029_0)).trans hx1029_0
          replace p1029 := eq_true p1029
          replace q1029 := eq_true q1029
          have p1030 : 0 ≤ (x8_2 : Int) := of_decide_eq_true (by assumption)
          have q1030 : x8_2 < (l1.length : Int) := of_decide_eq_true (by assumption)
          obtain ⟨ad1030, e1030, hx1030_0⟩ := Kd.at_int HR1.out x8_2 p1030 q1030
          obtain rfl : ad1029 = ad1030 := (by injection e1030)
          replace hx1030_0 := (HB.out.cell (World.block_lt_of_cell? w _ hx1030_0)).trans hx1030_0
          replace p1030 := eq_true p1030
          replace q1030 := eq_true q1030
          go_wp2
          go_ret2
          exact ⟨_, rfl, by first | exact Kd.R_nil _ _ _ _ _ | exact Kd.N_nil _ _ _ _ _ | exact Kd.V_nil _ _ _ _ _ | exact Kd.Q_nil _ _ _ _ _ | exact Kd.S_nil _ _ _ _ _, HB.out⟩
         ·
          rw [if_neg c13] at H
          have c13b0 : decide ((rd l1 x8_2) < (-1125899906842624)) = false := decide_eq_false c13
          clear c13
          by_cases c14 : (rd l1 x8_2) > 562949953421312
          ·
           rw [if_pos c14] at H
           have c14b0 : decide (562949953421312 < (rd l1 x8_2)) = true := decide_eq_true c14
           clear c14
           simp only [Option.some.injEq, Prod.mk.injEq] at H
           obtain ⟨rfl, rfl⟩ := H
           have p1029 : 0 ≤ (x8_2 : Int) := of_decide_eq_true (by assumption)
           have q1029 : x8_2 < (l1.length : Int) := of_decide_eq_true (by assumption)
           obtain ⟨ad1029, e1029, hx1029_0⟩ := Kd.at_int HR1.out x8_2 p1029 q1029
           cases e1029
           replace hx1029_0 := (HB.out.cell (World.block_lt_of_cell? w _ hx1029_0)).trans hx1029_0
           replace p1029 := eq_true p1029
           replace q1029 := eq_true q1029
           have p1030 : 0 ≤ (x8_2 : Int) := of_decide_eq_true (by assumption)
           have q1030 : x8_2 < (l1.length : Int) := of_decide_eq_true (by assumption)
           obtain ⟨ad1030, e1030, hx1030_0⟩ := Kd.at_int HR1.out x8_2 p1030 q1030
           obtain rfl : ad1029 = ad1030 := (by injection e1030)
           replace hx1030_0 := (HB.out.cell (World.block_lt_of_cell? w _ hx1030_0)).trans hx1030_0
           replace p1030 := eq_true p1030
           replace q1030 := eq_true q1030
           have p1031 : 0 ≤ (x8_2 : Int) := of_decide_eq_true (by assumption)
           have q1031 : x8_2 < (l1.length : Int) := of_decide_eq_true (by assumption)
           obtain ⟨ad1031, e1031, hx1031_0⟩ := Kd.at_int HR1.out x8_2 p1031 q1031
           obtain rfl : ad1029 = ad1031 := (by injection e1031)
           replace hx1031_0 := (HB.out.cell (World.block_lt_of_cell? w _ hx1031_0)).trans hx1031_0
           replace p1031 := eq_true p1031
           replace q1031 := eq_true q1031
           go_wp2
           go_ret2
           exact ⟨_, rfl, by first | exact Kd.R_nil _ _ _ _ _ | exact Kd.N_nil _ _ _ _ _ | exact Kd.V_nil _ _ _ _ _ | exact Kd.Q_nil _ _ _ _ _ | exact Kd.S_nil _ _ _ _ _, HB.out⟩
          ·
           rw [if_neg c14] at H
           have c14b0 : decide (562949953421312 < (rd l1 x8_2)) = false := decide_eq_false c14
           clear c14
           have H' := Aside0.mk H
           clear H
           have p1029 : 0 ≤ (x8_2 : Int) := of_decide_eq_true (by assumption)
           have q1029 : x8_2 < (l1.length : Int) := of_decide_eq_true (by assumption)
           obtain ⟨ad1029, e1029, hx1029_0⟩ := Kd.at_int HR1.out x8_2 p1029 q1029
           cases e1029
           replace hx1029_0 := (HB.out.cell (World.block_lt_of_cell? w _ hx1029_0)).trans hx1029_0
           replace p1029 := eq_true p1029
           replace q1029 := eq_true q1029
           have p1030 : 0 ≤ (x8_2 : Int) := of_decide_eq_true (by assumption)
           have q1030 : x8_2 < (l1.length : Int) := of_decide_eq_true (by assumption)
           obtain ⟨ad1030, e1030, hx1030_0⟩ := Kd.at_int HR1.out x8_2 p1030 q1030
           obtain rfl : ad1029 = ad1030 := (by injection e1030)
           replace hx1030_0 := (HB.out.cell (World.block_lt_of_cell? w _ hx1030_0)).trans hx1030_0
           replace p1030 := eq_true p1030
           replace q1030 := eq_true q1030
           have p1031 : 0 ≤ (x8_2 : Int) := of_decide_eq_true (by assumption)
           have q1031 : x8_2 < (l1.length : Int) := of_decide_eq_true (by assumption)
           obtain ⟨ad1031, e1031, hx1031_0⟩ := Kd.at_int HR1.out x8_2 p1031 q1031
           obtain rfl : ad1029 = ad1031 := (by injection e1031)
           replace hx1031_0 := (HB.out.cell (World.block_lt_of_cell? w _ hx1031_0)).trans hx1031_0
           replace p1031 := eq_true p1031
           replace q1031 := eq_true q1031
           go_wp2
           go_roundg k2
           case measure => have := HJ3.out; have := HK2.out; omega
           case rel => exact ⟨(wrap64 (x8_2 + 1)), rfl, H', ⟨by have := HJ3.out; have := HK2.out; omega⟩, ⟨HB.out⟩⟩
       ·
        rw [if_neg c11] at H
        exact absurd H (by simp)
      ·
       rw [if_neg c10] at H
       have c10b0 : decide (x8_2 < (l1.length : Int)) = false := decide_eq_false c10
       clear c10
       replace H := Option.bind_eq_some_iff.mp H
       obtain ⟨t1032, A150, H⟩ := H
       replace H : (r5Run.l1 k2 l1 t1032 ([] : List Int) 0) = some (r1, r2) := H
       have A15 := Aside0.mk A150
       clear A150
       have H' := Aside0.mk H
       clear H
       go_wp2_with (first | (go_at_call 76; (with_reducible refine (r5raised.calls k2 _ _ l0 a2 t1032 _ ?side1 ?side2 A15.out).mono ?_); (case side1 => repeat (first | exact (Kd.C_below HR0.out HB.out))); (case side2 => exact HC0.out); rintro e w16 ⟨v1033, rfl, ho0, hb⟩; have n0_ := Aside0.mk (Kd.S_lower ho0 (below_size (HB.out))); have n1_ := Aside0.mk (below_step (HB.out) hb); clear HB; have HO1034 := n0_; have HB := n1_; clear n0_ n1_))
       go_loopg [10, 11] k2 (fun kq v10 v11 w' => ∃ (x10_3 : List Int) (x11_3 : Int), v11 = .int .i64 x11_3 ∧ Aside0 (r5Run.l1 kq l1 t1032 x10_3 x11_3 = some (r1, r2)) ∧ Aside0 (kq ≤ k2) ∧ Aside0 (Kd.S (Kd.slice 3 (Kd.int .i64)) 26 w' w.heap.size (fun k_ => some k_ ≠ (v10 : Value).ownBlock) v1033 t1032) ∧ Aside0 (Kd.R (Kd.int .i64) 3 w' w.heap.size (fun _ => True) v10 x10_3) ∧ Aside0 (Below w.heap.size w w'))
       case atStart => exact ⟨(([] : List Int)), (0), rfl, H', ⟨Nat.le_refl _⟩, ⟨by exact Kd.S_mono HO1034.out (fun _ hk => (by simp [Value.ownBlock]))⟩, ⟨by first | exact Kd.R_nil _ _ _ _ _ | exact Kd.N_nil _ _ _ _ _ | exact Kd.V_nil _ _ _ _ _ | exact Kd.Q_nil _ _ _ _ _ | exact Kd.S_nil _ _ _ _ _⟩, ⟨HB.out⟩⟩
       case round =>
        clear H'
        obtain ⟨x10_3, x11_3, rfl, HA, HK3, HO_9, HO_10, HB⟩ := hrel
        cases gk with
        | zero => exact absurd HA.out (by simp [r5Run.l1])
        | succ k3 =>
         have H := HA.out
         clear HA
         simp only [r5Run.l1] at H
         by_cases c17 : x11_3 < (l1.length : Int)
         ·
          rw [if_pos c17] at H
          have c17b0 : decide (x11_3 < (l1.length : Int)) = true := decide_eq_true c17
          clear c17
          have H' := Aside0.mk H
          clear H
          go_wp2
          go_loopg [12, 13] k3 (fun kq v12 v13 w' => ∃ (x12_4 : Int) (x13_4 : Int), v12 = .int .i64 x12_4 ∧ v13 = .int .i64 x13_4 ∧ Aside0 (r5Run.l2 kq l1 t1032 x10_3 x11_3 x12_4 x13_4 = some (r1, r2)) ∧ Aside0 (kq ≤ k3) ∧ Aside0 (Kd.S (Kd.slice 3 (Kd.int .i64)) 26 w' w.heap.size (fun k_ => some k_ ≠ (u10 : Value).ownBlock) v1033 t1032) ∧ Aside0 (Kd.R (Kd.int .i64) 3 w' w.heap.size (fun _ => True) u10 x10_3) ∧ Aside0 (Below w.heap.size w w'))
          case atStart => exact ⟨((-1152921504606846976)), (0), rfl, rfl, H', ⟨Nat.le_refl _⟩, ⟨by exact HO_9.out⟩, ⟨by exact HO_10.out⟩, ⟨HB.out⟩⟩
          case round =>
           clear H'
           obtain ⟨x12_4, x13_4, rfl, rfl, HA, HK4, HO_9, HO_10, HB⟩ := hrel
           cases gk with
           | zero => exact absurd HA.out (by simp [r5Run.l2])
           | succ k4 =>
            have H := HA.out
            clear HA
            simp only [r5Run.l2] at H
            by_cases c18 : x13_4 < (l1.length : Int)
            ·
             rw [if_pos c18] at H
             have c18b0 : decide (x13_4 < (l1.length : Int)) = true := decide_eq_true c18
             clear c18
             by_cases c19 : 0 ≤ x11_3
             ·
              rw [if_pos c19] at H
              have c19b0 : decide (0 ≤ x11_3) = true := decide_eq_true c19
              clear c19
              by_cases c20 : x11_3 < (t1032.length : Int)
              ·
               rw [if_pos c20] at H
               have c20b0 : decide (x11_3 < (t1032.length : Int)) = true := decide_eq_true c20
               clear c20
               by_cases c21 : 0 ≤ x13_4
               ·
                rw [if_pos c21] at H
                have c21b0 : decide (0 ≤ x13_4) = true := decide_eq_true c21
                clear c21
                by_cases c22 : x13_4 < ((rd_L1 t1032 x11_3).length : Int)
                ·
                 rw [if_pos c22] at H
                 have c22b0 : decide (x13_4 < ((rd_L1 t1032 x11_3).length : Int)) = true := decide_eq_true c22
                 clear c22
                 replace H := Option.bind_eq_some_iff.mp H
                 obtain ⟨t1038, A230, H⟩ := H
                 replace H : (r5Run.l2 k4 l1 t1032 x10_3 x11_3 (mx x12_4 t1038) (wrap64 (x13_4 + 1))) = some (r1, r2) := H
                 have A23 := Aside0.mk A230
                 clear A230
                 obtain ⟨ji24, hji24⟩ : ∃ j_ : Int, (mx x12_4 t1038) = j_ := ⟨_, rfl⟩
                 replace H : (r5Run.l2 k4 l1 t1032 x10_3 x11_3 ji24 (wrap64 (x13_4 + 1))) = some (r1, r2) := by first | (rw [hji24] at H; exact H) | (simp only [hji24] at H ⊢; exact H)
                 (try rw [hji24] at A23)
                 have hji24_ : (if x12_4 < t1038 then t1038 else x12_4) = ji24 := hji24
                 have H' := Aside0.mk H
                 clear H
                 obtain ⟨Ao25, co25, eo25⟩ := Kd.S_slice HO_9.out
                 subst eo25
                 have p1035 : 0 ≤ (x11_3 : Int) := of_decide_eq_true (by assumption)
                 have q1035 : x11_3 < (t1032.length : Int) := of_decide_eq_true (by assumption)
                 obtain ⟨ad1035, A1035_0, c1035_0, e1035, hx1035_0, hl1035_0, hi1035_0⟩ := at_L1 (Kd.S_reads' HO_9.out).2.2 x11_3 p1035 q1035
                 cases e1035
                 obtain ⟨ce1035, hce1035, hMe1035, hcc1035⟩ := Kd.S_get HO_9.out [] x11_3 p1035 (by first | exact q1035 | exact of_decide_eq_true (by assumption) | (have e_ := (Kd.S_reads' HO_9.out).1; omega))
                 obtain ⟨ve1035_0, rfl, ge1035_0⟩ := hMe1035
                 have hv1035_0 := hcc1035 0 _ rfl
                 rw [Nat.add_zero, show ((Kd.slice 3 (Kd.int .i64))).sz = 1 from rfl, Nat.mul_one] at hv1035_0
                 replace hv1035_0 := Option.some.inj (hv1035_0.symm.trans hx1035_0)
                 rw [hv1035_0] at ge1035_0
                 have HL1035_0 := Aside0.mk (show Kd.R (Kd.int .i64) 3 _ _ _ _ (rd_L1 t1032 x11_3) from ge1035_0)
                 clear hv1035_0 ge1035_0
                 clear hcc1035 hce1035
                 have HR1035_0 := Aside0.mk hi1035_0
                 have HC1035_0 := Aside0.mk hl1035_0
                 clear hi1035_0 hl1035_0
                 replace p1035 := eq_true p1035
                 replace q1035 := eq_true q1035
                 have p1036 : 0 ≤ (x13_4 : Int) := of_decide_eq_true (by assumption)
                 have q1036 : x13_4 < ((rd_L1 t1032 x11_3).length : Int) := of_decide_eq_true (by assumption)
                 obtain ⟨ad1036, e1036, hx1036_0⟩ := Kd.at_int (by repeat (first | (with_reducible exact HR1035_0.out) | exact HR1035_0.out)) x13_4 p1036 q1036
                 cases e1036
                 replace p1036 := eq_true p1036
                 replace q1036 := eq_true q1036
                 have p1037 : 0 ≤ (x13_4 : Int) := of_decide_eq_true (by assumption)
                 have q1037 : x13_4 < (l1.length : Int) := of_decide_eq_true (by assumption)
                 obtain ⟨ad1037, e1037, hx1037_0⟩ := Kd.at_int HR1.out x13_4 p1037 q1037
                 cases e1037
                 replace hx1037_0 := (HB.out.cell (World.block_lt_of_cell? w _ hx1037_0)).trans hx1037_0
                 replace p1037 := eq_true p1037
                 replace q1037 := eq_true q1037
                 go_wp2_with (first | (go_at_call 77; (with_reducible refine (r5plus.calls (rd (rd_L1 t1032 x11_3) x13_4) (rd l1 x13_4) t1038 _ A23.out).mono ?_); rintro e w' ⟨rfl, ⟨nd, rfl⟩⟩; (try first | exact ⟨rfl, _, World.drewN_drewN _ _ _⟩ | exact ⟨rfl, _, Eq.trans (World.drewN_drewN _ _ _) (congrArg (World.drewN _) (Nat.add_assoc _ _ _))⟩)))
                 repeat (go_quiet (first | (go_at_call 77; (with_reducible refine (r5plus.calls (rd (rd_L1 t1032 x11_3) x13_4) (rd l1 x13_4) t1038 _ A23.out).mono ?_); rintro e w' ⟨rfl, ⟨nd, rfl⟩⟩; (try first | exact ⟨rfl, _, World.drewN_drewN _ _ _⟩ | exact ⟨rfl, _, Eq.trans (World.drewN_drewN _ _ _) (congrArg (World.drewN _) (Nat.add_assoc _ _ _))⟩))); try go_wp2_with (first | (go_at_call 77; (with_reducible refine (r5plus.calls (rd (rd_L1 t1032 x11_3) x13_4) (rd l1 x13_4) t1038 _ A23.out).mono ?_); rintro e w' ⟨rfl, ⟨nd, rfl⟩⟩; (try first | exact ⟨rfl, _, World.drewN_drewN _ _ _⟩ | exact ⟨rfl, _, Eq.trans (World.drewN_drewN _ _ _) (congrArg (World.drewN _) (Nat.add_assoc _ _ _))⟩))))
                 go_roundg k4
                 case measure => have := HJ3.out; have := HK2.out; have := HK3.out; have := HK4.out; omega
                 case rel => exact ⟨(ji24), (wrap64 (x13_4 + 1)), (by first | rfl | (simp; done) | (simp only [← hji24] <;> (first | rfl | simp)) | (simp [*]; done)), rfl, H', ⟨by have := HJ3.out; have := HK2.out; have := HK3.out; have := HK4.out; omega⟩, ⟨by exact HO_9.out⟩, ⟨by exact HO_10.out⟩, ⟨by repeat (first | exact HB.out | apply below_alloc | apply pw_below_drewN | apply below_drew1)⟩⟩
                ·
                 rw [if_neg c22] at H
                 exact absurd H (by simp)
               ·
                rw [if_neg c21] at H
                exact absurd H (by simp)
              ·
               rw [if_neg c20] at H
               exact absurd H (by simp)
             ·
              rw [if_neg c19] at H
              exact absurd H (by simp)
            ·
             rw [if_neg c18] at H
             have c18b0 : decide (x13_4 < (l1.length : Int)) = false := decide_eq_false c18
             clear c18
             by_cases c26 : x10_3.length < 17592186044416
             ·
              rw [if_pos c26] at H
              have LMc26 := Aside0.mk c26
              clear c26
              obtain ⟨y1039, hy1039⟩ : ∃ y_ : List Int, y_ = (x10_3 ++ [x12_4]) := ⟨_, rfl⟩
              replace H : (r5Run.l1 k4 l1 t1032 y1039 (wrap64 (x11_3 + 1))) = some (r1, r2) := by rw [hy1039]; exact H
              have Ny1039 := Aside0.mk hy1039
              clear hy1039
              have H' := Aside0.mk H
              clear H
              go_wp2_with (first | ((with_reducible refine gate_builtin (b := .append) (xs := #[.tmp 87, .tmp 89]) rfl ?_); (try (refine gate_guard (by rfl) ?_; dsimp only)); at_builtin; refine Kd.R_append (Kd.int .i64) (w0 := w) w.heap.size rfl (.tmp 87) (.tmp 89) 26 3 (.int .i64 0) 8 rfl Try.underlying26 info3 rfl (by decide) (by omega) u10 x10_3 x12_4 [.int .i64 x12_4] (fun _ => True) (fun _ => False) rfl rfl ?aP (fun _ hk => hk.elim) ?aF ?aO ?aB ?aS ?aL ?_; (case aP => exact rfl); (case aB => exact (HB.out)); (case aF => exact (fun _ _ => trivial)); (case aO => exact (by exact HO_10.out)); (case aS => exact (below_size (HB.out))); (case aL => have := LMc26.out; omega); intro v1040 w27 ho hb hg hat; rw [← Ny1039.out] at ho; have n0_ := Aside0.mk (Kd.S_after (ok := (fun _ => True)) (by exact Kd.S_mono HO_9.out (fun _ hk => ⟨trivial, hk⟩)) hg hat); have n1_ := Aside0.mk (hb); have n2_ := Aside0.mk (ho); clear HO_9; clear HB; clear HO_10; have HO_9 := n0_; have HB := n1_; have HO1041 := n2_; clear n0_ n1_ n2_; clear ho hb hg hat))
              go_roundg k4
              case measure => have := HJ3.out; have := HK2.out; have := HK3.out; have := HK4.out; omega
              case rel => exact ⟨(y1039), (wrap64 (x11_3 + 1)), rfl, H', ⟨by have := HJ3.out; have := HK2.out; have := HK3.out; have := HK4.out; omega⟩, ⟨by exact Kd.S_mono HO_9.out (fun _ hk => hk.2)⟩, ⟨by exact HO1041.out⟩, ⟨HB.out⟩⟩
             ·
              rw [if_neg c26] at H
              exact absurd H (by simp)
         ·
          rw [if_neg c17] at H
          have c17b0 : decide (x11_3 < (l1.length : Int)) = false := decide_eq_false c17
          clear c17
          have H' := Aside0.mk H
          clear H
          go_wp2
          go_loopg [14] k3 (fun kq v14 w' => ∃ (x14_4 : Int), v14 = .int .i64 x14_4 ∧ Aside0 (r5Run.l3 kq l1 x10_3 x14_4 = some (r1, r2)) ∧ Aside0 (kq ≤ k3) ∧ Aside0 (Kd.R (Kd.int .i64) 3 w' w.heap.size (fun _ => True) u10 x10_3) ∧ Aside0 (Below w.heap.size w w'))
          case atStart => exact ⟨(0), rfl, H', ⟨Nat.le_refl _⟩, ⟨by exact HO_10.out⟩, ⟨HB.out⟩⟩
          case round =>
           clear H'
           try clear q1036
           try clear q1037
           obtain ⟨x14_4, rfl, HA, HK4, HO_10, HB⟩ := hrel
           cases gk with
           | zero => exact absurd HA.out (by simp [r5Run.l3])
           | succ k4 =>
            have H := HA.out
            clear HA
            simp only [r5Run.l3] at H
            by_cases c28 : x14_4 < (l1.length : Int)
            ·
             rw [if_pos c28] at H
             have c28b0 : decide (x14_4 < (l1.length : Int)) = true := decide_eq_true c28
             clear c28
             by_cases c29 : 0 ≤ x14_4
             ·
              rw [if_pos c29] at H
              have c29b0 : decide (0 ≤ x14_4) = true := decide_eq_true c29
              clear c29
              by_cases c30 : x14_4 < (x10_3.length : Int)
              ·
               rw [if_pos c30] at H
               have c30b0 : decide (x14_4 < (x10_3.length : Int)) = true := decide_eq_true c30
               clear c30
               by_cases c31 : (rd x10_3 x14_4) = (-1152921504606846976)
               ·
                rw [if_pos c31] at H
                have c31b0 : ((rd x10_3 x14_4) == (-1152921504606846976)) = true := beq_iff_eq.mpr c31
                have c31b1 : ((rd x10_3 x14_4) != (-1152921504606846976)) = false := bne_eq_false_iff_eq.mpr c31
                clear c31
                have H' := Aside0.mk H
                clear H
                obtain ⟨Ao32, co32, eo32⟩ := Kd.R_slice HO_10.out
                subst eo32
                have p1042 : 0 ≤ (x14_4 : Int) := of_decide_eq_true (by first | (with_reducible assumption) | assumption)
                have q1042 : x14_4 < (x10_3.length : Int) := of_decide_eq_true (by first | (with_reducible assumption) | assumption)
                obtain ⟨ad1042, e1042, hx1042_0⟩ := Kd.at_int (Kd.R_reads' HO_10.out).2.2 x14_4 p1042 q1042
                cases e1042
                replace p1042 := eq_true p1042
                replace q1042 := eq_true q1042
                go_wp2
                go_roundg k4
                case measure => have := HJ3.out; have := HK2.out; have := HK3.out; have := HK4.out; omega
                case rel => exact ⟨(wrap64 (x14_4 + 1)), rfl, H', ⟨by have := HJ3.out; have := HK2.out; have := HK3.out; have := HK4.out; omega⟩, ⟨by exact HO_10.out⟩, ⟨HB.out⟩⟩
               ·
                rw [if_neg c31] at H
                have c31b0 : ((rd x10_3 x14_4) == (-1152921504606846976)) = false := beq_eq_false_iff_ne.mpr c31
                by_cases c33 : (rd x10_3 x14_4) < (-1125899906842624)
                ·
                 rw [if_pos c33] at H
                 have c33b0 : decide ((rd x10_3 x14_4) < (-1125899906842624)) = true := decide_eq_true c33
                 clear c33
                 simp only [Option.some.injEq, Prod.mk.injEq] at H
                 obtain ⟨rfl, rfl⟩ := H
                 obtain ⟨Ao34, co34, eo34⟩ := Kd.R_slice HO_10.out
                 subst eo34
                 have p1042 : 0 ≤ (x14_4 : Int) := of_decide_eq_true (by assumption)
                 have q1042 : x14_4 < (x10_3.length : Int) := of_decide_eq_true (by assumption)
                 obtain ⟨ad1042, e1042, hx1042_0⟩ := Kd.at_int (Kd.R_reads' HO_10.out).2.2 x14_4 p1042 q1042
                 cases e1042
                 replace p1042 := eq_true p1042
                 replace q1042 := eq_true q1042
                 have p1043 : 0 ≤ (x14_4 : Int) := of_decide_eq_true (by assumption)
                 have q1043 : x14_4 < (x10_3.length : Int) := of_decide_eq_true (by assumption)
                 obtain ⟨ad1043, e1043, hx1043_0⟩ := Kd.at_int (Kd.R_reads' HO_10.out).2.2 x14_4 p1043 q1043
                 obtain rfl : ad1042 = ad1043 := (by injection e1043)
                 replace p1043 := eq_true p1043
                 replace q1043 := eq_true q1043
                 go_wp2
                 go_ret2
                 exact ⟨_, rfl, by first | exact Kd.R_nil _ _ _ _ _ | exact Kd.N_nil _ _ _ _ _ | exact Kd.V_nil _ _ _ _ _ | exact Kd.Q_nil _ _ _ _ _ | exact Kd.S_nil _ _ _ _ _, HB.out⟩
                ·
                 rw [if_neg c33] at H
                 have c33b0 : decide ((rd x10_3 x14_4) < (-1125899906842624)) = false := decide_eq_false c33
                 clear c33
                 by_cases c35 : (rd x10_3 x14_4) > 1125899906842624
                 ·
                  rw [if_pos c35] at H
                  have c35b0 : decide (1125899906842624 < (rd x10_3 x14_4)) = true := decide_eq_true c35
                  clear c35
                  simp only [Option.some.injEq, Prod.mk.injEq] at H
                  obtain ⟨rfl, rfl⟩ := H
                  obtain ⟨Ao36, co36, eo36⟩ := Kd.R_slice HO_10.out
                  subst eo36
                  have p1042 : 0 ≤ (x14_4 : Int) := of_decide_eq_true (by assumption)
                  have q1042 : x14_4 < (x10_3.length : Int) := of_decide_eq_true (by assumption)
                  obtain ⟨ad1042, e1042, hx1042_0⟩ := Kd.at_int (Kd.R_reads' HO_10.out).2.2 x14_4 p1042 q1042
                  cases e1042
                  replace p1042 := eq_true p1042
                  replace q1042 := eq_true q1042
                  have p1043 : 0 ≤ (x14_4 : Int) := of_decide_eq_true (by assumption)
                  have q1043 : x14_4 < (x10_3.length : Int) := of_decide_eq_true (by assumption)
                  obtain ⟨ad1043, e1043, hx1043_0⟩ := Kd.at_int (Kd.R_reads' HO_10.out).2.2 x14_4 p1043 q1043
                  obtain rfl : ad1042 = ad1043 := (by injection e1043)
                  replace p1043 := eq_true p1043
                  replace q1043 := eq_true q1043
                  have p1044 : 0 ≤ (x14_4 : Int) := of_decide_eq_true (by assumption)
                  have q1044 : x14_4 < (x10_3.length : Int) := of_decide_eq_true (by assumption)
                  obtain ⟨ad1044, e1044, hx1044_0⟩ := Kd.at_int (Kd.R_reads' HO_10.out).2.2 x14_4 p1044 q1044
                  obtain rfl : ad1042 = ad1044 := (by injection e1044)
                  replace p1044 := eq_true p1044
                  replace q1044 := eq_true q1044
                  go_wp2
                  go_ret2
                  exact ⟨_, rfl, by first | exact Kd.R_nil _ _ _ _ _ | exact Kd.N_nil _ _ _ _ _ | exact Kd.V_nil _ _ _ _ _ | exact Kd.Q_nil _ _ _ _ _ | exact Kd.S_nil _ _ _ _ _, HB.out⟩
                 ·
                  rw [if_neg c35] at H
                  have c35b0 : decide (1125899906842624 < (rd x10_3 x14_4)) = false := decide_eq_false c35
                  clear c35
                  have H' := Aside0.mk H
                  clear H
                  obtain ⟨Ao37, co37, eo37⟩ := Kd.R_slice HO_10.out
                  subst eo37
                  have p1042 : 0 ≤ (x14_4 : Int) := of_decide_eq_true (by assumption)
                  have q1042 : x14_4 < (x10_3.length : Int) := of_decide_eq_true (by assumption)
                  obtain ⟨ad1042, e1042, hx1042_0⟩ := Kd.at_int (Kd.R_reads' HO_10.out).2.2 x14_4 p1042 q1042
                  cases e1042
                  replace p1042 := eq_true p1042
                  replace q1042 := eq_true q1042
                  have p1043 : 0 ≤ (x14_4 : Int) := of_decide_eq_true (by assumption)
                  have q1043 : x14_4 < (x10_3.length : Int) := of_decide_eq_true (by assumption)
                  obtain ⟨ad1043, e1043, hx1043_0⟩ := Kd.at_int (Kd.R_reads' HO_10.out).2.2 x14_4 p1043 q1043
                  obtain rfl : ad1042 = ad1043 := (by injection e1043)
                  replace p1043 := eq_true p1043
                  replace q1043 := eq_true q1043
                  have p1044 : 0 ≤ (x14_4 : Int) := of_decide_eq_true (by assumption)
                  have q1044 : x14_4 < (x10_3.length : Int) := of_decide_eq_true (by assumption)
                  obtain ⟨ad1044, e1044, hx1044_0⟩ := Kd.at_int (Kd.R_reads' HO_10.out).2.2 x14_4 p1044 q1044
                  obtain rfl : ad1042 = ad1044 := (by injection e1044)
                  replace p1044 := eq_true p1044
                  replace q1044 := eq_true q1044
                  go_wp2
                  go_roundg k4
                  case measure => have := HJ3.out; have := HK2.out; have := HK3.out; have := HK4.out; omega
                  case rel => exact ⟨(wrap64 (x14_4 + 1)), rfl, H', ⟨by have := HJ3.out; have := HK2.out; have := HK3.out; have := HK4.out; omega⟩, ⟨by exact HO_10.out⟩, ⟨HB.out⟩⟩
              ·
               rw [if_neg c30] at H
               exact absurd H (by simp)
             ·
              rw [if_neg c29] at H
              exact absurd H (by simp)
            ·
             rw [if_neg c28] at H
             have c28b0 : decide (x14_4 < (l1.length : Int)) = false := decide_eq_false c28
             clear c28
             simp only [Option.some.injEq, Prod.mk.injEq] at H
             obtain ⟨rfl, rfl⟩ := H
             go_wp2
             go_ret2
             exact ⟨_, rfl, by exact HO_10.out, HB.out⟩

mutual
def l5LinePowers.j0 : Nat → List (List Int) → List (List Int) → List Int → Int → Bool → Option (Bool)
 | 0, _, _, _, _, _ => none
 | k + 1, x0, x1, x2, x3, x30 => if x30 = true then ((l5alive.f k).bind fun t1047 => (some t1047)) else ((l5copied.f k x0).bind fun t1048 => ((l5copied.f k x1).bind fun t1051 => ((some (([] : List Int) : List Int)).bind fun y1054 => (if y1054.length + x2.length < 17592186044416 then ((some (y1054 ++ x2 : List Int)).bind fun y1057 => ((line_Multiply.f k t1048 t1051).bind fun bt1060 => ((r5Multiply.f k x0 x1).bind fun bt1064 => (if bt1060.2 = bt1064.2 then ((l5rows.f k bt1060.1 bt1064.1).bind fun t1068 => (l5LinePowers.j1 k x0 x1 x2 x3 t1048 t1051 y1057 bt1060.1 (!t1068))) else (l5LinePowers.j1 k x0 x1 x2 x3 t1048 t1051 y1057 bt1060.1 true))))) else (none)))))
def l5LinePowers.j1 : Nat → List (List Int) → List (List Int) → List Int → Int → List (List Int) → List (List Int) → List Int → List (List Int) → Bool → Option (Bool)
 | 0, _, _, _, _, _, _, _, _, _ => none
 | k + 1, x0, x1, x2, x3, x9, x10, x11, x12, x59 => if x59 = true then (some false) else ((l5spoil.f k x12).bind fun t1069 => ((line_Power.f k x9 x3).bind fun bt1070 => ((r5Power.f k x0 x3).bind fun bt1074 => (if bt1070.2 = bt1074.2 then ((l5rows.f k bt1070.1 bt1074.1).bind fun t1078 => (l5LinePowers.j2 k x0 x1 x2 x3 x9 x10 x11 bt1070.1 (!t1078))) else (l5LinePowers.j2 k x0 x1 x2 x3 x9 x10 x11 bt1070.1 true)))))
def l5LinePowers.j2 : Nat → List (List Int) → List (List Int) → List Int → Int → List (List Int) → List (List Int) → List Int → List (List Int) → Bool → Option (Bool)
 | 0, _, _, _, _, _, _, _, _, _ => none
 | k + 1, x0, x1, x2, x3, x9, x10, x11, x12, x82 => if x82 = true then (some false) else ((l5spoil.f k x12).bind fun t1079 => ((line_Run.f k x9 x11 x3).bind fun bt1080 => ((r5Run.f k x0 x2 x3).bind fun bt1084 => (if bt1080.2 = bt1084.2 then ((l5same.f k bt1080.1 bt1084.1).bind fun t1088 => (if t1088 = true then ((l5rows.f k x9 x0).bind fun t1089 => (if t1089 = true then ((l5rows.f k x10 x1).bind fun t1090 => (if t1090 = true then ((l5same.f k x11 x2).bind fun t1091 => (if t1091 = true then ((l5alive.f k).bind fun t1092 => (some t1092)) else (some false))) else (some false))) else (some false))) else (some false))) else (some false)))))
end
def l5LinePowers.f (k : Nat) (l0 : List (List Int)) (l1 : List (List Int)) (l2 : List Int) (a3 : Int) : Option (Bool) := (l5few.f k l0).bind fun t1045 => (if t1045 = true then ((l5few.f k l1).bind fun t1046 => (if t1046 = true then (l5LinePowers.j0 k l0 l1 l2 a3 (decide ((l2.length : Int) > 20))) else (l5LinePowers.j0 k l0 l1 l2 a3 true))) else (l5LinePowers.j0 k l0 l1 l2 a3 true))
theorem l5LinePowers.mono_l : ∀ k, (∀ y0 y1 y2 y3 y4, LeO (l5LinePowers.j0 k y0 y1 y2 y3 y4) (l5LinePowers.j0 (k + 1) y0 y1 y2 y3 y4)) ∧ (∀ y0 y1 y2 y3 y4 y5 y6 y7 y8, LeO (l5LinePowers.j1 k y0 y1 y2 y3 y4 y5 y6 y7 y8) (l5LinePowers.j1 (k + 1) y0 y1 y2 y3 y4 y5 y6 y7 y8)) ∧ (∀ y0 y1 y2 y3 y4 y5 y6 y7 y8, LeO (l5LinePowers.j2 k y0 y1 y2 y3 y4 y5 y6 y7 y8) (l5LinePowers.j2 (k + 1) y0 y1 y2 y3 y4 y5 y6 y7 y8))
 | 0 => ⟨fun _ _ _ _ _ r h => by simp [l5LinePowers.j0] at h, fun _ _ _ _ _ _ _ _ _ r h => by simp [l5LinePowers.j1] at h, fun _ _ _ _ _ _ _ _ _ r h => by simp [l5LinePowers.j2] at h⟩
 | k + 1 => by
  obtain ⟨ih0, ih1, ih2⟩ := l5LinePowers.mono_l k
  refine ⟨?_, ?_, ?_⟩
  ·
   intro y0 y1 y2 y3 y4
   unfold l5LinePowers.j0
   repeat' first
   | (with_reducible exact LeO.refl _)
   | (with_reducible exact LeO.none _)
   | (with_reducible refine LeO.ite ?_ ?_)
   | (with_reducible refine LeO.bind ?_ (fun _ => ?_))
   | exact ih0 _ _ _ _ _
   | exact ih1 _ _ _ _ _ _ _ _ _
   | exact ih2 _ _ _ _ _ _ _ _ _
   | exact line_Multiply.mono _ _ _
   | exact line_Power.mono _ _ _
   | exact line_Run.mono _ _ _ _
   | exact l5alive.mono _
   | exact l5copied.mono _ _
   | exact l5few.mono _ _
   | exact l5rows.mono _ _ _
   | exact l5same.mono _ _ _
   | exact l5spoil.mono _ _
   | exact r5Multiply.mono _ _ _
   | exact r5Power.mono _ _ _
   | exact r5Run.mono _ _ _ _
   | exact LeO.none _
   | refine LeO.ite ?_ ?_
   | refine LeO.bind ?_ (fun _ => ?_)
  ·
   intro y0 y1 y2 y3 y4 y5 y6 y7 y8
   unfold l5LinePowers.j1
   repeat' first
   | (with_reducible exact LeO.refl _)
   | (with_reducible exact LeO.none _)
   | (with_reducible refine LeO.ite ?_ ?_)
   | (with_reducible refine LeO.bind ?_ (fun _ => ?_))
   | exact ih0 _ _ _ _ _
   | exact ih1 _ _ _ _ _ _ _ _ _
   | exact ih2 _ _ _ _ _ _ _ _ _
   | exact line_Multiply.mono _ _ _
   | exact line_Power.mono _ _ _
   | exact line_Run.mono _ _ _ _
   | exact l5alive.mono _
   | exact l5copied.mono _ _
   | exact l5few.mono _ _
   | exact l5rows.mono _ _ _
   | exact l5same.mono _ _ _
   | exact l5spoil.mono _ _
   | exact r5Multiply.mono _ _ _
   | exact r5Power.mono _ _ _
   | exact r5Run.mono _ _ _ _
   | exact LeO.none _
   | refine LeO.ite ?_ ?_
   | refine LeO.bind ?_ (fun _ => ?_)
  ·
   intro y0 y1 y2 y3 y4 y5 y6 y7 y8
   unfold l5LinePowers.j2
   repeat' first
   | (with_reducible exact LeO.refl _)
   | (with_reducible exact LeO.none _)
   | (with_reducible refine LeO.ite ?_ ?_)
   | (with_reducible refine LeO.bind ?_ (fun _ => ?_))
   | exact ih0 _ _ _ _ _
   | exact ih1 _ _ _ _ _ _ _ _ _
   | exact ih2 _ _ _ _ _ _ _ _ _
   | exact line_Multiply.mono _ _ _
   | exact line_Power.mono _ _ _
   | exact line_Run.mono _ _ _ _
   | exact l5alive.mono _
   | exact l5copied.mono _ _
   | exact l5few.mono _ _
   | exact l5rows.mono _ _ _
   | exact l5same.mono _ _ _
   | exact l5spoil.mono _ _
   | exact r5Multiply.mono _ _ _
   | exact r5Power.mono _ _ _
   | exact r5Run.mono _ _ _ _
   | exact LeO.none _
   | refine LeO.ite ?_ ?_
   | refine LeO.bind ?_ (fun _ => ?_)
theorem l5LinePowers.mono : ∀ a0 a1 a2 a3 k, LeO (l5LinePowers.f k a0 a1 a2 a3) (l5LinePowers.f (k + 1) a0 a1 a2 a3) := by
 intro a0 a1 a2 a3 k
 obtain ⟨ih0, ih1, ih2⟩ := l5LinePowers.mono_l k
 unfold l5LinePowers.f
 repeat' first
   | (with_reducible exact LeO.refl _)
   | (with_reducible exact LeO.none _)
   | (with_reducible refine LeO.ite ?_ ?_)
   | (with_reducible refine LeO.bind ?_ (fun _ => ?_))
   | exact ih0 _ _ _ _ _
   | exact ih1 _ _ _ _ _ _ _ _ _
   | exact ih2 _ _ _ _ _ _ _ _ _
   | exact line_Multiply.mono _ _ _
   | exact line_Power.mono _ _ _
   | exact line_Run.mono _ _ _ _
   | exact l5alive.mono _
   | exact l5copied.mono _ _
   | exact l5few.mono _ _
   | exact l5rows.mono _ _ _
   | exact l5same.mono _ _ _
   | exact l5spoil.mono _ _
   | exact r5Multiply.mono _ _ _
   | exact r5Power.mono _ _ _
   | exact r5Run.mono _ _ _ _
   | exact LeO.none _
   | refine LeO.ite ?_ ?_
   | refine LeO.bind ?_ (fun _ => ?_)
set_option maxHeartbeats 8000000 in
set_option maxRecDepth 100000 in
theorem l5LinePowers.calls (k : Nat) (A0 : Option Addr) (c0 : Nat) (l0 : List (List Int)) (A1 : Option Addr) (c1 : Nat) (l1 : List (List Int)) (A2 : Option Addr) (c2 : Nat) (l2 : List Int) (a3 : Int) (r : Bool) (w : World) (hr0 : Kd.C (Kd.slice 3 (Kd.int .i64)) w A0 l0.length l0) (hc0 : l0.length ≤ c0) (hr1 : Kd.C (Kd.slice 3 (Kd.int .i64)) w A1 l1.length l1) (hc1 : l1.length ≤ c1) (hr2 : Kd.C (Kd.int .i64) w A2 l2.length l2) (hc2 : l2.length ≤ c2) (h : l5LinePowers.f k l0 l1 l2 a3 = some r) (hr_ : Aside0 (r = true)) :
  Calls Try.prog 9 #[.slice A0 l0.length c0, .slice A1 l1.length c1, .slice A2 l2.length c2, .int .i64 a3] w fun e w' => e = .returned (.bool r) ∧ Below w.heap.size w w' := by
 have HR0 := Aside0.mk hr0
 have HC0 := Aside0.mk hc0
 clear hr0 hc0
 have HR1 := Aside0.mk hr1
 have HC1 := Aside0.mk hc1
 clear hr1 hc1
 have HR2 := Aside0.mk hr2
 have HC2 := Aside0.mk hc2
 clear hr2 hc2
 have HB := Aside0.mk (Below.refl w.heap.size w)
 have H : ((l5few.f k l0).bind fun t1045 => (if t1045 = true then ((l5few.f k l1).bind fun t1046 => (if t1046 = true then (l5LinePowers.j0 k l0 l1 l2 a3 (decide ((l2.length : Int) > 20))) else (l5LinePowers.j0 k l0 l1 l2 a3 true))) else (l5LinePowers.j0 k l0 l1 l2 a3 true))) = some r := h
 clear h
 have HC5 := Aside0.mk H
 clear H
 go_enter Try.func9, Try.ntmps9
 go_upto_region 1 with (fail)
 go_cut [30] (fun v30 wc => ∃ (kq : Nat) (x30_4 : Bool), v30 = .bool x30_4 ∧ Aside0 (l5LinePowers.j0 kq l0 l1 l2 a3 x30_4 = some r) ∧ Aside0 (kq ≤ k) ∧ Aside0 (Below w.heap.size w wc))
 case first =>
  have H := HC5.out
  clear HC5
  replace H := Option.bind_eq_some_iff.mp H
  obtain ⟨t1045, A60, H⟩ := H
  replace H : (if t1045 = true then ((l5few.f k l1).bind fun t1046 => (if t1046 = true then (l5LinePowers.j0 k l0 l1 l2 a3 (decide ((l2.length : Int) > 20))) else (l5LinePowers.j0 k l0 l1 l2 a3 true))) else (l5LinePowers.j0 k l0 l1 l2 a3 true)) = some r := H
  have A6 := Aside0.mk A60
  clear A60
  by_cases c7 : t1045 = true
  ·
   subst c7
   have H1 : ((l5few.f k l1).bind fun t1046 => (if t1046 = true then (l5LinePowers.j0 k l0 l1 l2 a3 (decide ((l2.length : Int) > 20))) else (l5LinePowers.j0 k l0 l1 l2 a3 true))) = some r := by rw [if_pos rfl] at H; exact H
   clear H
   have H := H1
   clear H1
   replace H := Option.bind_eq_some_iff.mp H
   obtain ⟨t1046, A80, H⟩ := H
   replace H : (if t1046 = true then (l5LinePowers.j0 k l0 l1 l2 a3 (decide ((l2.length : Int) > 20))) else (l5LinePowers.j0 k l0 l1 l2 a3 true)) = some r := H
   have A8 := Aside0.mk A80
   clear A80
   by_cases c9 : t1046 = true
   ·
    subst c9
    have H1 : (l5LinePowers.j0 k l0 l1 l2 a3 (decide ((l2.length : Int) > 20))) = some r := by rw [if_pos rfl] at H; exact H
    clear H
    have H := H1
    clear H1
    have H' := Aside0.mk H
    clear H
    go_wp2_with (first | ((with_reducible refine gate_callee (f := 12) rfl ?_); refine goesL_ (some 19) rfl rfl Try.func12 (by kernel_rfl) rfl #[.slice A0 l0.length c0] rfl (by (try simp only [List.map_toArray, List.map_cons, List.map_nil]); first | done | rfl | (simp only [List.length_drop, List.length_take]; rfl)) ?_; (with_reducible refine (l5few.calls k _ _ l0 true _ ?side1 ?side2 A6.out).mono ?_); (case side1 => repeat (first | exact (Kd.C_below HR0.out HB.out) | (with_reducible refine Kd.C_alloc ?_ _) | (with_reducible refine Kd.C_drewN ?_ _) | (with_reducible refine Kd.C_drew ?_))); (case side2 => exact HC0.out); rintro e w' ⟨rfl, ⟨nd, rfl⟩⟩; refine ⟨_, rfl, ?_⟩) | (go_at_call 12; (with_reducible refine (l5few.calls k _ _ l1 true _ ?side1 ?side2 A8.out).mono ?_); (case side1 => repeat (first | exact (Kd.C_below HR1.out (by repeat (first | (with_reducible first | exact HB.out | apply below_alloc | apply pw_below_drewN | apply below_drew1) | exact HB.out))) | (with_reducible refine Kd.C_alloc ?_ _) | (with_reducible refine Kd.C_drewN ?_ _) | (with_reducible refine Kd.C_drew ?_))); (case side2 => exact HC1.out); rintro e w' ⟨rfl, ⟨nd, rfl⟩⟩))
    go_meet
    case rel => exact ⟨_, (decide ((l2.length : Int) > 20)), (by first | rfl | (simp; done) | (simp [*]; done)), H', ⟨by first | omega | exact Nat.le_refl _⟩, ⟨by repeat (first | (with_reducible first | exact HB.out | apply below_alloc | apply pw_below_drewN | apply below_drew1) | exact HB.out)⟩⟩
   ·
    replace c9 := Bool.eq_false_iff.mpr c9
    subst c9
    have H1 : (l5LinePowers.j0 k l0 l1 l2 a3 true) = some r := by rw [if_neg (show ¬ (false = true) by decide)] at H; exact H
    clear H
    have H := H1
    clear H1
    have H' := Aside0.mk H
    clear H
    go_wp2_with (first | ((with_reducible refine gate_callee (f := 12) rfl ?_); refine goesL_ (some 19) rfl rfl Try.func12 (by kernel_rfl) rfl #[.slice A0 l0.length c0] rfl (by (try simp only [List.map_toArray, List.map_cons, List.map_nil]); first | done | rfl | (simp only [List.length_drop, List.length_take]; rfl)) ?_; (with_reducible refine (l5few.calls k _ _ l0 true _ ?side1 ?side2 A6.out).mono ?_); (case side1 => repeat (first | exact (Kd.C_below HR0.out HB.out) | (with_reducible refine Kd.C_alloc ?_ _) | (with_reducible refine Kd.C_drewN ?_ _) | (with_reducible refine Kd.C_drew ?_))); (case side2 => exact HC0.out); rintro e w' ⟨rfl, ⟨nd, rfl⟩⟩; refine ⟨_, rfl, ?_⟩) | (go_at_call 12; (with_reducible refine (l5few.calls k _ _ l1 false _ ?side1 ?side2 A8.out).mono ?_); (case side1 => repeat (first | exact (Kd.C_below HR1.out (by repeat (first | (with_reducible first | exact HB.out | apply below_alloc | apply pw_below_drewN | apply below_drew1) | exact HB.out))) | (with_reducible refine Kd.C_alloc ?_ _) | (with_reducible refine Kd.C_drewN ?_ _) | (with_reducible refine Kd.C_drew ?_))); (case side2 => exact HC1.out); rintro e w' ⟨rfl, ⟨nd, rfl⟩⟩))
    go_meet
    case rel => exact ⟨_, (true), (by first | rfl | (simp; done) | (simp [*]; done)), H', ⟨by first | omega | exact Nat.le_refl _⟩, ⟨by repeat (first | (with_reducible first | exact HB.out | apply below_alloc | apply pw_below_drewN | apply below_drew1) | exact HB.out)⟩⟩
  ·
   replace c7 := Bool.eq_false_iff.mpr c7
   subst c7
   have H1 : (l5LinePowers.j0 k l0 l1 l2 a3 true) = some r := by rw [if_neg (show ¬ (false = true) by decide)] at H; exact H
   clear H
   have H := H1
   clear H1
   have H' := Aside0.mk H
   clear H
   go_wp2_with (first | ((with_reducible refine gate_callee (f := 12) rfl ?_); refine goesL_ (some 19) rfl rfl Try.func12 (by kernel_rfl) rfl #[.slice A0 l0.length c0] rfl (by (try simp only [List.map_toArray, List.map_cons, List.map_nil]); first | done | rfl | (simp only [List.length_drop, List.length_take]; rfl)) ?_; (with_reducible refine (l5few.calls k _ _ l0 false _ ?side1 ?side2 A6.out).mono ?_); (case side1 => repeat (first | exact (Kd.C_below HR0.out HB.out) | (with_reducible refine Kd.C_alloc ?_ _) | (with_reducible refine Kd.C_drewN ?_ _) | (with_reducible refine Kd.C_drew ?_))); (case side2 => exact HC0.out); rintro e w' ⟨rfl, ⟨nd, rfl⟩⟩; refine ⟨_, rfl, ?_⟩))
   go_meet
   case rel => exact ⟨_, (true), rfl, H', ⟨by first | omega | exact Nat.le_refl _⟩, ⟨by repeat (first | exact HB.out | apply below_alloc | apply pw_below_drewN | apply below_drew1)⟩⟩
 case rest =>
  clear HC5
  try clear c2
  try clear p2
  try clear c7
  try clear c9
  obtain ⟨kq, x30_4, rfl, HA, HJ4, HB⟩ := hcut
  cases kq with
  | zero => exact absurd HA.out (by simp [l5LinePowers.j0])
  | succ kj4 =>
   have H := HA.out
   clear HA
   simp only [l5LinePowers.j0] at H
   by_cases c10 : x30_4 = true
   ·
    subst c10
    have H1 : ((l5alive.f kj4).bind fun t1047 => (some t1047)) = some r := by rw [if_pos rfl] at H; exact H
    clear H
    have H := H1
    clear H1
    replace H := Option.bind_eq_some_iff.mp H
    obtain ⟨t1047, A110, H⟩ := H
    replace H : (some t1047) = some r := H
    have A11 := Aside0.mk A110
    clear A110
    obtain rfl := Option.some.inj H
    go_wp2_with (first | ((with_reducible refine gate_callee (f := 13) rfl ?_); refine goesL_ (some 31) rfl rfl Try.func13 (by kernel_rfl) rfl #[] rfl (by (try simp only [List.map_toArray, List.map_cons, List.map_nil]); first | done | rfl | (simp only [List.length_drop, List.length_take]; rfl)) ?_; (with_reducible refine (l5alive.calls kj4  t1047 _ A11.out).mono ?_); rintro e w12 ⟨rfl, hb⟩; refine ⟨_, rfl, ?_⟩; have n0_ := Aside0.mk (below_step (by repeat (first | (with_reducible first | exact HB.out | apply below_alloc | apply pw_below_drewN | apply below_drew1) | exact HB.out)) hb); clear HB; have HB := n0_; clear n0_; (try clear hb); (try clear hb2); (try clear hk); (try clear hi)))
    go_ret
    exact ⟨by first | rfl | (simp [errW_none, errW_some] <;> rfl) | (simp [*, errW_none, errW_some] <;> rfl), by repeat (first | (with_reducible first | exact HB.out | apply below_alloc | apply pw_below_drewN | apply below_drew1) | exact HB.out)⟩
   ·
    replace c10 := Bool.eq_false_iff.mpr c10
    subst c10
    have H1 : ((l5copied.f kj4 l0).bind fun t1048 => ((l5copied.f kj4 l1).bind fun t1051 => ((some (([] : List Int) : List Int)).bind fun y1054 => (if y1054.length + l2.length < 17592186044416 then ((some (y1054 ++ l2 : List Int)).bind fun y1057 => ((line_Multiply.f kj4 t1048 t1051).bind fun bt1060 => ((r5Multiply.f kj4 l0 l1).bind fun bt1064 => (if bt1060.2 = bt1064.2 then ((l5rows.f kj4 bt1060.1 bt1064.1).bind fun t1068 => (l5LinePowers.j1 kj4 l0 l1 l2 a3 t1048 t1051 y1057 bt1060.1 (!t1068))) else (l5LinePowers.j1 kj4 l0 l1 l2 a3 t1048 t1051 y1057 bt1060.1 true))))) else (none))))) = some r := by rw [if_neg (show ¬ (false = true) by decide)] at H; exact H
    clear H
    have H := H1
    clear H1
    replace H := Option.bind_eq_some_iff.mp H
    obtain ⟨t1048, A130, H⟩ := H
    replace H : ((l5copied.f kj4 l1).bind fun t1051 => ((some (([] : List Int) : List Int)).bind fun y1054 => (if y1054.length + l2.length < 17592186044416 then ((some (y1054 ++ l2 : List Int)).bind fun y1057 => ((line_Multiply.f kj4 t1048 t1051).bind fun bt1060 => ((r5Multiply.f kj4 l0 l1).bind fun bt1064 => (if bt1060.2 = bt1064.2 then ((l5rows.f kj4 bt1060.1 bt1064.1).bind fun t1068 => (l5LinePowers.j1 kj4 l0 l1 l2 a3 t1048 t1051 y1057 bt1060.1 (!t1068))) else (l5LinePowers.j1 kj4 l0 l1 l2 a3 t1048 t1051 y1057 bt1060.1 true))))) else (none)))) = some r := H
    have A13 := Aside0.mk A130
    clear A130
    replace H := Option.bind_eq_some_iff.mp H
    obtain ⟨t1051, A140, H⟩ := H
    replace H : ((some (([] : List Int) : List Int)).bind fun y1054 => (if y1054.length + l2.length < 17592186044416 then ((some (y1054 ++ l2 : List Int)).bind fun y1057 => ((line_Multiply.f kj4 t1048 t1051).bind fun bt1060 => ((r5Multiply.f kj4 l0 l1).bind fun bt1064 => (if bt1060.2 = bt1064.2 then ((l5rows.f kj4 bt1060.1 bt1064.1).bind fun t1068 => (l5LinePowers.j1 kj4 l0 l1 l2 a3 t1048 t1051 y1057 bt1060.1 (!t1068))) else (l5LinePowers.j1 kj4 l0 l1 l2 a3 t1048 t1051 y1057 bt1060.1 true))))) else (none))) = some r := H
    have A14 := Aside0.mk A140
    clear A140
    obtain ⟨y1054, hy1054⟩ : ∃ y_ : List Int, y_ = (([] : List Int)) := ⟨_, rfl⟩
    replace H : (if y1054.length + l2.length < 17592186044416 then ((some (y1054 ++ l2 : List Int)).bind fun y1057 => ((line_Multiply.f kj4 t1048 t1051).bind fun bt1060 => ((r5Multiply.f kj4 l0 l1).bind fun bt1064 => (if bt1060.2 = bt1064.2 then ((l5rows.f kj4 bt1060.1 bt1064.1).bind fun t1068 => (l5LinePowers.j1 kj4 l0 l1 l2 a3 t1048 t1051 y1057 bt1060.1 (!t1068))) else (l5LinePowers.j1 kj4 l0 l1 l2 a3 t1048 t1051 y1057 bt1060.1 true))))) else (none)) = some r := by rw [hy1054]; exact H
    have Ny1054 := Aside0.mk hy1054
    clear hy1054
    by_cases c15 : y1054.length + l2.length < 17592186044416
    ·
     rw [if_pos c15] at H
     have LMc15 := Aside0.mk c15
     clear c15
     obtain ⟨y1057, hy1057⟩ : ∃ y_ : List Int, y_ = (y1054 ++ l2) := ⟨_, rfl⟩
     replace H : ((line_Multiply.f kj4 t1048 t1051).bind fun bt1060 => ((r5Multiply.f kj4 l0 l1).bind fun bt1064 => (if bt1060.2 = bt1064.2 then ((l5rows.f kj4 bt1060.1 bt1064.1).bind fun t1068 => (l5LinePowers.j1 kj4 l0 l1 l2 a3 t1048 t1051 y1057 bt1060.1 (!t1068))) else (l5LinePowers.j1 kj4 l0 l1 l2 a3 t1048 t1051 y1057 bt1060.1 true)))) = some r := by rw [hy1057]; exact H
     have Ny1057 := Aside0.mk hy1057
     clear hy1057
     replace H := Option.bind_eq_some_iff.mp H
     obtain ⟨⟨t1060, t1061⟩, A160, H⟩ := H
     replace H : ((r5Multiply.f kj4 l0 l1).bind fun bt1064 => (if t1061 = bt1064.2 then ((l5rows.f kj4 t1060 bt1064.1).bind fun t1068 => (l5LinePowers.j1 kj4 l0 l1 l2 a3 t1048 t1051 y1057 t1060 (!t1068))) else (l5LinePowers.j1 kj4 l0 l1 l2 a3 t1048 t1051 y1057 t1060 true))) = some r := H
     have A16 := Aside0.mk A160
     clear A160
     replace H := Option.bind_eq_some_iff.mp H
     obtain ⟨⟨t1064, t1065⟩, A170, H⟩ := H
     replace H : (if t1061 = t1065 then ((l5rows.f kj4 t1060 t1064).bind fun t1068 => (l5LinePowers.j1 kj4 l0 l1 l2 a3 t1048 t1051 y1057 t1060 (!t1068))) else (l5LinePowers.j1 kj4 l0 l1 l2 a3 t1048 t1051 y1057 t1060 true)) = some r := H
     have A17 := Aside0.mk A170
     clear A170
     have HC18 := Aside0.mk H
     clear H
     go_upto_region 6 with (first | ((with_reducible refine gate_callee (f := 14) rfl ?_); refine goesL_ (some 33) rfl rfl Try.func14 (by kernel_rfl) rfl #[.slice A0 l0.length c0] rfl (by (try simp only [List.map_toArray, List.map_cons, List.map_nil]); first | done | rfl | (simp only [List.length_drop, List.length_take]; rfl)) ?_; (with_reducible refine (l5copied.calls kj4 _ _ l0 t1048 _ ?side1 ?side2 A13.out).mono ?_); (case side1 => repeat (first | exact (Kd.C_below HR0.out HB.out) | (with_reducible refine Kd.C_alloc ?_ _) | (with_reducible refine Kd.C_drewN ?_ _) | (with_reducible refine Kd.C_drew ?_))); (case side2 => exact HC0.out); rintro e w19 ⟨v1049, rfl, ho0, hb⟩; refine ⟨_, rfl, ?_⟩; have n0_ := Aside0.mk (Kd.S_lower ho0 (below_size (by repeat (first | (with_reducible first | exact HB.out | apply below_alloc | apply pw_below_drewN | apply below_drew1) | exact HB.out)))); have n1_ := Aside0.mk (below_step (by repeat (first | (with_reducible first | exact HB.out | apply below_alloc | apply pw_below_drewN | apply below_drew1) | exact HB.out)) hb); clear HB; have HO1050 := n0_; have HB := n1_; clear n0_ n1_; (try clear hb); (try clear hb2); (try clear hk); (try clear hi); (try clear ho0)) | ((with_reducible refine gate_callee (f := 14) rfl ?_); refine goesL_ (some 35) rfl rfl Try.func14 (by kernel_rfl) rfl #[.slice A1 l1.length c1] rfl (by (try simp only [List.map_toArray, List.map_cons, List.map_nil]); first | done | rfl | (simp only [List.length_drop, List.length_take]; rfl)) ?_; (with_reducible refine (l5copied.calls kj4 _ _ l1 t1051 _ ?side1 ?side2 A14.out).mono ?_); (case side1 => repeat (first | exact (Kd.C_below HR1.out HB.out) | (with_reducible refine Kd.C_alloc ?_ _) | (with_reducible refine Kd.C_drewN ?_ _) | (with_reducible refine Kd.C_drew ?_))); (case side2 => exact HC1.out); rintro e w20 ⟨v1052, rfl, ho0, hb⟩; refine ⟨_, rfl, ?_⟩; have n0_ := Aside0.mk (Kd.S_elder' (by (with_reducible repeat (first | apply Kd.S_alloc | apply Kd.S_drewN | apply Kd.S_drew)); exact HO1050.out) (Kd.S_base ho0) hb); have n1_ := Aside0.mk (Kd.S_lower (Kd.S_new' ho0 (Kd.S_lt (by (with_reducible repeat (first | apply Kd.S_alloc | apply Kd.S_drewN | apply Kd.S_drew)); exact HO1050.out))) (below_size (by repeat (first | (with_reducible first | exact HB.out | apply below_alloc | apply pw_below_drewN | apply below_drew1) | exact HB.out)))); have n2_ := Aside0.mk (below_step (by repeat (first | (with_reducible first | exact HB.out | apply below_alloc | apply pw_below_drewN | apply below_drew1) | exact HB.out)) hb); clear HO1050; clear HB; have HO1050 := n0_; have HO1053 := n1_; have HB := n2_; clear n0_ n1_ n2_; (try clear hb); (try clear hb2); (try clear hk); (try clear hi); (try clear ho0)) | ((with_reducible refine gate_dst (N := 36) rfl ?_); (try (refine gate_guard (by rfl) ?_; dsimp only)); refine Kd.R_lit (Kd.int .i64) _ 3 ?hg (N := 36) ?hd (xs := ([] : List Int)) (inner := []) (ok := fun _ => True) (okp := fun _ => True) ?hr ?hp (fun _ hk => hk) trivial (Below.refl _ _) (Nat.le_refl _) (by simp) ?_; (case hd => rfl); (case hg => rfl); (case hr => first | (go_simp; done) | (go_simp; rfl)); (case hp => exact (Reps.none _ _)); intro v1055 w21 ho22 hb hg_ hnew_; clear hg_ hnew_; (first | rw [← Ny1054.out] at ho22 | (simp only [Int.reduceToNat] at ho22; rw [← Ny1054.out] at ho22)); have n0_ := Aside0.mk (Kd.S_elder' (by (with_reducible repeat (first | apply Kd.S_alloc | apply Kd.S_drewN | apply Kd.S_drew)); exact HO1050.out) (Kd.R_base ho22) hb); have n1_ := Aside0.mk (Kd.S_elder' (by (with_reducible repeat (first | apply Kd.S_alloc | apply Kd.S_drewN | apply Kd.S_drew)); exact HO1053.out) (Kd.R_base ho22) hb); have n2_ := Aside0.mk (Kd.R_lower ho22 (below_size (by repeat (first | (with_reducible first | exact HB.out | apply below_alloc | apply pw_below_drewN | apply below_drew1) | exact HB.out)))); have n3_ := Aside0.mk (below_step (by repeat (first | (with_reducible first | exact HB.out | apply below_alloc | apply pw_below_drewN | apply below_drew1) | exact HB.out)) hb); clear HO1050; clear HO1053; clear HB; have HO1050 := n0_; have HO1053 := n1_; have HO1056 := n2_; have HB := n3_; clear n0_ n1_ n2_ n3_; clear hb ho22) | ((with_reducible refine gate_builtin (b := .append) (xs := #[.tmp 36, .tmp 37]) rfl ?_); (try (refine gate_guard (by rfl) ?_; dsimp only)); at_builtin; refine Kd.R_append_rows (Kd.int .i64) (w0 := w) w.heap.size rfl (.tmp 36) (.tmp 37) 26 3 (.int .i64 0) 8 rfl Try.underlying26 info3 rfl (by decide) (by omega) v1055 y1054 l2 _ _ _ (fun _ => True) (fun _ => False) rfl rfl ?aO ?aR (fun _ _ h => h) (fun _ h => h.elim) ?aF ?aB ?aS ?aL ?_; (case aR => repeat (first | exact (Kd.C_below HR2.out HB.out) | (with_reducible refine Kd.C_alloc ?_ _) | (with_reducible refine Kd.C_drewN ?_ _) | (with_reducible refine Kd.C_drew ?_))); (case aB => exact (by repeat (first | (with_reducible first | exact HB.out | apply below_alloc | apply pw_below_drewN | apply below_drew1) | exact HB.out))); (case aF => exact (fun _ _ => trivial)); (case aO => exact (by (with_reducible repeat (first | apply Kd.R_alloc | apply Kd.R_drewN | apply Kd.R_drew)); exact HO1056.out)); (case aS => exact (below_size (by repeat (first | (with_reducible first | exact HB.out | apply below_alloc | apply pw_below_drewN | apply below_drew1) | exact HB.out)))); (case aL => have := LMc15.out; omega); intro v1058 w23 ho hb hg hat; rw [← Ny1057.out] at ho; have n0_ := Aside0.mk (Kd.S_after (ok := (fun k_ => some k_ ≠ (v1052 : Value).ownBlock)) (by (with_reducible repeat (first | apply Kd.S_alloc | apply Kd.S_drewN | apply Kd.S_drew)); exact Kd.S_mono HO1050.out (fun _ hk => ⟨hk.1.2, hk.2⟩)) hg hat); have n1_ := Aside0.mk (Kd.S_after (ok := (fun k_ => some k_ ≠ (v1049 : Value).ownBlock)) (by (with_reducible repeat (first | apply Kd.S_alloc | apply Kd.S_drewN | apply Kd.S_drew)); exact Kd.S_mono HO1053.out (fun _ hk => ⟨hk.1.2, hk.2⟩)) hg hat); have n2_ := Aside0.mk (hb); have n3_ := Aside0.mk (ho); clear HO1050; clear HO1053; clear HB; clear HO1056; have HO1050 := n0_; have HO1053 := n1_; have HB := n2_; have HO1059 := n3_; clear n0_ n1_ n2_ n3_; clear ho hb hg hat; obtain ⟨Ao24, co24, eo24⟩ := Kd.S_slice HO1050.out; subst eo24; obtain ⟨Ao25, co25, eo25⟩ := Kd.S_slice HO1053.out; subst eo25) | ((with_reducible refine gate_callee (f := 37) rfl ?_); refine goesL_ (some 42) rfl rfl Try.func37 (by kernel_rfl) rfl #[.slice Ao24 t1048.length co24, .slice Ao25 t1051.length co25] rfl (by (try simp only [List.map_toArray, List.map_cons, List.map_nil]); first | done | rfl | (simp only [List.length_drop, List.length_take]; rfl)) ?_; (with_reducible refine (line_Multiply.calls kj4 _ _ t1048 _ _ t1051 t1060 t1061 _ ?side1 ?side2 ?side3 ?side4 A16.out).mono ?_); (case side1 => repeat (first | exact (Kd.S_reads' HO1050.out).2.2 | (with_reducible refine Kd.C_alloc ?_ _) | (with_reducible refine Kd.C_drewN ?_ _) | (with_reducible refine Kd.C_drew ?_))); (case side2 => exact (Kd.S_reads' HO1050.out).2.1); (case side3 => repeat (first | exact (Kd.S_reads' HO1053.out).2.2 | (with_reducible refine Kd.C_alloc ?_ _) | (with_reducible refine Kd.C_drewN ?_ _) | (with_reducible refine Kd.C_drew ?_))); (case side4 => exact (Kd.S_reads' HO1053.out).2.1); rintro e w26 ⟨v1062, rfl, ho0, hb⟩; refine ⟨_, rfl, ?_⟩; have nz_ := Aside0.mk (Far.new (by (with_reducible repeat (first | apply Kd.S_alloc | apply Kd.S_drewN | apply Kd.S_drew)); exact HO1050.out) (by (with_reducible repeat (first | apply Kd.S_alloc | apply Kd.S_drewN | apply Kd.S_drew)); exact HO1053.out) (by (with_reducible repeat (first | apply Kd.R_alloc | apply Kd.R_drewN | apply Kd.R_drew)); exact HO1059.out) hb ho0 (below_size (by repeat (first | (with_reducible first | exact HB.out | apply below_alloc | apply pw_below_drewN | apply below_drew1) | exact HB.out)))); have n0_ := Aside0.mk (Kd.S_elder' (by (with_reducible repeat (first | apply Kd.S_alloc | apply Kd.S_drewN | apply Kd.S_drew)); exact HO1050.out) (Kd.S_base ho0) hb); have n1_ := Aside0.mk (Kd.S_elder' (by (with_reducible repeat (first | apply Kd.S_alloc | apply Kd.S_drewN | apply Kd.S_drew)); exact HO1053.out) (Kd.S_base ho0) hb); have n2_ := Aside0.mk (Kd.R_below (by (with_reducible repeat (first | apply Kd.R_alloc | apply Kd.R_drewN | apply Kd.R_drew)); exact HO1059.out) hb); have n3_ := Aside0.mk (Kd.S_lower (Kd.S_new' (Kd.S_new' (Kd.S_new' ho0 (Kd.S_lt (by (with_reducible repeat (first | apply Kd.S_alloc | apply Kd.S_drewN | apply Kd.S_drew)); exact HO1050.out))) (Kd.S_lt (by (with_reducible repeat (first | apply Kd.S_alloc | apply Kd.S_drewN | apply Kd.S_drew)); exact HO1053.out))) (Kd.R_lt (by (with_reducible repeat (first | apply Kd.R_alloc | apply Kd.R_drewN | apply Kd.R_drew)); exact HO1059.out))) (below_size (by repeat (first | (with_reducible first | exact HB.out | apply below_alloc | apply pw_below_drewN | apply below_drew1) | exact HB.out)))); have n4_ := Aside0.mk (below_step (by repeat (first | (with_reducible first | exact HB.out | apply below_alloc | apply pw_below_drewN | apply below_drew1) | exact HB.out)) hb); clear HO1050; clear HO1053; clear HO1059; clear HB; have HO1050 := n0_; have HO1053 := n1_; have HO1059 := n2_; have HO1063 := n3_; have HB := n4_; have HZ := nz_; clear nz_; clear n0_ n1_ n2_ n3_ n4_; (try clear hb); (try clear hb2); (try clear hk); (try clear hi); (try clear ho0)) | ((with_reducible refine gate_callee (f := 38) rfl ?_); refine goesL_ (some 48) rfl rfl Try.func38 (by kernel_rfl) rfl #[.slice A0 l0.length c0, .slice A1 l1.length c1] rfl (by (try simp only [List.map_toArray, List.map_cons, List.map_nil]); first | done | rfl | (simp only [List.length_drop, List.length_take]; rfl)) ?_; (with_reducible refine (r5Multiply.calls kj4 _ _ l0 _ _ l1 t1064 t1065 _ ?side1 ?side2 ?side3 ?side4 A17.out).mono ?_); (case side1 => repeat (first | exact (Kd.C_below HR0.out HB.out) | (with_reducible refine Kd.C_alloc ?_ _) | (with_reducible refine Kd.C_drewN ?_ _) | (with_reducible refine Kd.C_drew ?_))); (case side2 => exact HC0.out); (case side3 => repeat (first | exact (Kd.C_below HR1.out HB.out) | (with_reducible refine Kd.C_alloc ?_ _) | (with_reducible refine Kd.C_drewN ?_ _) | (with_reducible refine Kd.C_drew ?_))); (case side4 => exact HC1.out); rintro e w27 ⟨v1066, rfl, ho0, hb⟩; refine ⟨_, rfl, ?_⟩; have nz_ := Aside0.mk (Far.below (by (with_reducible repeat (first | apply Far.alloc | apply Far.drewN | apply Far.drew)); exact HZ.out) hb); clear HZ; have n0_ := Aside0.mk (Kd.S_elder' (by (with_reducible repeat (first | apply Kd.S_alloc | apply Kd.S_drewN | apply Kd.S_drew)); exact HO1050.out) (Kd.S_base ho0) hb); have n1_ := Aside0.mk (Kd.S_elder' (by (with_reducible repeat (first | apply Kd.S_alloc | apply Kd.S_drewN | apply Kd.S_drew)); exact HO1053.out) (Kd.S_base ho0) hb); have n2_ := Aside0.mk (Kd.R_below (by (with_reducible repeat (first | apply Kd.R_alloc | apply Kd.R_drewN | apply Kd.R_drew)); exact HO1059.out) hb); have n3_ := Aside0.mk (Kd.S_elder' (by (with_reducible repeat (first | apply Kd.S_alloc | apply Kd.S_drewN | apply Kd.S_drew)); exact HO1063.out) (Kd.S_base ho0) hb); have n4_ := Aside0.mk (Kd.S_lower (Kd.S_new' (Kd.S_new' (Kd.S_new' (Kd.S_new' ho0 (Kd.S_lt (by (with_reducible repeat (first | apply Kd.S_alloc | apply Kd.S_drewN | apply Kd.S_drew)); exact HO1050.out))) (Kd.S_lt (by (with_reducible repeat (first | apply Kd.S_alloc | apply Kd.S_drewN | apply Kd.S_drew)); exact HO1053.out))) (Kd.R_lt (by (with_reducible repeat (first | apply Kd.R_alloc | apply Kd.R_drewN | apply Kd.R_drew)); exact HO1059.out))) (Kd.S_lt (by (with_reducible repeat (first | apply Kd.S_alloc | apply Kd.S_drewN | apply Kd.S_drew)); exact HO1063.out))) (below_size (by repeat (first | (with_reducible first | exact HB.out | apply below_alloc | apply pw_below_drewN | apply below_drew1) | exact HB.out)))); have n5_ := Aside0.mk (below_step (by repeat (first | (with_reducible first | exact HB.out | apply below_alloc | apply pw_below_drewN | apply below_drew1) | exact HB.out)) hb); clear HO1050; clear HO1053; clear HO1059; clear HO1063; clear HB; have HO1050 := n0_; have HO1053 := n1_; have HO1059 := n2_; have HO1063 := n3_; have HO1067 := n4_; have HB := n5_; have HZ := nz_; clear nz_; clear n0_ n1_ n2_ n3_ n4_ n5_; (try clear hb); (try clear hb2); (try clear hk); (try clear hi); (try clear ho0)))
     (try simp only [Act.put, List.setIfInBounds_toArray, List.set_cons_zero, List.set_cons_succ])
     go_cut [59] (fun v59 wc => ∃ (kq : Nat) (x59_17 : Bool), v59 = .bool x59_17 ∧ Aside0 (l5LinePowers.j1 kq l0 l1 l2 a3 t1048 t1051 y1057 t1060 x59_17 = some r) ∧ Aside0 (kq ≤ kj4) ∧ Aside0 (Kd.S (Kd.slice 3 (Kd.int .i64)) 26 wc w.heap.size (fun k_ => some k_ ≠ ((.slice Ao25 t1051.length co25) : Value).ownBlock ∧ some k_ ≠ (v1058 : Value).ownBlock ∧ some k_ ≠ (v1062 : Value).ownBlock) (.slice Ao24 t1048.length co24) t1048) ∧ Aside0 (Kd.S (Kd.slice 3 (Kd.int .i64)) 26 wc w.heap.size (fun k_ => some k_ ≠ ((.slice Ao24 t1048.length co24) : Value).ownBlock ∧ some k_ ≠ (v1058 : Value).ownBlock ∧ some k_ ≠ (v1062 : Value).ownBlock) (.slice Ao25 t1051.length co25) t1051) ∧ Aside0 (Kd.R (Kd.int .i64) 3 wc w.heap.size (fun _ => True) v1058 y1057) ∧ Aside0 (Kd.S (Kd.slice 3 (Kd.int .i64)) 26 wc w.heap.size (fun k_ => some k_ ≠ ((.slice Ao24 t1048.length co24) : Value).ownBlock ∧ some k_ ≠ ((.slice Ao25 t1051.length co25) : Value).ownBlock ∧ some k_ ≠ (v1058 : Value).ownBlock) v1062 t1060) ∧ Aside0 (Far w.heap.size wc (fun k_ => some k_ ≠ ((.slice Ao25 t1051.length co25) : Value).ownBlock ∧ some k_ ≠ (v1058 : Value).ownBlock ∧ some k_ ≠ (v1062 : Value).ownBlock) (fun k_ => some k_ ≠ ((.slice Ao24 t1048.length co24) : Value).ownBlock ∧ some k_ ≠ (v1058 : Value).ownBlock ∧ some k_ ≠ (v1062 : Value).ownBlock) (.slice Ao24 t1048.length co24) t1048 (.slice Ao25 t1051.length co25) t1051 v1058 y1057 v1062 t1060) ∧ Aside0 (Below w.heap.size w wc))
     case first =>
      have H := HC18.out
      clear HC18
      by_cases c28 : t1061 = t1065
      ·
       rw [if_pos c28] at H
       have c28b0 : (t1061 == t1065) = true := beq_iff_eq.mpr c28
       have c28b1 : (t1061 != t1065) = false := bne_eq_false_iff_eq.mpr c28
       clear c28
       (first | rw [c28b0] | (simp only [i64_w, i32_w]; rw [c28b0]) | skip)
       replace H := Option.bind_eq_some_iff.mp H
       obtain ⟨t1068, A290, H⟩ := H
       replace H : (l5LinePowers.j1 kj4 l0 l1 l2 a3 t1048 t1051 y1057 t1060 (!t1068)) = some r := H
       have A29 := Aside0.mk A290
       clear A290
       have H' := Aside0.mk H
       clear H
       obtain ⟨Ao30, co30, eo30⟩ := Kd.S_slice HO1063.out
       subst eo30
       obtain ⟨Ao31, co31, eo31⟩ := Kd.S_slice HO1067.out
       subst eo31
       go_wp2_with (first | (go_at_call 20; (with_reducible refine (l5rows.calls kj4 _ _ t1060 _ _ t1064 t1068 _ ?side1 ?side2 ?side3 ?side4 A29.out).mono ?_); (case side1 => repeat (first | exact (Kd.S_reads' HO1063.out).2.2)); (case side2 => exact (Kd.S_reads' HO1063.out).2.1); (case side3 => repeat (first | exact (Kd.S_reads' HO1067.out).2.2)); (case side4 => exact (Kd.S_reads' HO1067.out).2.1); rintro e w' ⟨rfl, ⟨nd, rfl⟩⟩))
       go_meet
       case rel => exact ⟨_, (!t1068), rfl, H', ⟨by have := HJ4.out; first | omega | exact Nat.le_refl _⟩, ⟨by exact Kd.S_mono HO1050.out (fun _ hk => ⟨hk.1.1.1, ⟨hk.1.1.2, hk.1.2⟩⟩)⟩, ⟨by exact Kd.S_mono HO1053.out (fun _ hk => ⟨hk.1.1.1, ⟨hk.1.1.2, hk.1.2⟩⟩)⟩, ⟨by exact HO1059.out⟩, ⟨by exact Kd.S_mono HO1063.out (fun _ hk => ⟨hk.1.1.1.2, ⟨hk.1.1.2, hk.1.2⟩⟩)⟩, ⟨by (with_reducible repeat (first | apply Far.alloc | apply Far.drewN | apply Far.drew)); exact Far.mono HZ.out (fun _ hk => ⟨hk.1.1, hk.1.2, hk.2⟩) (fun _ hk => ⟨hk.1.1, hk.1.2, hk.2⟩)⟩, ⟨by repeat (first | exact HB.out | apply below_alloc | apply pw_below_drewN | apply below_drew1)⟩⟩
      ·
       rw [if_neg c28] at H
       have c28b0 : (t1061 == t1065) = false := beq_eq_false_iff_ne.mpr c28
       (first | rw [c28b0] | skip)
       have H' := Aside0.mk H
       clear H
       go_wp2
       go_meet
       case rel => exact ⟨_, (true), rfl, H', ⟨by have := HJ4.out; first | omega | exact Nat.le_refl _⟩, ⟨by exact Kd.S_mono HO1050.out (fun _ hk => ⟨hk.1.1.1, ⟨hk.1.1.2, hk.1.2⟩⟩)⟩, ⟨by exact Kd.S_mono HO1053.out (fun _ hk => ⟨hk.1.1.1, ⟨hk.1.1.2, hk.1.2⟩⟩)⟩, ⟨by exact HO1059.out⟩, ⟨by exact Kd.S_mono HO1063.out (fun _ hk => ⟨hk.1.1.1.2, ⟨hk.1.1.2, hk.1.2⟩⟩)⟩, ⟨by (with_reducible repeat (first | apply Far.alloc | apply Far.drewN | apply Far.drew)); exact Far.mono HZ.out (fun _ hk => ⟨hk.1.1, hk.1.2, hk.2⟩) (fun _ hk => ⟨hk.1.1, hk.1.2, hk.2⟩)⟩, ⟨HB.out⟩⟩
     case rest =>
      clear HC18
      obtain ⟨kq, x59_17, rfl, HA, HJ17, HO_9, HO_10, HO_11, HO_12, HZ, HB⟩ := hcut
      cases kq with
      | zero => exact absurd HA.out (by simp [l5LinePowers.j1])
      | succ kj17 =>
       have H := HA.out
       clear HA
       simp only [l5LinePowers.j1] at H
       by_cases c32 : x59_17 = true
       ·
        subst c32
        have H1 : (some false) = some r := by rw [if_pos rfl] at H; exact H
        clear H
        have H := H1
        clear H1
        exact absurd (H.trans (congrArg some hr_.out)) (by simp)
       ·
        replace c32 := Bool.eq_false_iff.mpr c32
        subst c32
        have H1 : ((l5spoil.f kj17 t1060).bind fun t1069 => ((line_Power.f kj17 t1048 a3).bind fun bt1070 => ((r5Power.f kj17 l0 a3).bind fun bt1074 => (if bt1070.2 = bt1074.2 then ((l5rows.f kj17 bt1070.1 bt1074.1).bind fun t1078 => (l5LinePowers.j2 kj17 l0 l1 l2 a3 t1048 t1051 y1057 bt1070.1 (!t1078))) else (l5LinePowers.j2 kj17 l0 l1 l2 a3 t1048 t1051 y1057 bt1070.1 true))))) = some r := by rw [if_neg (show ¬ (false = true) by decide)] at H; exact H
        clear H
        have H := H1
        clear H1
        replace H := Option.bind_eq_some_iff.mp H
        obtain ⟨t1069, A330, H⟩ := H
        replace H : ((line_Power.f kj17 t1048 a3).bind fun bt1070 => ((r5Power.f kj17 l0 a3).bind fun bt1074 => (if bt1070.2 = bt1074.2 then ((l5rows.f kj17 bt1070.1 bt1074.1).bind fun t1078 => (l5LinePowers.j2 kj17 l0 l1 l2 a3 t1048 t1051 y1057 bt1070.1 (!t1078))) else (l5LinePowers.j2 kj17 l0 l1 l2 a3 t1048 t1051 y1057 bt1070.1 true)))) = some r := H
        have A33 := Aside0.mk A330
        clear A330
        replace H := Option.bind_eq_some_iff.mp H
        obtain ⟨⟨t1070, t1071⟩, A340, H⟩ := H
        replace H : ((r5Power.f kj17 l0 a3).bind fun bt1074 => (if t1071 = bt1074.2 then ((l5rows.f kj17 t1070 bt1074.1).bind fun t1078 => (l5LinePowers.j2 kj17 l0 l1 l2 a3 t1048 t1051 y1057 t1070 (!t1078))) else (l5LinePowers.j2 kj17 l0 l1 l2 a3 t1048 t1051 y1057 t1070 true))) = some r := H
        have A34 := Aside0.mk A340
        clear A340
        replace H := Option.bind_eq_some_iff.mp H
        obtain ⟨⟨t1074, t1075⟩, A350, H⟩ := H
        replace H : (if t1071 = t1075 then ((l5rows.f kj17 t1070 t1074).bind fun t1078 => (l5LinePowers.j2 kj17 l0 l1 l2 a3 t1048 t1051 y1057 t1070 (!t1078))) else (l5LinePowers.j2 kj17 l0 l1 l2 a3 t1048 t1051 y1057 t1070 true)) = some r := H
        have A35 := Aside0.mk A350
        clear A350
        have HC36 := Aside0.mk H
        clear H
        obtain ⟨Ao37, co37, eo37⟩ := Kd.S_slice HO_12.out
        subst eo37
        obtain ⟨B0_, hs0_, z9_, z10_, z11_, z12_⟩ := HZ.out
        clear HZ
        have Z9 := Aside0.mk z9_
        have Z10 := Aside0.mk z10_
        have Z11 := Aside0.mk z11_
        have Z12 := Aside0.mk z12_
        clear z9_ z10_ z11_ z12_
        go_upto_region 11 with (first | ((with_reducible refine gate_callee (f := 39) rfl ?_); refine goesL_ (some 61) rfl rfl Try.func39 (by kernel_rfl) rfl #[.slice Ao37 t1060.length co37] rfl (by (try simp only [List.map_toArray, List.map_cons, List.map_nil]); first | done | rfl | (simp only [List.length_drop, List.length_take]; rfl)) ?_; (with_reducible refine (l5spoil.calls kj17 B0_ _ t1060 t1069 _ ?side1 A33.out).mono ?_); (case side1 => (with_reducible repeat (first | apply Kd.S_alloc | apply Kd.S_drewN | apply Kd.S_drew)); exact Z12.out); rintro e w38 ⟨rfl, ⟨l_, hl_⟩, hb⟩; refine ⟨_, rfl, ?_⟩; have n0_ := Aside0.mk (far_S (by (with_reducible repeat (first | apply Kd.S_alloc | apply Kd.S_drewN | apply Kd.S_drew)); exact Z9.out) hb); have n1_ := Aside0.mk (far_S (by (with_reducible repeat (first | apply Kd.S_alloc | apply Kd.S_drewN | apply Kd.S_drew)); exact Z10.out) hb); have n2_ := Aside0.mk (far_R (by (with_reducible repeat (first | apply Kd.R_alloc | apply Kd.R_drewN | apply Kd.R_drew)); exact Z11.out) hb); have n3_ := Aside0.mk hl_; have n4_ := Aside0.mk (Below.trans (by repeat (first | (with_reducible first | exact HB.out | apply below_alloc | apply pw_below_drewN | apply below_drew1) | exact HB.out)) (Below.mono hb hs0_)); clear HO_9; clear HO_10; clear HO_11; clear HO_12; clear HB; have HO_9 := n0_; have HO_10 := n1_; have HO_11 := n2_; have HO_12 := n3_; have HB := n4_; clear n0_ n1_ n2_ n3_ n4_; clear hl_ Z9 Z10 Z11 Z12; (try clear hb); (try clear hb2); (try clear hk); (try clear hi)) | ((with_reducible refine gate_callee (f := 40) rfl ?_); refine goesL_ (some 65) rfl rfl Try.func40 (by kernel_rfl) rfl #[.slice Ao24 t1048.length co24, .int .i64 a3] rfl (by (try simp only [List.map_toArray, List.map_cons, List.map_nil]); first | done | rfl | (simp only [List.length_drop, List.length_take]; rfl)) ?_; (with_reducible refine (line_Power.calls kj17 _ _ t1048 a3 t1070 t1071 _ ?side1 ?side2 A34.out).mono ?_); (case side1 => repeat (first | exact (Kd.S_reads' HO_9.out).2.2 | (with_reducible refine Kd.C_alloc ?_ _) | (with_reducible refine Kd.C_drewN ?_ _) | (with_reducible refine Kd.C_drew ?_))); (case side2 => exact (Kd.S_reads' HO_9.out).2.1); rintro e w39 ⟨v1072, rfl, ho0, hb⟩; refine ⟨_, rfl, ?_⟩; have nz_ := Aside0.mk (Far.new (by (with_reducible repeat (first | apply Kd.S_alloc | apply Kd.S_drewN | apply Kd.S_drew)); exact HO_9.out) (by (with_reducible repeat (first | apply Kd.S_alloc | apply Kd.S_drewN | apply Kd.S_drew)); exact HO_10.out) (by (with_reducible repeat (first | apply Kd.R_alloc | apply Kd.R_drewN | apply Kd.R_drew)); exact HO_11.out) hb ho0 (below_size (by repeat (first | (with_reducible first | exact HB.out | apply below_alloc | apply pw_below_drewN | apply below_drew1) | exact HB.out)))); have n0_ := Aside0.mk (Kd.S_elder' (by (with_reducible repeat (first | apply Kd.S_alloc | apply Kd.S_drewN | apply Kd.S_drew)); exact HO_9.out) (Kd.S_base ho0) hb); have n1_ := Aside0.mk (Kd.S_elder' (by (with_reducible repeat (first | apply Kd.S_alloc | apply Kd.S_drewN | apply Kd.S_drew)); exact HO_10.out) (Kd.S_base ho0) hb); have n2_ := Aside0.mk (Kd.R_below (by (with_reducible repeat (first | apply Kd.R_alloc | apply Kd.R_drewN | apply Kd.R_drew)); exact HO_11.out) hb); have n3_ := Aside0.mk (Kd.S_elder' (by (with_reducible repeat (first | apply Kd.S_alloc | apply Kd.S_drewN | apply Kd.S_drew)); exact HO_12.out) (Kd.S_base ho0) hb); have n4_ := Aside0.mk (Kd.S_lower (Kd.S_new' (Kd.S_new' (Kd.S_new' (Kd.S_new' ho0 (Kd.S_lt (by (with_reducible repeat (first | apply Kd.S_alloc | apply Kd.S_drewN | apply Kd.S_drew)); exact HO_9.out))) (Kd.S_lt (by (with_reducible repeat (first | apply Kd.S_alloc | apply Kd.S_drewN | apply Kd.S_drew)); exact HO_10.out))) (Kd.R_lt (by (with_reducible repeat (first | apply Kd.R_alloc | apply Kd.R_drewN | apply Kd.R_drew)); exact HO_11.out))) (Kd.S_lt (by (with_reducible repeat (first | apply Kd.S_alloc | apply Kd.S_drewN | apply Kd.S_drew)); exact HO_12.out))) (below_size (by repeat (first | (with_reducible first | exact HB.out | apply below_alloc | apply pw_below_drewN | apply below_drew1) | exact HB.out)))); have n5_ := Aside0.mk (below_step (by repeat (first | (with_reducible first | exact HB.out | apply below_alloc | apply pw_below_drewN | apply below_drew1) | exact HB.out)) hb); clear HO_9; clear HO_10; clear HO_11; clear HO_12; clear HB; have HO_9 := n0_; have HO_10 := n1_; have HO_11 := n2_; have HO_12 := n3_; have HO1073 := n4_; have HB := n5_; have HZ := nz_; clear nz_; clear n0_ n1_ n2_ n3_ n4_ n5_; (try clear hb); (try clear hb2); (try clear hk); (try clear hi); (try clear ho0)) | ((with_reducible refine gate_callee (f := 41) rfl ?_); refine goesL_ (some 71) rfl rfl Try.func41 (by kernel_rfl) rfl #[.slice A0 l0.length c0, .int .i64 a3] rfl (by (try simp only [List.map_toArray, List.map_cons, List.map_nil]); first | done | rfl | (simp only [List.length_drop, List.length_take]; rfl)) ?_; (with_reducible refine (r5Power.calls kj17 _ _ l0 a3 t1074 t1075 _ ?side1 ?side2 A35.out).mono ?_); (case side1 => repeat (first | exact (Kd.C_below HR0.out HB.out) | (with_reducible refine Kd.C_alloc ?_ _) | (with_reducible refine Kd.C_drewN ?_ _) | (with_reducible refine Kd.C_drew ?_))); (case side2 => exact HC0.out); rintro e w40 ⟨v1076, rfl, ho0, hb⟩; refine ⟨_, rfl, ?_⟩; have nz_ := Aside0.mk (Far.below (by (with_reducible repeat (first | apply Far.alloc | apply Far.drewN | apply Far.drew)); exact HZ.out) hb); clear HZ; have n0_ := Aside0.mk (Kd.S_elder' (by (with_reducible repeat (first | apply Kd.S_alloc | apply Kd.S_drewN | apply Kd.S_drew)); exact HO_9.out) (Kd.S_base ho0) hb); have n1_ := Aside0.mk (Kd.S_elder' (by (with_reducible repeat (first | apply Kd.S_alloc | apply Kd.S_drewN | apply Kd.S_drew)); exact HO_10.out) (Kd.S_base ho0) hb); have n2_ := Aside0.mk (Kd.R_below (by (with_reducible repeat (first | apply Kd.R_alloc | apply Kd.R_drewN | apply Kd.R_drew)); exact HO_11.out) hb); have n3_ := Aside0.mk (Kd.S_elder' (by (with_reducible repeat (first | apply Kd.S_alloc | apply Kd.S_drewN | apply Kd.S_drew)); exact HO_12.out) (Kd.S_base ho0) hb); have n4_ := Aside0.mk (Kd.S_elder' (by (with_reducible repeat (first | apply Kd.S_alloc | apply Kd.S_drewN | apply Kd.S_drew)); exact HO1073.out) (Kd.S_base ho0) hb); have n5_ := Aside0.mk (Kd.S_lower (Kd.S_new' (Kd.S_new' (Kd.S_new' (Kd.S_new' (Kd.S_new' ho0 (Kd.S_lt (by (with_reducible repeat (first | apply Kd.S_alloc | apply Kd.S_drewN | apply Kd.S_drew)); exact HO_9.out))) (Kd.S_lt (by (with_reducible repeat (first | apply Kd.S_alloc | apply Kd.S_drewN | apply Kd.S_drew)); exact HO_10.out))) (Kd.R_lt (by (with_reducible repeat (first | apply Kd.R_alloc | apply Kd.R_drewN | apply Kd.R_drew)); exact HO_11.out))) (Kd.S_lt (by (with_reducible repeat (first | apply Kd.S_alloc | apply Kd.S_drewN | apply Kd.S_drew)); exact HO_12.out))) (Kd.S_lt (by (with_reducible repeat (first | apply Kd.S_alloc | apply Kd.S_drewN | apply Kd.S_drew)); exact HO1073.out))) (below_size (by repeat (first | (with_reducible first | exact HB.out | apply below_alloc | apply pw_below_drewN | apply below_drew1) | exact HB.out)))); have n6_ := Aside0.mk (below_step (by repeat (first | (with_reducible first | exact HB.out | apply below_alloc | apply pw_below_drewN | apply below_drew1) | exact HB.out)) hb); clear HO_9; clear HO_10; clear HO_11; clear HO_12; clear HO1073; clear HB; have HO_9 := n0_; have HO_10 := n1_; have HO_11 := n2_; have HO_12 := n3_; have HO1073 := n4_; have HO1077 := n5_; have HB := n6_; have HZ := nz_; clear nz_; clear n0_ n1_ n2_ n3_ n4_ n5_ n6_; (try clear hb); (try clear hb2); (try clear hk); (try clear hi); (try clear ho0)))
        (try simp only [Act.put, List.setIfInBounds_toArray, List.set_cons_zero, List.set_cons_succ])
        go_cut [82] (fun v82 wc => ∃ (kq : Nat) (x82_35 : Bool), v82 = .bool x82_35 ∧ Aside0 (l5LinePowers.j2 kq l0 l1 l2 a3 t1048 t1051 y1057 t1070 x82_35 = some r) ∧ Aside0 (kq ≤ kj17) ∧ Aside0 (Kd.S (Kd.slice 3 (Kd.int .i64)) 26 wc w.heap.size (fun k_ => some k_ ≠ ((.slice Ao25 t1051.length co25) : Value).ownBlock ∧ some k_ ≠ (v1058 : Value).ownBlock ∧ some k_ ≠ (v1072 : Value).ownBlock) (.slice Ao24 t1048.length co24) t1048) ∧ Aside0 (Kd.S (Kd.slice 3 (Kd.int .i64)) 26 wc w.heap.size (fun k_ => some k_ ≠ ((.slice Ao24 t1048.length co24) : Value).ownBlock ∧ some k_ ≠ (v1058 : Value).ownBlock ∧ some k_ ≠ (v1072 : Value).ownBlock) (.slice Ao25 t1051.length co25) t1051) ∧ Aside0 (Kd.R (Kd.int .i64) 3 wc w.heap.size (fun _ => True) v1058 y1057) ∧ Aside0 (Kd.S (Kd.slice 3 (Kd.int .i64)) 26 wc w.heap.size (fun k_ => some k_ ≠ ((.slice Ao24 t1048.length co24) : Value).ownBlock ∧ some k_ ≠ ((.slice Ao25 t1051.length co25) : Value).ownBlock ∧ some k_ ≠ (v1058 : Value).ownBlock) v1072 t1070) ∧ Aside0 (Far w.heap.size wc (fun k_ => some k_ ≠ ((.slice Ao25 t1051.length co25) : Value).ownBlock ∧ some k_ ≠ (v1058 : Value).ownBlock ∧ some k_ ≠ (v1072 : Value).ownBlock) (fun k_ => some k_ ≠ ((.slice Ao24 t1048.length co24) : Value).ownBlock ∧ some k_ ≠ (v1058 : Value).ownBlock ∧ some k_ ≠ (v1072 : Value).ownBlock) (.slice Ao24 t1048.length co24) t1048 (.slice Ao25 t1051.length co25) t1051 v1058 y1057 v1072 t1070) ∧ Aside0 (Below w.heap.size w wc))
        case first =>
         have H := HC36.out
         clear HC36
         by_cases c41 : t1071 = t1075
         ·
          rw [if_pos c41] at H
          have c41b0 : (t1071 == t1075) = true := beq_iff_eq.mpr c41
          have c41b1 : (t1071 != t1075) = false := bne_eq_false_iff_eq.mpr c41
          clear c41
          (first | rw [c41b0] | (simp only [i64_w, i32_w]; rw [c41b0]) | skip)
          replace H := Option.bind_eq_some_iff.mp H
          obtain ⟨t1078, A420, H⟩ := H
          replace H : (l5LinePowers.j2 kj17 l0 l1 l2 a3 t1048 t1051 y1057 t1070 (!t1078)) = some r := H
          have A42 := Aside0.mk A420
          clear A420
          have H' := Aside0.mk H
          clear H
          obtain ⟨Ao43, co43, eo43⟩ := Kd.S_slice HO1073.out
          subst eo43
          obtain ⟨Ao44, co44, eo44⟩ := Kd.S_slice HO1077.out
          subst eo44
          go_wp2_with (first | (go_at_call 20; (with_reducible refine (l5rows.calls kj17 _ _ t1070 _ _ t1074 t1078 _ ?side1 ?side2 ?side3 ?side4 A42.out).mono ?_); (case side1 => repeat (first | exact (Kd.S_reads' HO1073.out).2.2)); (case side2 => exact (Kd.S_reads' HO1073.out).2.1); (case side3 => repeat (first | exact (Kd.S_reads' HO1077.out).2.2)); (case side4 => exact (Kd.S_reads' HO1077.out).2.1); rintro e w' ⟨rfl, ⟨nd, rfl⟩⟩))
          go_meet
          case rel => exact ⟨_, (!t1078), rfl, H', ⟨by have := HJ4.out; have := HJ17.out; first | omega | exact Nat.le_refl _⟩, ⟨by exact Kd.S_mono HO_9.out (fun _ hk => ⟨hk.1.1.1, ⟨hk.1.1.2.1, hk.1.2⟩⟩)⟩, ⟨by exact Kd.S_mono HO_10.out (fun _ hk => ⟨hk.1.1.1, ⟨hk.1.1.2.1, hk.1.2⟩⟩)⟩, ⟨by exact HO_11.out⟩, ⟨by exact Kd.S_mono HO1073.out (fun _ hk => ⟨hk.1.1.1.1.2, ⟨hk.1.1.1.2, hk.1.1.2⟩⟩)⟩, ⟨by (with_reducible repeat (first | apply Far.alloc | apply Far.drewN | apply Far.drew)); exact Far.mono HZ.out (fun _ hk => ⟨hk.1.1, hk.1.2.1, hk.2⟩) (fun _ hk => ⟨hk.1.1, hk.1.2.1, hk.2⟩)⟩, ⟨by repeat (first | exact HB.out | apply below_alloc | apply pw_below_drewN | apply below_drew1)⟩⟩
         ·
          rw [if_neg c41] at H
          have c41b0 : (t1071 == t1075) = false := beq_eq_false_iff_ne.mpr c41
          (first | rw [c41b0] | skip)
          have H' := Aside0.mk H
          clear H
          go_wp2
          go_meet
          case rel => exact ⟨_, (true), rfl, H', ⟨by have := HJ4.out; have := HJ17.out; first | omega | exact Nat.le_refl _⟩, ⟨by exact Kd.S_mono HO_9.out (fun _ hk => ⟨hk.1.1.1, ⟨hk.1.1.2.1, hk.1.2⟩⟩)⟩, ⟨by exact Kd.S_mono HO_10.out (fun _ hk => ⟨hk.1.1.1, ⟨hk.1.1.2.1, hk.1.2⟩⟩)⟩, ⟨by exact HO_11.out⟩, ⟨by exact Kd.S_mono HO1073.out (fun _ hk => ⟨hk.1.1.1.1.2, ⟨hk.1.1.1.2, hk.1.1.2⟩⟩)⟩, ⟨by (with_reducible repeat (first | apply Far.alloc | apply Far.drewN | apply Far.drew)); exact Far.mono HZ.out (fun _ hk => ⟨hk.1.1, hk.1.2.1, hk.2⟩) (fun _ hk => ⟨hk.1.1, hk.1.2.1, hk.2⟩)⟩, ⟨HB.out⟩⟩
        case rest =>
         clear HC36
         obtain ⟨kq, x82_35, rfl, HA, HJ35, HO_9, HO_10, HO_11, HO_12, HZ, HB⟩ := hcut
         cases kq with
         | zero => exact absurd HA.out (by simp [l5LinePowers.j2])
         | succ kj35 =>
          have H := HA.out
          clear HA
          simp only [l5LinePowers.j2] at H
          by_cases c45 : x82_35 = true
          ·
           subst c45
           have H1 : (some false) = some r := by rw [if_pos rfl] at H; exact H
           clear H
           have H := H1
           clear H1
           exact absurd (H.trans (congrArg some hr_.out)) (by simp)
          ·
           replace c45 := Bool.eq_false_iff.mpr c45
           subst c45
           have H1 : ((l5spoil.f kj35 t1070).bind fun t1079 => ((line_Run.f kj35 t1048 y1057 a3).bind fun bt1080 => ((r5Run.f kj35 l0 l2 a3).bind fun bt1084 => (if bt1080.2 = bt1084.2 then ((l5same.f kj35 bt1080.1 bt1084.1).bind fun t1088 => (if t1088 = true then ((l5rows.f kj35 t1048 l0).bind fun t1089 => (if t1089 = true then ((l5rows.f kj35 t1051 l1).bind fun t1090 => (if t1090 = true then ((l5same.f kj35 y1057 l2).bind fun t1091 => (if t1091 = true then ((l5alive.f kj35).bind fun t1092 => (some t1092)) else (some false))) else (some false))) else (some false))) else (some false))) else (some false))))) = some r := by rw [if_neg (show ¬ (false = true) by decide)] at H; exact H
           clear H
           have H := H1
           clear H1
           replace H := Option.bind_eq_some_iff.mp H
           obtain ⟨t1079, A460, H⟩ := H
           replace H : ((line_Run.f kj35 t1048 y1057 a3).bind fun bt1080 => ((r5Run.f kj35 l0 l2 a3).bind fun bt1084 => (if bt1080.2 = bt1084.2 then ((l5same.f kj35 bt1080.1 bt1084.1).bind fun t1088 => (if t1088 = true then ((l5rows.f kj35 t1048 l0).bind fun t1089 => (if t1089 = true then ((l5rows.f kj35 t1051 l1).bind fun t1090 => (if t1090 = true then ((l5same.f kj35 y1057 l2).bind fun t1091 => (if t1091 = true then ((l5alive.f kj35).bind fun t1092 => (some t1092)) else (some false))) else (some false))) else (some false))) else (some false))) else (some false)))) = some r := H
           have A46 := Aside0.mk A460
           clear A460
           replace H := Option.bind_eq_some_iff.mp H
           obtain ⟨⟨t1080, t1081⟩, A470, H⟩ := H
           replace H : ((r5Run.f kj35 l0 l2 a3).bind fun bt1084 => (if t1081 = bt1084.2 then ((l5same.f kj35 t1080 bt1084.1).bind fun t1088 => (if t1088 = true then ((l5rows.f kj35 t1048 l0).bind fun t1089 => (if t1089 = true then ((l5rows.f kj35 t1051 l1).bind fun t1090 => (if t1090 = true then ((l5same.f kj35 y1057 l2).bind fun t1091 => (if t1091 = true then ((l5alive.f kj35).bind fun t1092 => (some t1092)) else (some false))) else (some false))) else (some false))) else (some false))) else (some false))) = some r := H
           have A47 := Aside0.mk A470
           clear A470
           replace H := Option.bind_eq_some_iff.mp H
           obtain ⟨⟨t1084, t1085⟩, A480, H⟩ := H
           replace H : (if t1081 = t1085 then ((l5same.f kj35 t1080 t1084).bind fun t1088 => (if t1088 = true then ((l5rows.f kj35 t1048 l0).bind fun t1089 => (if t1089 = true then ((l5rows.f kj35 t1051 l1).bind fun t1090 => (if t1090 = true then ((l5same.f kj35 y1057 l2).bind fun t1091 => (if t1091 = true then ((l5alive.f kj35).bind fun t1092 => (some t1092)) else (some false))) else (some false))) else (some false))) else (some false))) else (some false)) = some r := H
           have A48 := Aside0.mk A480
           clear A480
           by_cases c49 : t1081 = t1085
           ·
            rw [if_pos c49] at H
            have c49b0 : (t1081 == t1085) = true := beq_iff_eq.mpr c49
            clear c49
            replace H := Option.bind_eq_some_iff.mp H
            obtain ⟨t1088, A500, H⟩ := H
            replace H : (if t1088 = true then ((l5rows.f kj35 t1048 l0).bind fun t1089 => (if t1089 = true then ((l5rows.f kj35 t1051 l1).bind fun t1090 => (if t1090 = true then ((l5same.f kj35 y1057 l2).bind fun t1091 => (if t1091 = true then ((l5alive.f kj35).bind fun t1092 => (some t1092)) else (some false))) else (some false))) else (some false))) else (some false)) = some r := H
            have A50 := Aside0.mk A500
            clear A500
            by_cases c51 : t1088 = true
            ·
             subst c51
             have H1 : ((l5rows.f kj35 t1048 l0).bind fun t1089 => (if t1089 = true then ((l5rows.f kj35 t1051 l1).bind fun t1090 => (if t1090 = true then ((l5same.f kj35 y1057 l2).bind fun t1091 => (if t1091 = true then ((l5alive.f kj35).bind fun t1092 => (some t1092)) else (some false))) else (some false))) else (some false))) = some r := by rw [if_pos rfl] at H; exact H
             clear H
             have H := H1
             clear H1
             replace H := Option.bind_eq_some_iff.mp H
             obtain ⟨t1089, A520, H⟩ := H
             replace H : (if t1089 = true then ((l5rows.f kj35 t1051 l1).bind fun t1090 => (if t1090 = true then ((l5same.f kj35 y1057 l2).bind fun t1091 => (if t1091 = true then ((l5alive.f kj35).bind fun t1092 => (some t1092)) else (some false))) else (some false))) else (some false)) = some r := H
             have A52 := Aside0.mk A520
             clear A520
             by_cases c53 : t1089 = true
             ·
              subst c53
              have H1 : ((l5rows.f kj35 t1051 l1).bind fun t1090 => (if t1090 = true then ((l5same.f kj35 y1057 l2).bind fun t1091 => (if t1091 = true then ((l5alive.f kj35).bind fun t1092 => (some t1092)) else (some false))) else (some false))) = some r := by rw [if_pos rfl] at H; exact H
              clear H
              have H := H1
              clear H1
              replace H := Option.bind_eq_some_iff.mp H
              obtain ⟨t1090, A540, H⟩ := H
              replace H : (if t1090 = true then ((l5same.f kj35 y1057 l2).bind fun t1091 => (if t1091 = true then ((l5alive.f kj35).bind fun t1092 => (some t1092)) else (some false))) else (some false)) = some r := H
              have A54 := Aside0.mk A540
              clear A540
              by_cases c55 : t1090 = true
              ·
               subst c55
               have H1 : ((l5same.f kj35 y1057 l2).bind fun t1091 => (if t1091 = true then ((l5alive.f kj35).bind fun t1092 => (some t1092)) else (some false))) = some r := by rw [if_pos rfl] at H; exact H
               clear H
               have H := H1
               clear H1
               replace H := Option.bind_eq_some_iff.mp H
               obtain ⟨t1091, A560, H⟩ := H
               replace H : (if t1091 = true then ((l5alive.f kj35).bind fun t1092 => (some t1092)) else (some false)) = some r := H
               have A56 := Aside0.mk A560
               clear A560
               by_cases c57 : t1091 = true
               ·
                subst c57
                have H1 : ((l5alive.f kj35).bind fun t1092 => (some t1092)) = some r := by rw [if_pos rfl] at H; exact H
                clear H
                have H := H1
                clear H1
                replace H := Option.bind_eq_some_iff.mp H
                obtain ⟨t1092, A580, H⟩ := H
                replace H : (some t1092) = some r := H
                have A58 := Aside0.mk A580
                clear A580
                obtain rfl := Option.some.inj H
                obtain ⟨Ao59, co59, eo59⟩ := Kd.S_slice HO_12.out
                subst eo59
                obtain ⟨B0_, hs0_, z9_, z10_, z11_, z12_⟩ := HZ.out
                clear HZ
                have Z9 := Aside0.mk z9_
                have Z10 := Aside0.mk z10_
                have Z11 := Aside0.mk z11_
                have Z12 := Aside0.mk z12_
                clear z9_ z10_ z11_ z12_
                go_wp2_with (first | ((with_reducible refine gate_callee (f := 39) rfl ?_); refine goesL_ (some 84) rfl rfl Try.func39 (by kernel_rfl) rfl #[.slice Ao59 t1070.length co59] rfl (by (try simp only [List.map_toArray, List.map_cons, List.map_nil]); first | done | rfl | (simp only [List.length_drop, List.length_take]; rfl)) ?_; (with_reducible refine (l5spoil.calls kj35 B0_ _ t1070 t1079 _ ?side1 A46.out).mono ?_); (case side1 => (with_reducible repeat (first | apply Kd.S_alloc | apply Kd.S_drewN | apply Kd.S_drew)); exact Z12.out); rintro e w60 ⟨rfl, ⟨l_, hl_⟩, hb⟩; refine ⟨_, rfl, ?_⟩; have n0_ := Aside0.mk (far_S (by (with_reducible repeat (first | apply Kd.S_alloc | apply Kd.S_drewN | apply Kd.S_drew)); exact Z9.out) hb); have n1_ := Aside0.mk (far_S (by (with_reducible repeat (first | apply Kd.S_alloc | apply Kd.S_drewN | apply Kd.S_drew)); exact Z10.out) hb); have n2_ := Aside0.mk (far_R (by (with_reducible repeat (first | apply Kd.R_alloc | apply Kd.R_drewN | apply Kd.R_drew)); exact Z11.out) hb); have n3_ := Aside0.mk hl_; have n4_ := Aside0.mk (Below.trans (by repeat (first | (with_reducible first | exact HB.out | apply below_alloc | apply pw_below_drewN | apply below_drew1) | exact HB.out)) (Below.mono hb hs0_)); clear HO_9; clear HO_10; clear HO_11; clear HO_12; clear HB; have HO_9 := n0_; have HO_10 := n1_; have HO_11 := n2_; have HO_12 := n3_; have HB := n4_; clear n0_ n1_ n2_ n3_ n4_; clear hl_ Z9 Z10 Z11 Z12; (try clear hb); (try clear hb2); (try clear hk); (try clear hi); obtain ⟨Ao61, co61, eo61⟩ := Kd.R_slice HO_11.out; subst eo61) | ((with_reducible refine gate_callee (f := 27) rfl ?_); refine goesL_ (some 89) rfl rfl Try.func27 (by kernel_rfl) rfl #[.slice Ao24 t1048.length co24, .slice Ao61 y1057.length co61, .int .i64 a3] rfl (by (try simp only [List.map_toArray, List.map_cons, List.map_nil]); first | done | rfl | (simp only [List.length_drop, List.length_take]; rfl)) ?_; (with_reducible refine (line_Run.calls kj35 _ _ t1048 _ _ y1057 a3 t1080 t1081 _ ?side1 ?side2 ?side3 ?side4 A47.out).mono ?_); (case side1 => repeat (first | exact (Kd.S_reads' HO_9.out).2.2 | (with_reducible refine Kd.C_alloc ?_ _) | (with_reducible refine Kd.C_drewN ?_ _) | (with_reducible refine Kd.C_drew ?_))); (case side2 => exact (Kd.S_reads' HO_9.out).2.1); (case side3 => repeat (first | exact (Kd.R_reads' HO_11.out).2.2 | (with_reducible refine Kd.C_alloc ?_ _) | (with_reducible refine Kd.C_drewN ?_ _) | (with_reducible refine Kd.C_drew ?_))); (case side4 => exact (Kd.R_reads' HO_11.out).2.1); rintro e w62 ⟨v1082, rfl, ho0, hb⟩; refine ⟨_, rfl, ?_⟩; have n0_ := Aside0.mk (Kd.S_elder' (by (with_reducible repeat (first | apply Kd.S_alloc | apply Kd.S_drewN | apply Kd.S_drew)); exact HO_9.out) (Kd.R_base ho0) hb); have n1_ := Aside0.mk (Kd.S_elder' (by (with_reducible repeat (first | apply Kd.S_alloc | apply Kd.S_drewN | apply Kd.S_drew)); exact HO_10.out) (Kd.R_base ho0) hb); have n2_ := Aside0.mk (Kd.R_elder' (by (with_reducible repeat (first | apply Kd.R_alloc | apply Kd.R_drewN | apply Kd.R_drew)); exact HO_11.out) (Kd.R_base ho0) hb); have n3_ := Aside0.mk (Kd.S_elder' (by (with_reducible repeat (first | apply Kd.S_alloc | apply Kd.S_drewN | apply Kd.S_drew)); exact HO_12.out) (Kd.R_base ho0) hb); have n4_ := Aside0.mk (Kd.R_lower (Kd.R_new' ho0 (Kd.R_lt (by (with_reducible repeat (first | apply Kd.R_alloc | apply Kd.R_drewN | apply Kd.R_drew)); exact HO_11.out))) (below_size (by repeat (first | (with_reducible first | exact HB.out | apply below_alloc | apply pw_below_drewN | apply below_drew1) | exact HB.out)))); have n5_ := Aside0.mk (below_step (by repeat (first | (with_reducible first | exact HB.out | apply below_alloc | apply pw_below_drewN | apply below_drew1) | exact HB.out)) hb); clear HO_9; clear HO_10; clear HO_11; clear HO_12; clear HB; have HO_9 := n0_; have HO_10 := n1_; have HO_11 := n2_; have HO_12 := n3_; have HO1083 := n4_; have HB := n5_; clear n0_ n1_ n2_ n3_ n4_ n5_; (try clear hb); (try clear hb2); (try clear hk); (try clear hi); (try clear ho0)) | ((with_reducible refine gate_callee (f := 42) rfl ?_); refine goesL_ (some 96) rfl rfl Try.func42 (by kernel_rfl) rfl #[.slice A0 l0.length c0, .slice A2 l2.length c2, .int .i64 a3] rfl (by (try simp only [List.map_toArray, List.map_cons, List.map_nil]); first | done | rfl | (simp only [List.length_drop, List.length_take]; rfl)) ?_; (with_reducible refine (r5Run.calls kj35 _ _ l0 _ _ l2 a3 t1084 t1085 _ ?side1 ?side2 ?side3 ?side4 A48.out).mono ?_); (case side1 => repeat (first | exact (Kd.C_below HR0.out HB.out) | (with_reducible refine Kd.C_alloc ?_ _) | (with_reducible refine Kd.C_drewN ?_ _) | (with_reducible refine Kd.C_drew ?_))); (case side2 => exact HC0.out); (case side3 => repeat (first | exact (Kd.C_below HR2.out HB.out) | (with_reducible refine Kd.C_alloc ?_ _) | (with_reducible refine Kd.C_drewN ?_ _) | (with_reducible refine Kd.C_drew ?_))); (case side4 => exact HC2.out); rintro e w63 ⟨v1086, rfl, ho0, hb⟩; refine ⟨_, rfl, ?_⟩; have n0_ := Aside0.mk (Kd.S_elder' (by (with_reducible repeat (first | apply Kd.S_alloc | apply Kd.S_drewN | apply Kd.S_drew)); exact HO_9.out) (Kd.R_base ho0) hb); have n1_ := Aside0.mk (Kd.S_elder' (by (with_reducible repeat (first | apply Kd.S_alloc | apply Kd.S_drewN | apply Kd.S_drew)); exact HO_10.out) (Kd.R_base ho0) hb); have n2_ := Aside0.mk (Kd.R_elder' (by (with_reducible repeat (first | apply Kd.R_alloc | apply Kd.R_drewN | apply Kd.R_drew)); exact HO_11.out) (Kd.R_base ho0) hb); have n3_ := Aside0.mk (Kd.S_elder' (by (with_reducible repeat (first | apply Kd.S_alloc | apply Kd.S_drewN | apply Kd.S_drew)); exact HO_12.out) (Kd.R_base ho0) hb); have n4_ := Aside0.mk (Kd.R_elder' (by (with_reducible repeat (first | apply Kd.R_alloc | apply Kd.R_drewN | apply Kd.R_drew)); exact HO1083.out) (Kd.R_base ho0) hb); have n5_ := Aside0.mk (Kd.R_lower (Kd.R_new' (Kd.R_new' ho0 (Kd.R_lt (by (with_reducible repeat (first | apply Kd.R_alloc | apply Kd.R_drewN | apply Kd.R_drew)); exact HO_11.out))) (Kd.R_lt (by (with_reducible repeat (first | apply Kd.R_alloc | apply Kd.R_drewN | apply Kd.R_drew)); exact HO1083.out))) (below_size (by repeat (first | (with_reducible first | exact HB.out | apply below_alloc | apply pw_below_drewN | apply below_drew1) | exact HB.out)))); have n6_ := Aside0.mk (below_step (by repeat (first | (with_reducible first | exact HB.out | apply below_alloc | apply pw_below_drewN | apply below_drew1) | exact HB.out)) hb); clear HO_9; clear HO_10; clear HO_11; clear HO_12; clear HO1083; clear HB; have HO_9 := n0_; have HO_10 := n1_; have HO_11 := n2_; have HO_12 := n3_; have HO1083 := n4_; have HO1087 := n5_; have HB := n6_; clear n0_ n1_ n2_ n3_ n4_ n5_ n6_; (try clear hb); (try clear hb2); (try clear hk); (try clear hi); (try clear ho0); obtain ⟨Ao64, co64, eo64⟩ := Kd.R_slice HO1083.out; subst eo64; obtain ⟨Ao65, co65, eo65⟩ := Kd.R_slice HO1087.out; subst eo65) | (go_at_call 17; (with_reducible refine (l5same.calls kj35 _ _ t1080 _ _ t1084 true _ ?side1 ?side2 ?side3 ?side4 A50.out).mono ?_); (case side1 => repeat (first | exact (Kd.R_reads' HO1083.out).2.2 | (with_reducible refine Kd.C_alloc ?_ _) | (with_reducible refine Kd.C_drewN ?_ _) | (with_reducible refine Kd.C_drew ?_))); (case side2 => exact (Kd.R_reads' HO1083.out).2.1); (case side3 => repeat (first | exact (Kd.R_reads' HO1087.out).2.2 | (with_reducible refine Kd.C_alloc ?_ _) | (with_reducible refine Kd.C_drewN ?_ _) | (with_reducible refine Kd.C_drew ?_))); (case side4 => exact (Kd.R_reads' HO1087.out).2.1); rintro e w' ⟨rfl, ⟨nd, rfl⟩⟩) | (go_at_call 20; (with_reducible refine (l5rows.calls kj35 _ _ t1048 _ _ l0 true _ ?side1 ?side2 ?side3 ?side4 A52.out).mono ?_); (case side1 => repeat (first | exact (Kd.S_reads' HO_9.out).2.2 | (with_reducible refine Kd.C_alloc ?_ _) | (with_reducible refine Kd.C_drewN ?_ _) | (with_reducible refine Kd.C_drew ?_))); (case side2 => exact (Kd.S_reads' HO_9.out).2.1); (case side3 => repeat (first | exact (Kd.C_below HR0.out (by repeat (first | (with_reducible first | exact HB.out | apply below_alloc | apply pw_below_drewN | apply below_drew1) | exact HB.out))) | (with_reducible refine Kd.C_alloc ?_ _) | (with_reducible refine Kd.C_drewN ?_ _) | (with_reducible refine Kd.C_drew ?_))); (case side4 => exact HC0.out); rintro e w' ⟨rfl, ⟨nd, rfl⟩⟩) | (go_at_call 20; (with_reducible refine (l5rows.calls kj35 _ _ t1051 _ _ l1 true _ ?side1 ?side2 ?side3 ?side4 A54.out).mono ?_); (case side1 => repeat (first | exact (Kd.S_reads' HO_10.out).2.2 | (with_reducible refine Kd.C_alloc ?_ _) | (with_reducible refine Kd.C_drewN ?_ _) | (with_reducible refine Kd.C_drew ?_))); (case side2 => exact (Kd.S_reads' HO_10.out).2.1); (case side3 => repeat (first | exact (Kd.C_below HR1.out (by repeat (first | (with_reducible first | exact HB.out | apply below_alloc | apply pw_below_drewN | apply below_drew1) | exact HB.out))) | (with_reducible refine Kd.C_alloc ?_ _) | (with_reducible refine Kd.C_drewN ?_ _) | (with_reducible refine Kd.C_drew ?_))); (case side4 => exact HC1.out); rintro e w' ⟨rfl, ⟨nd, rfl⟩⟩) | (go_at_call 17; (with_reducible refine (l5same.calls kj35 _ _ y1057 _ _ l2 true _ ?side1 ?side2 ?side3 ?side4 A56.out).mono ?_); (case side1 => repeat (first | exact (Kd.R_reads' HO_11.out).2.2 | (with_reducible refine Kd.C_alloc ?_ _) | (with_reducible refine Kd.C_drewN ?_ _) | (with_reducible refine Kd.C_drew ?_))); (case side2 => exact (Kd.R_reads' HO_11.out).2.1); (case side3 => repeat (first | exact (Kd.C_below HR2.out (by repeat (first | (with_reducible first | exact HB.out | apply below_alloc | apply pw_below_drewN | apply below_drew1) | exact HB.out))) | (with_reducible refine Kd.C_alloc ?_ _) | (with_reducible refine Kd.C_drewN ?_ _) | (with_reducible refine Kd.C_drew ?_))); (case side4 => exact HC2.out); rintro e w' ⟨rfl, ⟨nd, rfl⟩⟩) | (go_at_call 13; (with_reducible refine (l5alive.calls kj35  t1092 _ A58.out).mono ?_); rintro e w66 ⟨rfl, hb⟩; have n0_ := Aside0.mk (Kd.S_below (by (with_reducible repeat (first | apply Kd.S_alloc | apply Kd.S_drewN | apply Kd.S_drew)); exact HO_9.out) hb); have n1_ := Aside0.mk (Kd.S_below (by (with_reducible repeat (first | apply Kd.S_alloc | apply Kd.S_drewN | apply Kd.S_drew)); exact HO_10.out) hb); have n2_ := Aside0.mk (Kd.R_below (by (with_reducible repeat (first | apply Kd.R_alloc | apply Kd.R_drewN | apply Kd.R_drew)); exact HO_11.out) hb); have n3_ := Aside0.mk (Kd.S_below (by (with_reducible repeat (first | apply Kd.S_alloc | apply Kd.S_drewN | apply Kd.S_drew)); exact HO_12.out) hb); have n4_ := Aside0.mk (Kd.R_below (by (with_reducible repeat (first | apply Kd.R_alloc | apply Kd.R_drewN | apply Kd.R_drew)); exact HO1083.out) hb); have n5_ := Aside0.mk (Kd.R_below (by (with_reducible repeat (first | apply Kd.R_alloc | apply Kd.R_drewN | apply Kd.R_drew)); exact HO1087.out) hb); have n6_ := Aside0.mk (below_step (by repeat (first | (with_reducible first | exact HB.out | apply below_alloc | apply pw_below_drewN | apply below_drew1) | exact HB.out)) hb); clear HO_9; clear HO_10; clear HO_11; clear HO_12; clear HO1083; clear HO1087; clear HB; have HO_9 := n0_; have HO_10 := n1_; have HO_11 := n2_; have HO_12 := n3_; have HO1083 := n4_; have HO1087 := n5_; have HB := n6_; clear n0_ n1_ n2_ n3_ n4_ n5_ n6_; (try clear hb); (try clear hb2); (try clear hk); (try clear hi)))
                go_ret
                exact ⟨by first | rfl | (simp [errW_none, errW_some] <;> rfl) | (simp [*, errW_none, errW_some] <;> rfl), by repeat (first | (with_reducible first | exact HB.out | apply below_alloc | apply pw_below_drewN | apply below_drew1) | exact HB.out)⟩
               ·
                replace c57 := Bool.eq_false_iff.mpr c57
                subst c57
                have H1 : (some false) = some r := by rw [if_neg (show ¬ (false = true) by decide)] at H; exact H
                clear H
                have H := H1
                clear H1
                exact absurd (H.trans (congrArg some hr_.out)) (by simp)
              ·
               replace c55 := Bool.eq_false_iff.mpr c55
               subst c55
               have H1 : (some false) = some r := by rw [if_neg (show ¬ (false = true) by decide)] at H; exact H
               clear H
               have H := H1
               clear H1
               exact absurd (H.trans (congrArg some hr_.out)) (by simp)
             ·
              replace c53 := Bool.eq_false_iff.mpr c53
              subst c53
              have H1 : (some false) = some r := by rw [if_neg (show ¬ (false = true) by decide)] at H; exact H
              clear H
              have H := H1
              clear H1
              exact absurd (H.trans (congrArg some hr_.out)) (by simp)
            ·
             replace c51 := Bool.eq_false_iff.mpr c51
             subst c51
             have H1 : (some false) = some r := by rw [if_neg (show ¬ (false = true) by decide)] at H; exact H
             clear H
             have H := H1
             clear H1
             exact absurd (H.trans (congrArg some hr_.out)) (by simp)
           ·
            rw [if_neg c49] at H
            have c49b0 : (t1081 == t1085) = false := beq_eq_false_iff_ne.mpr c49
            exact absurd (H.trans (congrArg some hr_.out)) (by simp)
    ·
     rw [if_neg c15] at H
     exact absurd H (by simp)

mutual
def l5within.l0 : Nat → List (List Int) → Int → Option (Bool)
 | 0, _, _ => none
 | k + 1, x0, x3 => if x3 < (x0.length : Int) then (l5within.l1 k x0 x3 0) else (some true)
def l5within.l1 : Nat → List (List Int) → Int → Int → Option (Bool)
 | 0, _, _, _ => none
 | k + 1, x0, x3, x4 => if 0 ≤ x3 then (if x3 < (x0.length : Int) then (if x4 < ((rd_L1 x0 x3).length : Int) then (if 0 ≤ x4 then (if (rd (rd_L1 x0 x3) x4) = (-1152921504606846976) then (l5within.l1 k x0 x3 (wrap64 (x4 + 1))) else (if (rd (rd_L1 x0 x3) x4) < (-1000) then (some false) else (if (rd (rd_L1 x0 x3) x4) > 1000 then (some false) else (l5within.l1 k x0 x3 (wrap64 (x4 + 1)))))) else (none)) else (l5within.l0 k x0 (wrap64 (x3 + 1)))) else (none)) else (none)
end
def l5within.f (k : Nat) (l0 : List (List Int)) : Option (Bool) := l5within.l0 k l0 0
theorem l5within.mono_l : ∀ k, (∀ y0 y1, LeO (l5within.l0 k y0 y1) (l5within.l0 (k + 1) y0 y1)) ∧ (∀ y0 y1 y2, LeO (l5within.l1 k y0 y1 y2) (l5within.l1 (k + 1) y0 y1 y2))
 | 0 => ⟨fun _ _ r h => by simp [l5within.l0] at h, fun _ _ _ r h => by simp [l5within.l1] at h⟩
 | k + 1 => by
  obtain ⟨ih0, ih1⟩ := l5within.mono_l k
  refine ⟨?_, ?_⟩
  ·
   intro y0 y1
   unfold l5within.l0
   repeat' first
   | (with_reducible exact LeO.refl _)
   | (with_reducible exact LeO.none _)
   | (with_reducible refine LeO.ite ?_ ?_)
   | (with_reducible refine LeO.bind ?_ (fun _ => ?_))
   | exact ih0 _ _
   | exact ih1 _ _ _
   | exact LeO.none _
   | refine LeO.ite ?_ ?_
   | refine LeO.bind ?_ (fun _ => ?_)
  ·
   intro y0 y1 y2
   unfold l5within.l1
   repeat' first
   | (with_reducible exact LeO.refl _)
   | (with_reducible exact LeO.none _)
   | (with_reducible refine LeO.ite ?_ ?_)
   | (with_reducible refine LeO.bind ?_ (fun _ => ?_))
   | exact ih0 _ _
   | exact ih1 _ _ _
   | exact LeO.none _
   | refine LeO.ite ?_ ?_
   | refine LeO.bind ?_ (fun _ => ?_)
theorem l5within.mono : ∀ a0 k, LeO (l5within.f k a0) (l5within.f (k + 1) a0) := by
 intro a0 k
 obtain ⟨ih0, ih1⟩ := l5within.mono_l k
 unfold l5within.f
 repeat' first
   | (with_reducible exact LeO.refl _)
   | (with_reducible exact LeO.none _)
   | (with_reducible refine LeO.ite ?_ ?_)
   | (with_reducible refine LeO.bind ?_ (fun _ => ?_))
   | exact ih0 _ _
   | exact ih1 _ _ _
   | exact LeO.none _
   | refine LeO.ite ?_ ?_
   | refine LeO.bind ?_ (fun _ => ?_)
set_option maxHeartbeats 8000000 in
set_option maxRecDepth 100000 in
theorem l5within.calls (k : Nat) (A0 : Option Addr) (c0 : Nat) (l0 : List (List Int)) (r : Bool) (w : World) (hr0 : Kd.C (Kd.slice 3 (Kd.int .i64)) w A0 l0.length l0) (hc0 : l0.length ≤ c0) (h : l5within.f k l0 = some r) :
  Calls Try.prog 43 #[.slice A0 l0.length c0] w fun e w' => e = .returned (.bool r) ∧ Drawn0 w w' := by
 have HR0 := Aside0.mk hr0
 have HC0 := Aside0.mk hc0
 clear hr0 hc0
 have H : (l5within.l0 k l0 0) = some r := h
 clear h
 have H' := Aside0.mk H
 clear H
 go_enter Try.func43, Try.ntmps43
 go_wp2
 go_loopg [3] k (fun kq v3 w' => ∃ (x3_1 : Int), v3 = .int .i64 x3_1 ∧ Aside0 (l5within.l0 kq l0 x3_1 = some r) ∧ Aside0 (kq ≤ k) ∧ Drawn0 w w')
 case atStart => exact ⟨(0), rfl, H', ⟨Nat.le_refl _⟩, by repeat (first | exact Drawn0.refl _ | apply Drawn0.step)⟩
 case round =>
  clear H'
  obtain ⟨x3_1, rfl, HA, HK1, ⟨m1, rfl⟩⟩ := hrel
  cases gk with
  | zero => exact absurd HA.out (by simp [l5within.l0])
  | succ k1 =>
   have H := HA.out
   clear HA
   simp only [l5within.l0] at H
   by_cases c2 : x3_1 < (l0.length : Int)
   ·
    rw [if_pos c2] at H
    have c2b0 : decide (x3_1 < (l0.length : Int)) = true := decide_eq_true c2
    clear c2
    have H' := Aside0.mk H
    clear H
    go_wp2
    go_loopg [4] k1 (fun kq v4 w' => ∃ (x4_2 : Int), v4 = .int .i64 x4_2 ∧ Aside0 (l5within.l1 kq l0 x3_1 x4_2 = some r) ∧ Aside0 (kq ≤ k1) ∧ Drawn0 w w')
    case atStart => exact ⟨(0), rfl, H', ⟨Nat.le_refl _⟩, by repeat (first | exact Drawn0.refl _ | apply Drawn0.step)⟩
    case round =>
     clear H'
     obtain ⟨x4_2, rfl, HA, HK2, ⟨m2, rfl⟩⟩ := hrel
     cases gk with
     | zero => exact absurd HA.out (by simp [l5within.l1])
     | succ k2 =>
      have H := HA.out
      clear HA
      simp only [l5within.l1] at H
      by_cases c3 : 0 ≤ x3_1
      ·
       rw [if_pos c3] at H
       have c3b0 : decide (0 ≤ x3_1) = true := decide_eq_true c3
       clear c3
       by_cases c4 : x3_1 < (l0.length : Int)
       ·
        rw [if_pos c4] at H
        have c4b0 : decide (x3_1 < (l0.length : Int)) = true := decide_eq_true c4
        clear c4
        by_cases c5 : x4_2 < ((rd_L1 l0 x3_1).length : Int)
        ·
         rw [if_pos c5] at H
         have c5b0 : decide (x4_2 < ((rd_L1 l0 x3_1).length : Int)) = true := decide_eq_true c5
         clear c5
         by_cases c6 : 0 ≤ x4_2
         ·
          rw [if_pos c6] at H
          have c6b0 : decide (0 ≤ x4_2) = true := decide_eq_true c6
          clear c6
          by_cases c7 : (rd (rd_L1 l0 x3_1) x4_2) = (-1152921504606846976)
          ·
           rw [if_pos c7] at H
           have c7b0 : ((rd (rd_L1 l0 x3_1) x4_2) == (-1152921504606846976)) = true := beq_iff_eq.mpr c7
           have c7b1 : ((rd (rd_L1 l0 x3_1) x4_2) != (-1152921504606846976)) = false := bne_eq_false_iff_eq.mpr c7
           clear c7
           have H' := Aside0.mk H
           clear H
           have p1093 : 0 ≤ (x3_1 : Int) := of_decide_eq_true (by first | (with_reducible assumption) | assumption)
           have q1093 : x3_1 < (l0.length : Int) := of_decide_eq_true (by first | (with_reducible assumption) | assumption)
           obtain ⟨ad1093, A1093_0, c1093_0, e1093, hx1093_0, hl1093_0, hi1093_0⟩ := at_L1 HR0.out x3_1 p1093 q1093
           cases e1093
           have HR1093_0 := Aside0.mk hi1093_0
           have HC1093_0 := Aside0.mk hl1093_0
           clear hi1093_0 hl1093_0
           replace p1093 := eq_true p1093
           replace q1093 := eq_true q1093
           have p1094 : 0 ≤ (x3_1 : Int) := of_decide_eq_true (by assumption)
           have q1094 : x3_1 < (l0.length : Int) := of_decide_eq_true (by assumption)
           obtain ⟨ad1094, A1094_0, c1094_0, e1094, hx1094_0, hl1094_0, hi1094_0⟩ := at_L1 HR0.out x3_1 p1094 q1094
           obtain rfl : ad1093 = ad1094 := (by injection e1094)
           have HR1094_0 := Aside0.mk hi1094_0
           have HC1094_0 := Aside0.mk hl1094_0
           clear hi1094_0 hl1094_0
           replace p1094 := eq_true p1094
           replace q1094 := eq_true q1094
           have ea_ := Option.some.inj (hx1093_0.symm.trans hx1094_0)
           injection ea_ with ea_ en_ ec_
           subst ea_
           subst ec_
           clear en_
           have p1095 : 0 ≤ (x4_2 : Int) := of_decide_eq_true (by assumption)
           have q1095 : x4_2 < ((rd_L1 l0 x3_1).length : Int) := of_decide_eq_true (by assumption)
           obtain ⟨ad1095, e1095, hx1095_0⟩ := Kd.at_int HR1094_0.out x4_2 p1095 q1095
           cases e1095
           replace p1095 := eq_true p1095
           replace q1095 := eq_true q1095
           go_wp2
           go_roundg k2
           case measure => have := HK1.out; have := HK2.out; omega
           case rel => exact ⟨(wrap64 (x4_2 + 1)), rfl, H', ⟨by have := HK1.out; have := HK2.out; omega⟩, by repeat (first | exact Drawn0.refl _ | apply Drawn0.step)⟩
          ·
           rw [if_neg c7] at H
           have c7b0 : ((rd (rd_L1 l0 x3_1) x4_2) == (-1152921504606846976)) = false := beq_eq_false_iff_ne.mpr c7
           by_cases c8 : (rd (rd_L1 l0 x3_1) x4_2) < (-1000)
           ·
            rw [if_pos c8] at H
            have c8b0 : decide ((rd (rd_L1 l0 x3_1) x4_2) < (-1000)) = true := decide_eq_true c8
            clear c8
            obtain rfl := Option.some.inj H
            have p1093 : 0 ≤ (x3_1 : Int) := of_decide_eq_true (by assumption)
            have q1093 : x3_1 < (l0.length : Int) := of_decide_eq_true (by assumption)
            obtain ⟨ad1093, A1093_0, c1093_0, e1093, hx1093_0, hl1093_0, hi1093_0⟩ := at_L1 HR0.out x3_1 p1093 q1093
            cases e1093
            have HR1093_0 := Aside0.mk hi1093_0
            have HC1093_0 := Aside0.mk hl1093_0
            clear hi1093_0 hl1093_0
            replace p1093 := eq_true p1093
            replace q1093 := eq_true q1093
            have p1094 : 0 ≤ (x3_1 : Int) := of_decide_eq_true (by assumption)
            have q1094 : x3_1 < (l0.length : Int) := of_decide_eq_true (by assumption)
            obtain ⟨ad1094, A1094_0, c1094_0, e1094, hx1094_0, hl1094_0, hi1094_0⟩ := at_L1 HR0.out x3_1 p1094 q1094
            obtain rfl : ad1093 = ad1094 := (by injection e1094)
            have HR1094_0 := Aside0.mk hi1094_0
            have HC1094_0 := Aside0.mk hl1094_0
            clear hi1094_0 hl1094_0
            replace p1094 := eq_true p1094
            replace q1094 := eq_true q1094
            have ea_ := Option.some.inj (hx1093_0.symm.trans hx1094_0)
            injection ea_ with ea_ en_ ec_
            subst ea_
            subst ec_
            clear en_
            have p1095 : 0 ≤ (x4_2 : Int) := of_decide_eq_true (by assumption)
            have q1095 : x4_2 < ((rd_L1 l0 x3_1).length : Int) := of_decide_eq_true (by assumption)
            obtain ⟨ad1095, e1095, hx1095_0⟩ := Kd.at_int HR1094_0.out x4_2 p1095 q1095
            cases e1095
            replace p1095 := eq_true p1095
            replace q1095 := eq_true q1095
            have p1096 : 0 ≤ (x3_1 : Int) := of_decide_eq_true (by assumption)
            have q1096 : x3_1 < (l0.length : Int) := of_decide_eq_true (by assumption)
            obtain ⟨ad1096, A1096_0, c1096_0, e1096, hx1096_0, hl1096_0, hi1096_0⟩ := at_L1 HR0.out x3_1 p1096 q1096
            obtain rfl : ad1093 = ad1096 := (by injection e1096)
            have HR1096_0 := Aside0.mk hi1096_0
            have HC1096_0 := Aside0.mk hl1096_0
            clear hi1096_0 hl1096_0
            replace p1096 := eq_true p1096
            replace q1096 := eq_true q1096
            have ea_ := Option.some.inj (hx1093_0.symm.trans hx1096_0)
            injection ea_ with ea_ en_ ec_
            subst ea_
            subst ec_
            clear en_
            have p1097 : 0 ≤ (x4_2 : Int) := of_decide_eq_true (by assumption)
            have q1097 : x4_2 < ((rd_L1 l0 x3_1).length : Int) := of_decide_eq_true (by assumption)
            obtain ⟨ad1097, e1097, hx1097_0⟩ := Kd.at_int HR1096_0.out x4_2 p1097 q1097
            cases e1097
            replace p1097 := eq_true p1097
            replace q1097 := eq_true q1097
            go_wp2
            go_ret
            exact ⟨by first | rfl | (simp; done) | (simp [*]; done), by repeat (first | exact Drawn0.refl _ | apply Drawn0.step)⟩
           ·
            rw [if_neg c8] at H
            have c8b0 : decide ((rd (rd_L1 l0 x3_1) x4_2) < (-1000)) = false := decide_eq_false c8
            clear c8
            by_cases c9 : (rd (rd_L1 l0 x3_1) x4_2) > 1000
            ·
             rw [if_pos c9] at H
             have c9b0 : decide (1000 < (rd (rd_L1 l0 x3_1) x4_2)) = true := decide_eq_true c9
             clear c9
             obtain rfl := Option.some.inj H
             have p1093 : 0 ≤ (x3_1 : Int) := of_decide_eq_true (by assumption)
             have q1093 : x3_1 < (l0.length : Int) := of_decide_eq_true (by assumption)
             obtain ⟨ad1093, A1093_0, c1093_0, e1093, hx1093_0, hl1093_0, hi1093_0⟩ := at_L1 HR0.out x3_1 p1093 q1093
             cases e1093
             have HR1093_0 := Aside0.mk hi1093_0
             have HC1093_0 := Aside0.mk hl1093_0
             clear hi1093_0 hl1093_0
             replace p1093 := eq_true p1093
             replace q1093 := eq_true q1093
             have p1094 : 0 ≤ (x3_1 : Int) := of_decide_eq_true (by assumption)
             have q1094 : x3_1 < (l0.length : Int) := of_decide_eq_true (by assumption)
             obtain ⟨ad1094, A1094_0, c1094_0, e1094, hx1094_0, hl1094_0, hi1094_0⟩ := at_L1 HR0.out x3_1 p1094 q1094
             obtain rfl : ad1093 = ad1094 := (by injection e1094)
             have HR1094_0 := Aside0.mk hi1094_0
             have HC1094_0 := Aside0.mk hl1094_0
             clear hi1094_0 hl1094_0
             replace p1094 := eq_true p1094
             replace q1094 := eq_true q1094
             have ea_ := Option.some.inj (hx1093_0.symm.trans hx1094_0)
             injection ea_ with ea_ en_ ec_
             subst ea_
             subst ec_
             clear en_
             have p1095 : 0 ≤ (x4_2 : Int) := of_decide_eq_true (by assumption)
             have q1095 : x4_2 < ((rd_L1 l0 x3_1).length : Int) := of_decide_eq_true (by assumption)
             obtain ⟨ad1095, e1095, hx1095_0⟩ := Kd.at_int HR1094_0.out x4_2 p1095 q1095
             cases e1095
             replace p1095 := eq_true p1095
             replace q1095 := eq_true q1095
             have p1096 : 0 ≤ (x3_1 : Int) := of_decide_eq_true (by assumption)
             have q1096 : x3_1 < (l0.length : Int) := of_decide_eq_true (by assumption)
             obtain ⟨ad1096, A1096_0, c1096_0, e1096, hx1096_0, hl1096_0, hi1096_0⟩ := at_L1 HR0.out x3_1 p1096 q1096
             obtain rfl : ad1093 = ad1096 := (by injection e1096)
             have HR1096_0 := Aside0.mk hi1096_0
             have HC1096_0 := Aside0.mk hl1096_0
             clear hi1096_0 hl1096_0
             replace p1096 := eq_true p1096
             replace q1096 := eq_true q1096
             have ea_ := Option.some.inj (hx1093_0.symm.trans hx1096_0)
             injection ea_ with ea_ en_ ec_
             subst ea_
             subst ec_
             clear en_
             have p1097 : 0 ≤ (x4_2 : Int) := of_decide_eq_true (by assumption)
             have q1097 : x4_2 < ((rd_L1 l0 x3_1).length : Int) := of_decide_eq_true (by assumption)
             obtain ⟨ad1097, e1097, hx1097_0⟩ := Kd.at_int HR1096_0.out x4_2 p1097 q1097
             cases e1097
             replace p1097 := eq_true p1097
             replace q1097 := eq_true q1097
             have p1098 : 0 ≤ (x3_1 : Int) := of_decide_eq_true (by assumption)
             have q1098 : x3_1 < (l0.length : Int) := of_decide_eq_true (by assumption)
             obtain ⟨ad1098, A1098_0, c1098_0, e1098, hx1098_0, hl1098_0, hi1098_0⟩ := at_L1 HR0.out x3_1 p1098 q1098
             obtain rfl : ad1093 = ad1098 := (by injection e1098)
             have HR1098_0 := Aside0.mk hi1098_0
             have HC1098_0 := Aside0.mk hl1098_0
             clear hi1098_0 hl1098_0
             replace p1098 := eq_true p1098
             replace q1098 := eq_true q1098
             have ea_ := Option.some.inj (hx1093_0.symm.trans hx1098_0)
             injection ea_ with ea_ en_ ec_
             subst ea_
             subst ec_
             clear en_
             have p1099 : 0 ≤ (x4_2 : Int) := of_decide_eq_true (by assumption)
             have q1099 : x4_2 < ((rd_L1 l0 x3_1).length : Int) := of_decide_eq_true (by assumption)
             obtain ⟨ad1099, e1099, hx1099_0⟩ := Kd.at_int HR1098_0.out x4_2 p1099 q1099
             cases e1099
             replace p1099 := eq_true p1099
             replace q1099 := eq_true q1099
             go_wp2
             go_ret
             exact ⟨by first | rfl | (simp; done) | (simp [*]; done), by repeat (first | exact Drawn0.refl _ | apply Drawn0.step)⟩
            ·
             rw [if_neg c9] at H
             have c9b0 : decide (1000 < (rd (rd_L1 l0 x3_1) x4_2)) = false := decide_eq_false c9
             clear c9
             have H' := Aside0.mk H
             clear H
             have p1093 : 0 ≤ (x3_1 : Int) := of_decide_eq_true (by assumption)
             have q1093 : x3_1 < (l0.length : Int) := of_decide_eq_true (by assumption)
             obtain ⟨ad1093, A1093_0, c1093_0, e1093, hx1093_0, hl1093_0, hi1093_0⟩ := at_L1 HR0.out x3_1 p1093 q1093
             cases e1093
             have HR1093_0 := Aside0.mk hi1093_0
             have HC1093_0 := Aside0.mk hl1093_0
             clear hi1093_0 hl1093_0
             replace p1093 := eq_true p1093
             replace q1093 := eq_true q1093
             have p1094 : 0 ≤ (x3_1 : Int) := of_decide_eq_true (by assumption)
             have q1094 : x3_1 < (l0.length : Int) := of_decide_eq_true (by assumption)
             obtain ⟨ad1094, A1094_0, c1094_0, e1094, hx1094_0, hl1094_0, hi1094_0⟩ := at_L1 HR0.out x3_1 p1094 q1094
             obtain rfl : ad1093 = ad1094 := (by injection e1094)
             have HR1094_0 := Aside0.mk hi1094_0
             have HC1094_0 := Aside0.mk hl1094_0
             clear hi1094_0 hl1094_0
             replace p1094 := eq_true p1094
             replace q1094 := eq_true q1094
             have ea_ := Option.some.inj (hx1093_0.symm.trans hx1094_0)
             injection ea_ with ea_ en_ ec_
             subst ea_
             subst ec_
             clear en_
             have p1095 : 0 ≤ (x4_2 : Int) := of_decide_eq_true (by assumption)
             have q1095 : x4_2 < ((rd_L1 l0 x3_1).length : Int) := of_decide_eq_true (by assumption)
             obtain ⟨ad1095, e1095, hx1095_0⟩ := Kd.at_int HR1094_0.out x4_2 p1095 q1095
             cases e1095
             replace p1095 := eq_true p1095
             replace q1095 := eq_true q1095
             have p1096 : 0 ≤ (x3_1 : Int) := of_decide_eq_true (by assumption)
             have q1096 : x3_1 < (l0.length : Int) := of_decide_eq_true (by assumption)
             obtain ⟨ad1096, A1096_0, c1096_0, e1096, hx1096_0, hl1096_0, hi1096_0⟩ := at_L1 HR0.out x3_1 p1096 q1096
             obtain rfl : ad1093 = ad1096 := (by injection e1096)
             have HR1096_0 := Aside0.mk hi1096_0
             have HC1096_0 := Aside0.mk hl1096_0
             clear hi1096_0 hl1096_0
             replace p1096 := eq_true p1096
             replace q1096 := eq_true q1096
             have ea_ := Option.some.inj (hx1093_0.symm.trans hx1096_0)
             injection ea_ with ea_ en_ ec_
             subst ea_
             subst ec_
             clear en_
             have p1097 : 0 ≤ (x4_2 : Int) := of_decide_eq_true (by assumption)
             have q1097 : x4_2 < ((rd_L1 l0 x3_1).length : Int) := of_decide_eq_true (by assumption)
             obtain ⟨ad1097, e1097, hx1097_0⟩ := Kd.at_int HR1096_0.out x4_2 p1097 q1097
             cases e1097
             replace p1097 := eq_true p1097
             replace q1097 := eq_true q1097
             have p1098 : 0 ≤ (x3_1 : Int) := of_decide_eq_true (by assumption)
             have q1098 : x3_1 < (l0.length : Int) := of_decide_eq_true (by assumption)
             obtain ⟨ad1098, A1098_0, c1098_0, e1098, hx1098_0, hl1098_0, hi1098_0⟩ := at_L1 HR0.out x3_1 p1098 q1098
             obtain rfl : ad1093 = ad1098 := (by injection e1098)
             have HR1098_0 := Aside0.mk hi1098_0
             have HC1098_0 := Aside0.mk hl1098_0
             clear hi1098_0 hl1098_0
             replace p1098 := eq_true p1098
             replace q1098 := eq_true q1098
             have ea_ := Option.some.inj (hx1093_0.symm.trans hx1098_0)
             injection ea_ with ea_ en_ ec_
             subst ea_
             subst ec_
             clear en_
             have p1099 : 0 ≤ (x4_2 : Int) := of_decide_eq_true (by assumption)
             have q1099 : x4_2 < ((rd_L1 l0 x3_1).length : Int) := of_decide_eq_true (by assumption)
             obtain ⟨ad1099, e1099, hx1099_0⟩ := Kd.at_int HR1098_0.out x4_2 p1099 q1099
             cases e1099
             replace p1099 := eq_true p1099
             replace q1099 := eq_true q1099
             go_wp2
             go_roundg k2
             case measure => have := HK1.out; have := HK2.out; omega
             case rel => exact ⟨(wrap64 (x4_2 + 1)), rfl, H', ⟨by have := HK1.out; have := HK2.out; omega⟩, by repeat (first | exact Drawn0.refl _ | apply Drawn0.step)⟩
         ·
          rw [if_neg c6] at H
          exact absurd H (by simp)
        ·
         rw [if_neg c5] at H
         have c5b0 : decide (x4_2 < ((rd_L1 l0 x3_1).length : Int)) = false := decide_eq_false c5
         clear c5
         have H' := Aside0.mk H
         clear H
         have p1093 : 0 ≤ (x3_1 : Int) := of_decide_eq_true (by assumption)
         have q1093 : x3_1 < (l0.length : Int) := of_decide_eq_true (by assumption)
         obtain ⟨ad1093, A1093_0, c1093_0, e1093, hx1093_0, hl1093_0, hi1093_0⟩ := at_L1 HR0.out x3_1 p1093 q1093
         cases e1093
         have HR1093_0 := Aside0.mk hi1093_0
         have HC1093_0 := Aside0.mk hl1093_0
         clear hi1093_0 hl1093_0
         replace p1093 := eq_true p1093
         replace q1093 := eq_true q1093
         go_wp2
         go_roundg k2
         case measure => have := HK1.out; have := HK2.out; omega
         case rel => exact ⟨(wrap64 (x3_1 + 1)), rfl, H', ⟨by have := HK1.out; have := HK2.out; omega⟩, by repeat (first | exact Drawn0.refl _ | apply Drawn0.step)⟩
       ·
        rw [if_neg c4] at H
        exact absurd H (by simp)
      ·
       rw [if_neg c3] at H
       exact absurd H (by simp)
   ·
    rw [if_neg c2] at H
    have c2b0 : decide (x3_1 < (l0.length : Int)) = false := decide_eq_false c2
    clear c2
    obtain rfl := Option.some.inj H
    go_wp2
    go_ret
    exact ⟨by first | rfl | (simp; done) | (simp [*]; done), by repeat (first | exact Drawn0.refl _ | apply Drawn0.step)⟩

def l5square.l0 : Nat → List (List Int) → Int → Int → Option (Bool)
 | 0, _, _, _ => none
 | k + 1, x0, x1, x5 => if x5 < (x0.length : Int) then (if 0 ≤ x5 then (if ((rd_L1 x0 x5).length : Int) = x1 then (l5square.l0 k x0 x1 (wrap64 (x5 + 1))) else (some false)) else (none)) else (some ((x0.length : Int) == x1))
def l5square.f (k : Nat) (l0 : List (List Int)) (a1 : Int) : Option (Bool) := l5square.l0 k l0 a1 0
theorem l5square.mono_l : ∀ k, (∀ y0 y1 y2, LeO (l5square.l0 k y0 y1 y2) (l5square.l0 (k + 1) y0 y1 y2))
 | 0 => fun _ _ _ r h => by simp [l5square.l0] at h
 | k + 1 => by
  have ih0 := l5square.mono_l k
  ·
   intro y0 y1 y2
   unfold l5square.l0
   repeat' first
   | (with_reducible exact ih0 _ _ _)
   | (with_reducible exact LeO.refl _)
   | (with_reducible exact LeO.none _)
   | (with_reducible refine LeO.ite ?_ ?_)
   | (with_reducible refine LeO.bind ?_ (fun _ => ?_))
   | exact ih0 _ _ _
   | exact LeO.none _
   | refine LeO.ite ?_ ?_
   | refine LeO.bind ?_ (fun _ => ?_)
theorem l5square.mono : ∀ a0 a1 k, LeO (l5square.f k a0 a1) (l5square.f (k + 1) a0 a1) := by
 intro a0 a1 k
 have ih0 := l5square.mono_l k
 unfold l5square.f
 repeat' first
   | exact ih0 _ _ _
   | exact LeO.none _
   | refine LeO.ite ?_ ?_
   | refine LeO.bind ?_ (fun _ => ?_)
set_option maxHeartbeats 8000000 in
set_option maxRecDepth 100000 in
theorem l5square.calls (k : Nat) (A0 : Option Addr) (c0 : Nat) (l0 : List (List Int)) (a1 : Int) (r : Bool) (w : World) (hr0 : Kd.C (Kd.slice 3 (Kd.int .i64)) w A0 l0.length l0) (hc0 : l0.length ≤ c0) (h : l5square.f k l0 a1 = some r) :
  Calls Try.prog 23 #[.slice A0 l0.length c0, .int .i64 a1] w fun e w' => e = .returned (.bool r) ∧ Drawn0 w w' := by
 have HR0 := Aside0.mk hr0
 have HC0 := Aside0.mk hc0
 clear hr0 hc0
 have H : (l5square.l0 k l0 a1 0) = some r := h
 clear h
 have H' := Aside0.mk H
 clear H
 go_enter Try.func23, Try.ntmps23
 go_wp2
 go_loopg [5] k (fun kq v5 w' => ∃ (x5_1 : Int), v5 = .int .i64 x5_1 ∧ Aside0 (l5square.l0 kq l0 a1 x5_1 = some r) ∧ Aside0 (kq ≤ k) ∧ Drawn0 w w')
 case atStart => exact ⟨(0), rfl, H', ⟨Nat.le_refl _⟩, by repeat (first | exact Drawn0.refl _ | apply Drawn0.step)⟩
 case round =>
  clear H'
  obtain ⟨x5_1, rfl, HA, HK1, ⟨m1, rfl⟩⟩ := hrel
  cases gk with
  | zero => exact absurd HA.out (by simp [l5square.l0])
  | succ k1 =>
   have H := HA.out
   clear HA
   simp only [l5square.l0] at H
   by_cases c3 : x5_1 < (l0.length : Int)
   ·
    rw [if_pos c3] at H
    have c3b0 : decide (x5_1 < (l0.length : Int)) = true := decide_eq_true c3
    clear c3
    by_cases c4 : 0 ≤ x5_1
    ·
     rw [if_pos c4] at H
     have c4b0 : decide (0 ≤ x5_1) = true := decide_eq_true c4
     clear c4
     by_cases c5 : ((rd_L1 l0 x5_1).length : Int) = a1
     ·
      rw [if_pos c5] at H
      have c5b0 : (((rd_L1 l0 x5_1).length : Int) == a1) = true := beq_iff_eq.mpr c5
      clear c5
      have H' := Aside0.mk H
      clear H
      have p663 : 0 ≤ (x5_1 : Int) := of_decide_eq_true (by assumption)
      have q663 : x5_1 < (l0.length : Int) := of_decide_eq_true (by assumption)
      obtain ⟨ad663, A663_0, c663_0, e663, hx663_0, hl663_0, hi663_0⟩ := at_L1 HR0.out x5_1 p663 q663
      cases e663
      have HR663_0 := Aside0.mk hi663_0
      have HC663_0 := Aside0.mk hl663_0
      clear hi663_0 hl663_0
      replace p663 := eq_true p663
      replace q663 := eq_true q663
      go_wp2
      go_roundg k1
      case measure => have := HK1.out; omega
      case rel => exact ⟨(wrap64 (x5_1 + 1)), rfl, H', ⟨by have := HK1.out; omega⟩, by repeat (first | exact Drawn0.refl _ | apply Drawn0.step)⟩
     ·
      rw [if_neg c5] at H
      have c5b0 : (((rd_L1 l0 x5_1).length : Int) == a1) = false := beq_eq_false_iff_ne.mpr c5
      obtain rfl := Option.some.inj H
      have p663 : 0 ≤ (x5_1 : Int) := of_decide_eq_true (by assumption)
      have q663 : x5_1 < (l0.length : Int) := of_decide_eq_true (by assumption)
      obtain ⟨ad663, A663_0, c663_0, e663, hx663_0, hl663_0, hi663_0⟩ := at_L1 HR0.out x5_1 p663 q663
      cases e663
      have HR663_0 := Aside0.mk hi663_0
      have HC663_0 := Aside0.mk hl663_0
      clear hi663_0 hl663_0
      replace p663 := eq_true p663
      replace q663 := eq_true q663
      go_wp2
      go_ret
      exact ⟨by first | rfl | (simp; done) | (simp [*]; done), by repeat (first | exact Drawn0.refl _ | apply Drawn0.step)⟩
    ·
     rw [if_neg c4] at H
     exact absurd H (by simp)
   ·
    rw [if_neg c3] at H
    have c3b0 : decide (x5_1 < (l0.length : Int)) = false := decide_eq_false c3
    clear c3
    obtain rfl := Option.some.inj H
    go_wp2
    go_ret
    exact ⟨by first | rfl | (simp; done) | (simp [*]; done), by repeat (first | exact Drawn0.refl _ | apply Drawn0.step)⟩

def l5plus.f (a0 : Int) (a1 : Int) : Option (Int) := if a0 = (-1152921504606846976) then (some (-1152921504606846976)) else (if a1 = (-1152921504606846976) then (some (-1152921504606846976)) else (some (wrap64 (a0 + a1))))
set_option maxHeartbeats 8000000 in
set_option maxRecDepth 100000 in
theorem l5plus.calls (a0 : Int) (a1 : Int) (r : Int) (w : World) (h : l5plus.f a0 a1 = some r) :
  Calls Try.prog 44 #[.int .i64 a0, .int .i64 a1] w fun e w' => e = .returned (.int .i64 r) ∧ Drawn0 w w' := by
 have H : (if a0 = (-1152921504606846976) then (some (-1152921504606846976)) else (if a1 = (-1152921504606846976) then (some (-1152921504606846976)) else (some (wrap64 (a0 + a1))))) = some r := h
 clear h
 by_cases c3 : a0 = (-1152921504606846976)
 ·
  rw [if_pos c3] at H
  have c3b0 : (a0 == (-1152921504606846976)) = true := beq_iff_eq.mpr c3
  clear c3
  obtain rfl := Option.some.inj H
  go_enter Try.func44, Try.ntmps44
  go_wp2
  go_ret
  exact ⟨by first | rfl | (simp; done) | (simp [*]; done), by repeat (first | exact Drawn0.refl _ | apply Drawn0.step)⟩
 ·
  rw [if_neg c3] at H
  have c3b0 : (a0 == (-1152921504606846976)) = false := beq_eq_false_iff_ne.mpr c3
  by_cases c4 : a1 = (-1152921504606846976)
  ·
   rw [if_pos c4] at H
   have c4b0 : (a1 == (-1152921504606846976)) = true := beq_iff_eq.mpr c4
   clear c4
   obtain rfl := Option.some.inj H
   go_enter Try.func44, Try.ntmps44
   go_wp2
   go_ret
   exact ⟨by first | rfl | (simp; done) | (simp [*]; done), by repeat (first | exact Drawn0.refl _ | apply Drawn0.step)⟩
  ·
   rw [if_neg c4] at H
   have c4b0 : (a1 == (-1152921504606846976)) = false := beq_eq_false_iff_ne.mpr c4
   obtain rfl := Option.some.inj H
   go_enter Try.func44, Try.ntmps44
   go_wp2
   go_ret
   exact ⟨by first | rfl | (simp; done) | (simp [*]; done), by repeat (first | exact Drawn0.refl _ | apply Drawn0.step)⟩

mutual
def l5product.l0 : Nat → List (List Int) → List (List Int) → List (List Int) → Int → Option ((List (List Int)))
 | 0, _, _, _, _ => none
 | k + 1, x0, x1, x5, x6 => if x6 < (x0.length : Int) then (l5product.l1 k x0 x1 x5 x6 ([] : List Int) 0) else (some x5)
def l5product.l1 : Nat → List (List Int) → List (List Int) → List (List Int) → Int → List Int → Int → Option ((List (List Int)))
 | 0, _, _, _, _, _, _ => none
 | k + 1, x0, x1, x5, x6, x7, x8 => if x8 < (x0.length : Int) then (l5product.l2 k x0 x1 x5 x6 x7 x8 (-1152921504606846976) 0) else (if x5.length < 5864062014805 then (l5product.l0 k x0 x1 (x5 ++ [x7]) (wrap64 (x6 + 1))) else (none))
def l5product.l2 : Nat → List (List Int) → List (List Int) → List (List Int) → Int → List Int → Int → Int → Int → Option ((List (List Int)))
 | 0, _, _, _, _, _, _, _, _ => none
 | k + 1, x0, x1, x5, x6, x7, x8, x9, x10 => if x10 < (x0.length : Int) then (if 0 ≤ x6 then (if x6 < (x0.length : Int) then (if 0 ≤ x10 then (if x10 < ((rd_L1 x0 x6).length : Int) then (if x10 < (x1.length : Int) then (if 0 ≤ x8 then (if x8 < ((rd_L1 x1 x10).length : Int) then ((l5plus.f (rd (rd_L1 x0 x6) x10) (rd (rd_L1 x1 x10) x8)).bind fun t671 => (l5product.l2 k x0 x1 x5 x6 x7 x8 (mx x9 t671) (wrap64 (x10 + 1)))) else (none)) else (none)) else (none)) else (none)) else (none)) else (none)) else (none)) else (if x7.length < 17592186044416 then (l5product.l1 k x0 x1 x5 x6 (x7 ++ [x9]) (wrap64 (x8 + 1))) else (none))
end
def l5product.f (k : Nat) (l0 : List (List Int)) (l1 : List (List Int)) : Option ((List (List Int))) := l5product.l0 k l0 l1 ([] : List (List Int)) 0
theorem l5product.mono_l : ∀ k, (∀ y0 y1 y2 y3, LeO (l5product.l0 k y0 y1 y2 y3) (l5product.l0 (k + 1) y0 y1 y2 y3)) ∧ (∀ y0 y1 y2 y3 y4 y5, LeO (l5product.l1 k y0 y1 y2 y3 y4 y5) (l5product.l1 (k + 1) y0 y1 y2 y3 y4 y5)) ∧ (∀ y0 y1 y2 y3 y4 y5 y6 y7, LeO (l5product.l2 k y0 y1 y2 y3 y4 y5 y6 y7) (l5product.l2 (k + 1) y0 y1 y2 y3 y4 y5 y6 y7))
 | 0 => ⟨fun _ _ _ _ r h => by simp [l5product.l0] at h, fun _ _ _ _ _ _ r h => by simp [l5product.l1] at h, fun _ _ _ _ _ _ _ _ r h => by simp [l5product.l2] at h⟩
 | k + 1 => by
  obtain ⟨ih0, ih1, ih2⟩ := l5product.mono_l k
  refine ⟨?_, ?_, ?_⟩
  ·
   intro y0 y1 y2 y3
   unfold l5product.l0
   repeat' first
   | (with_reducible exact LeO.refl _)
   | (with_reducible exact LeO.none _)
   | (with_reducible refine LeO.ite ?_ ?_)
   | (with_reducible refine LeO.bind ?_ (fun _ => ?_))
   | exact ih0 _ _ _ _
   | exact ih1 _ _ _ _ _ _
   | exact ih2 _ _ _ _ _ _ _ _
   | exact LeO.none _
   | refine LeO.ite ?_ ?_
   | refine LeO.bind ?_ (fun _ => ?_)
  ·
   intro y0 y1 y2 y3 y4 y5
   unfold l5product.l1
   repeat' first
   | (with_reducible exact LeO.refl _)
   | (with_reducible exact LeO.none _)
   | (with_reducible refine LeO.ite ?_ ?_)
   | (with_reducible refine LeO.bind ?_ (fun _ => ?_))
   | exact ih0 _ _ _ _
   | exact ih1 _ _ _ _ _ _
   | exact ih2 _ _ _ _ _ _ _ _
   | exact LeO.none _
   | refine LeO.ite ?_ ?_
   | refine LeO.bind ?_ (fun _ => ?_)
  ·
   intro y0 y1 y2 y3 y4 y5 y6 y7
   unfold l5product.l2
   repeat' first
   | (with_reducible exact LeO.refl _)
   | (with_reducible exact LeO.none _)
   | (with_reducible refine LeO.ite ?_ ?_)
   | (with_reducible refine LeO.bind ?_ (fun _ => ?_))
   | exact ih0 _ _ _ _
   | exact ih1 _ _ _ _ _ _
   | exact ih2 _ _ _ _ _ _ _ _
   | exact LeO.none _
   | refine LeO.ite ?_ ?_
   | refine LeO.bind ?_ (fun _ => ?_)
theorem l5product.mono : ∀ a0 a1 k, LeO (l5product.f k a0 a1) (l5product.f (k + 1) a0 a1) := by
 intro a0 a1 k
 obtain ⟨ih0, ih1, ih2⟩ := l5product.mono_l k
 unfold l5product.f
 repeat' first
   | (with_reducible exact LeO.refl _)
   | (with_reducible exact LeO.none _)
   | (with_reducible refine LeO.ite ?_ ?_)
   | (with_reducible refine LeO.bind ?_ (fun _ => ?_))
   | exact ih0 _ _ _ _
   | exact ih1 _ _ _ _ _ _
   | exact ih2 _ _ _ _ _ _ _ _
   | exact LeO.none _
   | refine LeO.ite ?_ ?_
   | refine LeO.bind ?_ (fun _ => ?_)
set_option maxHeartbeats 8000000 in
set_option maxRecDepth 100000 in
theorem l5product.calls (k : Nat) (A0 : Option Addr) (c0 : Nat) (l0 : List (List Int)) (A1 : Option Addr) (c1 : Nat) (l1 : List (List Int)) (r : List (List Int)) (w : World) (hr0 : Kd.C (Kd.slice 3 (Kd.int .i64)) w A0 l0.length l0) (hc0 : l0.length ≤ c0) (hr1 : Kd.C (Kd.slice 3 (Kd.int .i64)) w A1 l1.length l1) (hc1 : l1.length ≤ c1) (h : l5product.f k l0 l1 = some r) :
  Calls Try.prog 24 #[.slice A0 l0.length c0, .slice A1 l1.length c1] w fun e w' => ∃ v0_ : Value, e = .returned (v0_) ∧ Kd.S (Kd.slice 3 (Kd.int .i64)) 26 w' w.heap.size (fun _ => True) v0_ r ∧ Below w.heap.size w w' := by
 have HR0 := Aside0.mk hr0
 have HC0 := Aside0.mk hc0
 clear hr0 hc0
 have HR1 := Aside0.mk hr1
 have HC1 := Aside0.mk hc1
 clear hr1 hc1
 have HB := Aside0.mk (Below.refl w.heap.size w)
 have H : (l5product.l0 k l0 l1 ([] : List (List Int)) 0) = some r := h
 clear h
 have H' := Aside0.mk H
 clear H
 go_enter Try.func24, Try.ntmps24
 go_wp2
 go_loopg [5, 6] k (fun kq v5 v6 w' => ∃ (x5_1 : List (List Int)) (x6_1 : Int), v6 = .int .i64 x6_1 ∧ Aside0 (l5product.l0 kq l0 l1 x5_1 x6_1 = some r) ∧ Aside0 (kq ≤ k) ∧ Aside0 (Kd.S (Kd.slice 3 (Kd.int .i64)) 26 w' w.heap.size (fun _ => True) v5 x5_1) ∧ Aside0 (Below w.heap.size w w'))
 case atStart => exact ⟨(([] : List (List Int))), (0), rfl, H', ⟨Nat.le_refl _⟩, ⟨by first | exact Kd.S_nil _ _ _ _ _ | exact Kd.N_nil _ _ _ _ _ | exact Kd.V_nil _ _ _ _ _ | exact Kd.Q_nil _ _ _ _ _ | exact Kd.R_nil _ _ _ _ _⟩, ⟨HB.out⟩⟩
 case round =>
  clear H'
  obtain ⟨x5_1, x6_1, rfl, HA, HK1, HO_5, HB⟩ := hrel
  cases gk with
  | zero => exact absurd HA.out (by simp [l5product.l0])
  | succ k1 =>
   have H := HA.out
   clear HA
   simp only [l5product.l0] at H
   by_cases c3 : x6_1 < (l0.length : Int)
   ·
    rw [if_pos c3] at H
    have c3b0 : decide (x6_1 < (l0.length : Int)) = true := decide_eq_true c3
    clear c3
    have H' := Aside0.mk H
    clear H
    go_wp2
    go_loopg [7, 8] k1 (fun kq v7 v8 w' => ∃ (x7_2 : List Int) (x8_2 : Int), v8 = .int .i64 x8_2 ∧ Aside0 (l5product.l1 kq l0 l1 x5_1 x6_1 x7_2 x8_2 = some r) ∧ Aside0 (kq ≤ k1) ∧ Aside0 (Kd.S (Kd.slice 3 (Kd.int .i64)) 26 w' w.heap.size (fun k_ => some k_ ≠ (v7 : Value).ownBlock) u5 x5_1) ∧ Aside0 (Kd.R (Kd.int .i64) 3 w' w.heap.size (fun _ => True) v7 x7_2) ∧ Aside0 (Below w.heap.size w w'))
    case atStart => exact ⟨(([] : List Int)), (0), rfl, H', ⟨Nat.le_refl _⟩, ⟨by exact Kd.S_mono HO_5.out (fun _ hk => (by simp [Value.ownBlock]))⟩, ⟨by first | exact Kd.R_nil _ _ _ _ _ | exact Kd.N_nil _ _ _ _ _ | exact Kd.V_nil _ _ _ _ _ | exact Kd.Q_nil _ _ _ _ _ | exact Kd.S_nil _ _ _ _ _⟩, ⟨HB.out⟩⟩
    case round =>
     clear H'
     obtain ⟨x7_2, x8_2, rfl, HA, HK2, HO_5, HO_7, HB⟩ := hrel
     cases gk with
     | zero => exact absurd HA.out (by simp [l5product.l1])
     | succ k2 =>
      have H := HA.out
      clear HA
      simp only [l5product.l1] at H
      by_cases c4 : x8_2 < (l0.length : Int)
      ·
       rw [if_pos c4] at H
       have c4b0 : decide (x8_2 < (l0.length : Int)) = true := decide_eq_true c4
       clear c4
       have H' := Aside0.mk H
       clear H
       go_wp2
       go_loopg [9, 10] k2 (fun kq v9 v10 w' => ∃ (x9_3 : Int) (x10_3 : Int), v9 = .int .i64 x9_3 ∧ v10 = .int .i64 x10_3 ∧ Aside0 (l5product.l2 kq l0 l1 x5_1 x6_1 x7_2 x8_2 x9_3 x10_3 = some r) ∧ Aside0 (kq ≤ k2) ∧ Aside0 (Kd.S (Kd.slice 3 (Kd.int .i64)) 26 w' w.heap.size (fun k_ => some k_ ≠ (u7 : Value).ownBlock) u5 x5_1) ∧ Aside0 (Kd.R (Kd.int .i64) 3 w' w.heap.size (fun _ => True) u7 x7_2) ∧ Aside0 (Below w.heap.size w w'))
       case atStart => exact ⟨((-1152921504606846976)), (0), rfl, rfl, H', ⟨Nat.le_refl _⟩, ⟨by exact HO_5.out⟩, ⟨by exact HO_7.out⟩, ⟨HB.out⟩⟩
       case round =>
        clear H'
        obtain ⟨x9_3, x10_3, rfl, rfl, HA, HK3, HO_5, HO_7, HB⟩ := hrel
        cases gk with
        | zero => exact absurd HA.out (by simp [l5product.l2])
        | succ k3 =>
         have H := HA.out
         clear HA
         simp only [l5product.l2] at H
         by_cases c5 : x10_3 < (l0.length : Int)
         ·
          rw [if_pos c5] at H
          have c5b0 : decide (x10_3 < (l0.length : Int)) = true := decide_eq_true c5
          clear c5
          by_cases c6 : 0 ≤ x6_1
          ·
           rw [if_pos c6] at H
           have c6b0 : decide (0 ≤ x6_1) = true := decide_eq_true c6
           clear c6
           by_cases c7 : x6_1 < (l0.length : Int)
           ·
            rw [if_pos c7] at H
            have c7b0 : decide (x6_1 < (l0.length : Int)) = true := decide_eq_true c7
            clear c7
            by_cases c8 : 0 ≤ x10_3
            ·
             rw [if_pos c8] at H
             have c8b0 : decide (0 ≤ x10_3) = true := decide_eq_true c8
             clear c8
             by_cases c9 : x10_3 < ((rd_L1 l0 x6_1).length : Int)
             ·
              rw [if_pos c9] at H
              have c9b0 : decide (x10_3 < ((rd_L1 l0 x6_1).length : Int)) = true := decide_eq_true c9
              clear c9
              by_cases c10 : x10_3 < (l1.length : Int)
              ·
               rw [if_pos c10] at H
               have c10b0 : decide (x10_3 < (l1.length : Int)) = true := decide_eq_true c10
               clear c10
               by_cases c11 : 0 ≤ x8_2
               ·
                rw [if_pos c11] at H
                have c11b0 : decide (0 ≤ x8_2) = true := decide_eq_true c11
                clear c11
                by_cases c12 : x8_2 < ((rd_L1 l1 x10_3).length : Int)
                ·
                 rw [if_pos c12] at H
                 have c12b0 : decide (x8_2 < ((rd_L1 l1 x10_3).length : Int)) = true := decide_eq_true c12
                 clear c12
                 replace H := Option.bind_eq_some_iff.mp H
                 obtain ⟨t671, A130, H⟩ := H
                 replace H : (l5product.l2 k3 l0 l1 x5_1 x6_1 x7_2 x8_2 (mx x9_3 t671) (wrap64 (x10_3 + 1))) = some r := H
                 have A13 := Aside0.mk A130
                 clear A130
                 obtain ⟨ji14, hji14⟩ : ∃ j_ : Int, (mx x9_3 t671) = j_ := ⟨_, rfl⟩
                 replace H : (l5product.l2 k3 l0 l1 x5_1 x6_1 x7_2 x8_2 ji14 (wrap64 (x10_3 + 1))) = some r := by first | (rw [hji14] at H; exact H) | (simp only [hji14] at H ⊢; exact H)
                 (try rw [hji14] at A13)
                 have hji14_ : (if x9_3 < t671 then t671 else x9_3) = ji14 := hji14
                 have H' := Aside0.mk H
                 clear H
                 have p667 : 0 ≤ (x6_1 : Int) := of_decide_eq_true (by assumption)
                 have q667 : x6_1 < (l0.length : Int) := of_decide_eq_true (by assumption)
                 obtain ⟨ad667, A667_0, c667_0, e667, hx667_0, hl667_0, hi667_0⟩ := at_L1 HR0.out x6_1 p667 q667
                 cases e667
                 replace hx667_0 := (HB.out.cell (World.block_lt_of_cell? w _ hx667_0)).trans hx667_0
                 have HR667_0 := Aside0.mk hi667_0
                 have HC667_0 := Aside0.mk hl667_0
                 clear hi667_0 hl667_0
                 replace p667 := eq_true p667
                 replace q667 := eq_true q667
                 have p668 : 0 ≤ (x10_3 : Int) := of_decide_eq_true (by assumption)
                 have q668 : x10_3 < ((rd_L1 l0 x6_1).length : Int) := of_decide_eq_true (by assumption)
                 obtain ⟨ad668, e668, hx668_0⟩ := Kd.at_int HR667_0.out x10_3 p668 q668
                 cases e668
                 replace hx668_0 := (HB.out.cell (World.block_lt_of_cell? w _ hx668_0)).trans hx668_0
                 replace p668 := eq_true p668
                 replace q668 := eq_true q668
                 have p669 : 0 ≤ (x10_3 : Int) := of_decide_eq_true (by assumption)
                 have q669 : x10_3 < (l1.length : Int) := of_decide_eq_true (by assumption)
                 obtain ⟨ad669, A669_0, c669_0, e669, hx669_0, hl669_0, hi669_0⟩ := at_L1 HR1.out x10_3 p669 q669
                 cases e669
                 replace hx669_0 := (HB.out.cell (World.block_lt_of_cell? w _ hx669_0)).trans hx669_0
                 have HR669_0 := Aside0.mk hi669_0
                 have HC669_0 := Aside0.mk hl669_0
                 clear hi669_0 hl669_0
                 replace p669 := eq_true p669
                 replace q669 := eq_true q669
                 have p670 : 0 ≤ (x8_2 : Int) := of_decide_eq_true (by assumption)
                 have q670 : x8_2 < ((rd_L1 l1 x10_3).length : Int) := of_decide_eq_true (by assumption)
                 obtain ⟨ad670, e670, hx670_0⟩ := Kd.at_int HR669_0.out x8_2 p670 q670
                 cases e670
                 replace hx670_0 := (HB.out.cell (World.block_lt_of_cell? w _ hx670_0)).trans hx670_0
                 replace p670 := eq_true p670
                 replace q670 := eq_true q670
                 go_wp2_with (first | (go_at_call 44; (with_reducible refine (l5plus.calls (rd (rd_L1 l0 x6_1) x10_3) (rd (rd_L1 l1 x10_3) x8_2) t671 _ A13.out).mono ?_); rintro e w' ⟨rfl, ⟨nd, rfl⟩⟩; (try first | exact ⟨rfl, _, World.drewN_drewN _ _ _⟩ | exact ⟨rfl, _, Eq.trans (World.drewN_drewN _ _ _) (congrArg (World.drewN _) (Nat.add_assoc _ _ _))⟩)))
                 repeat (go_quiet (first | (go_at_call 44; (with_reducible refine (l5plus.calls (rd (rd_L1 l0 x6_1) x10_3) (rd (rd_L1 l1 x10_3) x8_2) t671 _ A13.out).mono ?_); rintro e w' ⟨rfl, ⟨nd, rfl⟩⟩; (try first | exact ⟨rfl, _, World.drewN_drewN _ _ _⟩ | exact ⟨rfl, _, Eq.trans (World.drewN_drewN _ _ _) (congrArg (World.drewN _) (Nat.add_assoc _ _ _))⟩))); try go_wp2_with (first | (go_at_call 44; (with_reducible refine (l5plus.calls (rd (rd_L1 l0 x6_1) x10_3) (rd (rd_L1 l1 x10_3) x8_2) t671 _ A13.out).mono ?_); rintro e w' ⟨rfl, ⟨nd, rfl⟩⟩; (try first | exact ⟨rfl, _, World.drewN_drewN _ _ _⟩ | exact ⟨rfl, _, Eq.trans (World.drewN_drewN _ _ _) (congrArg (World.drewN _) (Nat.add_assoc _ _ _))⟩))))
                 go_roundg k3
                 case measure => have := HK1.out; have := HK2.out; have := HK3.out; omega
                 case rel => exact ⟨(ji14), (wrap64 (x10_3 + 1)), (by first | rfl | (simp; done) | (simp only [← hji14] <;> (first | rfl | simp)) | (simp [*]; done)), rfl, H', ⟨by have := HK1.out; have := HK2.out; have := HK3.out; omega⟩, ⟨by exact HO_5.out⟩, ⟨by exact HO_7.out⟩, ⟨by repeat (first | exact HB.out | apply below_alloc | apply pw_below_drewN | apply below_drew1)⟩⟩
                ·
                 rw [if_neg c12] at H
                 exact absurd H (by simp)
               ·
                rw [if_neg c11] at H
                exact absurd H (by simp)
              ·
               rw [if_neg c10] at H
               exact absurd H (by simp)
             ·
              rw [if_neg c9] at H
              exact absurd H (by simp)
            ·
             rw [if_neg c8] at H
             exact absurd H (by simp)
           ·
            rw [if_neg c7] at H
            exact absurd H (by simp)
          ·
           rw [if_neg c6] at H
           exact absurd H (by simp)
         ·
          rw [if_neg c5] at H
          have c5b0 : decide (x10_3 < (l0.length : Int)) = false := decide_eq_false c5
          clear c5
          by_cases c15 : x7_2.length < 17592186044416
          ·
           rw [if_pos c15] at H
           have LMc15 := Aside0.mk c15
           clear c15
           obtain ⟨y672, hy672⟩ : ∃ y_ : List Int, y_ = (x7_2 ++ [x9_3]) := ⟨_, rfl⟩
           replace H : (l5product.l1 k3 l0 l1 x5_1 x6_1 y672 (wrap64 (x8_2 + 1))) = some r := by rw [hy672]; exact H
           have Ny672 := Aside0.mk hy672
           clear hy672
           have H' := Aside0.mk H
           clear H
           go_wp2_with (first | ((with_reducible refine gate_builtin (b := .append) (xs := #[.tmp 46, .tmp 48]) rfl ?_); at_builtin; refine Kd.R_append (Kd.int .i64) (w0 := w) w.heap.size rfl (.tmp 46) (.tmp 48) 26 3 (.int .i64 0) 8 rfl Try.underlying26 info3 rfl (by decide) (by omega) u7 x7_2 x9_3 [.int .i64 x9_3] (fun _ => True) (fun _ => False) rfl rfl ?aP (fun _ hk => hk.elim) ?aF ?aO ?aB ?aS ?aL ?_; (case aP => exact rfl); (case aB => exact (HB.out)); (case aF => exact (fun _ _ => trivial)); (case aO => exact (by exact HO_7.out)); (case aS => exact (below_size (HB.out))); (case aL => have := LMc15.out; omega); intro v673 w16 ho hb hg hat; rw [← Ny672.out] at ho; have n0_ := Aside0.mk (Kd.S_after (ok := (fun _ => True)) (by exact Kd.S_mono HO_5.out (fun _ hk => ⟨trivial, hk⟩)) hg hat); have n1_ := Aside0.mk (hb); have n2_ := Aside0.mk (ho); clear HO_5; clear HB; clear HO_7; have HO_5 := n0_; have HB := n1_; have HO674 := n2_; clear n0_ n1_ n2_; clear ho hb hg hat))
           go_roundg k3
           case measure => have := HK1.out; have := HK2.out; have := HK3.out; omega
           case rel => exact ⟨(y672), (wrap64 (x8_2 + 1)), rfl, H', ⟨by have := HK1.out; have := HK2.out; have := HK3.out; omega⟩, ⟨by exact Kd.S_mono HO_5.out (fun _ hk => hk.2)⟩, ⟨by exact HO674.out⟩, ⟨HB.out⟩⟩
          ·
           rw [if_neg c15] at H
           exact absurd H (by simp)
      ·
       rw [if_neg c4] at H
       have c4b0 : decide (x8_2 < (l0.length : Int)) = false := decide_eq_false c4
       clear c4
       by_cases c17 : x5_1.length < 5864062014805
       ·
        rw [if_pos c17] at H
        have LMc17 := Aside0.mk c17
        clear c17
        obtain ⟨y664, hy664⟩ : ∃ y_ : List (List Int), y_ = (x5_1 ++ [x7_2]) := ⟨_, rfl⟩
        replace H : (l5product.l0 k2 l0 l1 y664 (wrap64 (x6_1 + 1))) = some r := by rw [hy664]; exact H
        have Ny664 := Aside0.mk hy664
        clear hy664
        have H' := Aside0.mk H
        clear H
        obtain ⟨Ao19, co19, eo19⟩ := Kd.R_slice HO_7.out
        subst eo19
        go_wp2_with (first | ((with_reducible refine gate_builtin (b := .append) (xs := #[.tmp 50, .tmp 52]) rfl ?_); at_builtin; refine Kd.S_append (Kd.slice 3 (Kd.int .i64)) (w0 := w) w.heap.size rfl (.tmp 50) (.tmp 52) 22 26 (.slice none 0 0) 24 rfl Try.underlying22 info26 rfl (by decide) (by omega) u5 x5_1 x7_2 [.slice Ao19 x7_2.length co19] (fun _ => True) (fun k_ => some k_ = (.slice Ao19 x7_2.length co19 : Value).ownBlock) rfl rfl ?aP (fun k_ hk_ => ((Kd.R_mono (ok' := fun k_ => ((fun _ => True)) k_ ∧ some k_ ≠ (u5 : Value).ownBlock) (Kd.R_apart' (HO_7.out) (Kd.S_typed HO_5.out) (by decide)) (fun k_ hk => ⟨trivial, hk.2⟩))).1 k_ hk_.symm) ?aF ?aO ?aB ?aS ?aL ?_; (case aP => exact Kd.M_row (Kd.R_mono (Kd.R_tight rfl (Kd.R_mono (ok' := fun k_ => ((fun _ => True)) k_ ∧ some k_ ≠ (u5 : Value).ownBlock) (Kd.R_apart' (HO_7.out) (Kd.S_typed HO_5.out) (by decide)) (fun k_ hk => ⟨trivial, hk.2⟩))) (fun _ h_ => h_))); (case aB => exact (HB.out)); (case aF => exact (fun _ _ => trivial)); (case aO => exact (by exact Kd.S_mono HO_5.out (fun k_ hk => ⟨trivial, fun e_ => hk e_⟩))); (case aS => exact (below_size (HB.out))); (case aL => have := LMc17.out; omega); intro v665 w18 ho hb hg hat; rw [← Ny664.out] at ho; have n0_ := Aside0.mk (hb); have n1_ := Aside0.mk (ho); clear HB; clear HO_5; clear HO_7; have HB := n0_; have HO666 := n1_; clear n0_ n1_; clear ho hb hg hat))
        go_roundg k2
        case measure => have := HK1.out; have := HK2.out; omega
        case rel => exact ⟨(y664), (wrap64 (x6_1 + 1)), rfl, H', ⟨by have := HK1.out; have := HK2.out; omega⟩, ⟨by exact HO666.out⟩, ⟨HB.out⟩⟩
       ·
        rw [if_neg c17] at H
        exact absurd H (by simp)
   ·
    rw [if_neg c3] at H
    have c3b0 : decide (x6_1 < (l0.length : Int)) = false := decide_eq_false c3
    clear c3
    obtain rfl := Option.some.inj H
    go_wp2
    go_ret
    exact ⟨_, rfl, by exact HO_5.out, HB.out⟩
end Go.Proofs.Ythjmfbmffchicaa.V
