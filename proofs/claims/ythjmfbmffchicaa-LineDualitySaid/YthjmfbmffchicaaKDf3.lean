/- Walks of functions that the law LineDuality reaches: each theorem '.calls' says that the call comes to what its printed plain function says, under the conditions that stand in it. -/
import Derived.Test.YthjmfbmffchicaaKDHub
import Derived.Test.YthjmfbmffchicaaKDf0
import Derived.Test.YthjmfbmffchicaaKDf1
import Derived.Test.YthjmfbmffchicaaKDf2
namespace Go.Proofs.Ythjmfbmffchicaa.V
open Go.RowKit Go.Proofs.YthjmfbmffchicaaW.PrintWords Go.Proofs.YthjmfbmffchicaaW.PrintLast Go.Proofs.YthjmfbmffchicaaW.PrintMore
attribute [local go_sem] max2_int min2_int max_two min_two max_three min_three max_four min_four
set_option maxHeartbeats 8000000
set_option maxRecDepth 100000
set_option linter.unusedVariables false
set_option linter.unusedSimpArgs false
mutual
def line_Eigen.l0 : Nat → Int → List Int → Int → Int → List (List Int) → Int → Int → List (List Int) → List (List Int) → Option (List Int × Int)
 | 0, _, _, _, _, _, _, _, _, _ => none
 | k + 1, x6, x7, x33, x34, x262000, x262001, x262002, x262003, x262004 => if x34 < x33 then (if 0 ≤ x34 then (if x34 < (x262004.length : Int) then (if 0 ≤ x6 then (if x6 < ((rd_L1 x262004 x34).length : Int) then (if x34 < (x7.length : Int) then (line_Eigen.l0 k x6 (x7.set (x34 : Int).toNat (rd (rd_L1 x262004 x34) x6)) x33 (wrap64 (x34 + 1)) x262000 x262001 x262002 x262003 x262004) else (none)) else (none)) else (none)) else (none)) else (none)) else ((slices_Min_int_int.f k x7).bind fun t273 => (line_Eigen.l1 k x7 t273 (x7.length : Int) 0))
def line_Eigen.l1 : Nat → List Int → Int → Int → Int → Option (List Int × Int)
 | 0, _, _, _, _ => none
 | k + 1, x7, x9, x52, x53 => if x53 < x52 then (if 0 ≤ x53 then (if x53 < (x7.length : Int) then (line_Eigen.l1 k (x7.set (x53 : Int).toNat (wrap64 ((rd x7 x53) - x9))) x9 x52 (wrap64 (x53 + 1))) else (none)) else (none)) else (some (x7, 0))
end
def line_Eigen.f (k : Nat) (l0 : List (List Int)) : Option (List Int × Int) := (line_looked.f k l0).bind fun bt249 => (if bt249.2.2.2.2.2 = 0 then ((lgconnected.f k bt249.1).bind fun t262 => (if t262 = true then ((llvertices.f k bt249.1 bt249.2.1 bt249.2.2.1 bt249.2.2.2.1 bt249.2.2.2.2.1).bind fun t263 => (if 0 < (t263.length : Int) then (if 0 ≤ (l0.length : Int) then (if ((l0.length : Int) : Int).toNat ≤ 35184372088832 then ((some (List.replicate ((l0.length : Int) : Int).toNat 0 : List Int)).bind fun y267 => (line_Eigen.l0 k (rd t263 0) y267 (y267.length : Int) 0 bt249.1 bt249.2.1 bt249.2.2.1 bt249.2.2.2.1 bt249.2.2.2.2.1)) else (none)) else (none)) else (none))) else (some (([] : List Int), 10)))) else (some (([] : List Int), bt249.2.2.2.2.2)))
theorem line_Eigen.mono_l : ∀ k, (∀ y0 y1 y2 y3 y4 y5 y6 y7 y8, LeO (line_Eigen.l0 k y0 y1 y2 y3 y4 y5 y6 y7 y8) (line_Eigen.l0 (k + 1) y0 y1 y2 y3 y4 y5 y6 y7 y8)) ∧ (∀ y0 y1 y2 y3, LeO (line_Eigen.l1 k y0 y1 y2 y3) (line_Eigen.l1 (k + 1) y0 y1 y2 y3))
 | 0 => ⟨fun _ _ _ _ _ _ _ _ _ r h => by simp [line_Eigen.l0] at h, fun _ _ _ _ r h => by simp [line_Eigen.l1] at h⟩
 | k + 1 => by
  obtain ⟨ih0, ih1⟩ := line_Eigen.mono_l k
  refine ⟨?_, ?_⟩
  ·
   intro y0 y1 y2 y3 y4 y5 y6 y7 y8
   unfold line_Eigen.l0
   repeat' first
   | (with_reducible exact LeO.refl _)
   | (with_reducible exact LeO.none _)
   | (with_reducible refine LeO.ite ?_ ?_)
   | (with_reducible refine LeO.bind ?_ (fun _ => ?_))
   | exact ih0 _ _ _ _ _ _ _ _ _
   | exact ih1 _ _ _ _
   | exact lgconnected.mono _ _
   | exact llvertices.mono _ _ _ _ _ _
   | exact line_looked.mono _ _
   | exact slices_Min_int_int.mono _ _
  ·
   intro y0 y1 y2 y3
   unfold line_Eigen.l1
   repeat' first
   | (with_reducible exact LeO.refl _)
   | (with_reducible exact LeO.none _)
   | (with_reducible refine LeO.ite ?_ ?_)
   | (with_reducible refine LeO.bind ?_ (fun _ => ?_))
   | exact ih0 _ _ _ _ _ _ _ _ _
   | exact ih1 _ _ _ _
   | exact lgconnected.mono _ _
   | exact llvertices.mono _ _ _ _ _ _
   | exact line_looked.mono _ _
   | exact slices_Min_int_int.mono _ _
theorem line_Eigen.mono : ∀ a0 k, LeO (line_Eigen.f k a0) (line_Eigen.f (k + 1) a0) := by
 intro a0 k
 obtain ⟨ih0, ih1⟩ := line_Eigen.mono_l k
 unfold line_Eigen.f
 repeat' first
   | (with_reducible exact LeO.refl _)
   | (with_reducible exact LeO.none _)
   | (with_reducible refine LeO.ite ?_ ?_)
   | (with_reducible refine LeO.bind ?_ (fun _ => ?_))
   | exact ih0 _ _ _ _ _ _ _ _ _
   | exact ih1 _ _ _ _
   | exact lgconnected.mono _ _
   | exact llvertices.mono _ _ _ _ _ _
   | exact line_looked.mono _ _
   | exact slices_Min_int_int.mono _ _
theorem line_Eigen.calls (k : Nat) (A0 : Option Addr) (c0 : Nat) (l0 : List (List Int)) (r1 : List Int) (r2 : Int) (w : World) (hr0 : Kd.C (Kd.slice 3 (Kd.int .i64)) w A0 l0.length l0) (hc0 : l0.length ≤ c0) (h : line_Eigen.f k l0 = some (r1, r2)) :
  Calls Try.prog 15 #[.slice A0 l0.length c0] w fun e w' => ∃ v0_ : Value, e = .returned (.tuple #[v0_, .int .i64 r2]) ∧ Kd.R (Kd.int .i64) 3 w' w.heap.size (fun _ => True) v0_ r1 ∧ Below w.heap.size w w' := by
 have hu58 := Try.underlying58
 have HR0 := xA.mk hr0
 have HC0 := xA.mk hc0
 clear hr0 hc0
 have HB := xA.mk (Below.refl w.heap.size w)
 have H : ((line_looked.f k l0).bind fun bt249 => (if bt249.2.2.2.2.2 = 0 then ((lgconnected.f k bt249.1).bind fun t262 => (if t262 = true then ((llvertices.f k bt249.1 bt249.2.1 bt249.2.2.1 bt249.2.2.2.1 bt249.2.2.2.2.1).bind fun t263 => (if 0 < (t263.length : Int) then (if 0 ≤ (l0.length : Int) then (if ((l0.length : Int) : Int).toNat ≤ 35184372088832 then ((some (List.replicate ((l0.length : Int) : Int).toNat 0 : List Int)).bind fun y267 => (line_Eigen.l0 k (rd t263 0) y267 (y267.length : Int) 0 bt249.1 bt249.2.1 bt249.2.2.1 bt249.2.2.2.1 bt249.2.2.2.2.1)) else (none)) else (none)) else (none))) else (some (([] : List Int), 10)))) else (some (([] : List Int), bt249.2.2.2.2.2)))) = some (r1, r2) := h
 clear h
 replace H := qw H
 obtain ⟨⟨t249, t252, t253, t254, t257, t260⟩, A20, H⟩ := H
 replace H : (if t260 = 0 then ((lgconnected.f k t249).bind fun t262 => (if t262 = true then ((llvertices.f k t249 t252 t253 t254 t257).bind fun t263 => (if 0 < (t263.length : Int) then (if 0 ≤ (l0.length : Int) then (if ((l0.length : Int) : Int).toNat ≤ 35184372088832 then ((some (List.replicate ((l0.length : Int) : Int).toNat 0 : List Int)).bind fun y267 => (line_Eigen.l0 k (rd t263 0) y267 (y267.length : Int) 0 t249 t252 t253 t254 t257)) else (none)) else (none)) else (none))) else (some (([] : List Int), 10)))) else (some (([] : List Int), t260))) = some (r1, r2) := H
 have A2 := xA.mk A20
 clear A20
 by_cases c3 : t260 = 0
 rotate_left
 ·
  rw [if_neg c3] at H
  have c3b0 : (t260 == 0) = false := jg c3
  have c3b1 : (t260 != 0) = true := bne_iff_ne.mpr c3
  simp only [Option.some.injEq, Prod.mk.injEq] at H
  obtain ⟨rfl, rfl⟩ := H
  go_enter Try.func15, Try.ntmps15
  go_wp2_with (first | ((with_reducible refine xK (f := 45) rfl ?_); refine xS (some 13) rfl rfl Try.func45 jk rfl #[.slice A0 l0.length c0] rfl qc ?_; (with_reducible refine (line_looked.calls k (fun k_ => k_ < w.heap.size) _ _ l0 t249 t252 t253 t254 t257 t260 _ ?side1 A2.out).mono ?_); (case side1 => exact Kd.V_mk HC0.out (Kd.F_below (Kd.C_F (Kd.heap_slice 3 (Kd.heap_int .i64)) HR0.out) qa)); rintro e w48 ⟨v250, v255, v258, rfl, ho0, ho1, ho2, hb⟩; refine ⟨_, rfl, ?_⟩; have HO251 := xA.mk (Kd.V_lower (Kd.V_mono (ok' := fun k_ => some k_ ≠ (v255 : Value).ownBlock ∧ some k_ ≠ (v258 : Value).ownBlock) ho0 (fun k_ hk_ => ⟨hk_.2.1, hk_.2.2⟩)) (xD qa)); have HO256 := xA.mk (Kd.S_lower (Kd.xQ (ok' := fun k_ => some k_ ≠ (v258 : Value).ownBlock) ho1 (fun _ hk_ => hk_.2)) (xD qa)); have HO259 := xA.mk (Kd.S_lower (Kd.xQ (ok' := fun k_ => some k_ ≠ (v255 : Value).ownBlock) ho2 (fun _ hk_ => hk_.2)) (xD qa)); replace HB := xA.mk (xF qa hb); (try clear hb); (try clear hb2); (try clear hk); (try clear hi); (try clear ho0); (try clear ho1); (try clear ho2)) | ((with_reducible refine xW (N := 4) rfl ?_); refine yF ?hg (N := 4) ?hd (cs := #[.slice none 0 0, .int .i64 0, .int .i64 0, .slice none 0 0, .slice none 0 0]) (t := 58) ?hr ?_; (case hd => rfl); (case hg => rfl); (case hr => first | (go_simp; done) | (go_simp; rfl)); intro gb261 hg w49 hbox hb; have n0_ := xA.mk (Kd.V_below (Kd.V_elderB (qj HO251.out) gb261 (Nat.le_of_eq hg.symm)) hb); have n1_ := xA.mk (Kd.xX (qh HO256.out) hb); have n2_ := xA.mk (Kd.xX (qh HO259.out) hb); have n3_ := xA.mk (xF qa hb); have n4_ := xA.mk (hbox); have n5_ := xA.mk ((by rw [hg]; exact (xD qa) : w.heap.size ≤ gb261)); have n6_ := xA.mk ((by rw [hg]; exact (xD qa) : w.heap.size ≤ gb261)); clear HO251; clear HO256; clear HO259; clear HB; have HO251 := n0_; have HO256 := n1_; have HO259 := n2_; have HB := n3_; have BK261 := n4_; have GW261 := n5_; have GE261 := n6_; clear n0_ n1_ n2_ n3_ n4_ n5_ n6_; clear hb hbox hg; obtain ⟨Ao50, co50, eo50⟩ := Kd.V_slice HO251.out; subst eo50; have hcz51_0 : w49.cell? ⟨gb261, 0, none⟩ = some (.slice none 0 0) := (xB BK261.out 0).trans rfl; have hcz51_1 : w49.cell? ⟨gb261, 1, none⟩ = some (.int .i64 0) := (xB BK261.out 1).trans rfl; have hcz51_2 : w49.cell? ⟨gb261, 2, none⟩ = some (.int .i64 0) := (xB BK261.out 2).trans rfl; have hcz51_3 : w49.cell? ⟨gb261, 3, none⟩ = some (.slice none 0 0) := (xB BK261.out 3).trans rfl; have hcz51_4 : w49.cell? ⟨gb261, 4, none⟩ = some (.slice none 0 0) := (xB BK261.out 4).trans rfl; have hfz51_0 := xC BK261.out 0; have hfz51_1 := xC BK261.out 1; have hfz51_2 := xC BK261.out 2; have hfz51_3 := xC BK261.out 3; have hfz51_4 := xC BK261.out 4; obtain ⟨Ao52, co52, eo52⟩ := Kd.yD HO256.out; subst eo52; obtain ⟨Ao53, co53, eo53⟩ := Kd.yD HO259.out; subst eo53))
  go_ret2
  exact ⟨_, qg, by first | exact Kd.R_nil _ _ _ _ _ | exact Kd.N_nil _ _ _ _ _ | exact Kd.V_nil _ _ _ _ _ | exact Kd.Q_nil _ _ _ _ _ | exact Kd.S_nil _ _ _ _ _, qo GE261.out⟩
 rw [if_pos c3] at H
 have c3b0 : (t260 == 0) = true := beq_iff_eq.mpr c3
 clear c3
 replace H := qw H
 obtain ⟨t262, A40, H⟩ := H
 replace H : (if t262 = true then ((llvertices.f k t249 t252 t253 t254 t257).bind fun t263 => (if 0 < (t263.length : Int) then (if 0 ≤ (l0.length : Int) then (if ((l0.length : Int) : Int).toNat ≤ 35184372088832 then ((some (List.replicate ((l0.length : Int) : Int).toNat 0 : List Int)).bind fun y267 => (line_Eigen.l0 k (rd t263 0) y267 (y267.length : Int) 0 t249 t252 t253 t254 t257)) else (none)) else (none)) else (none))) else (some (([] : List Int), 10))) = some (r1, r2) := H
 have A4 := xA.mk A40
 clear A40
 by_cases c5 : t262 = true
 rotate_left
 ·
  replace c5 := Bool.eq_false_iff.mpr c5
  subst c5
  have H1 : (some (([] : List Int), 10)) = some (r1, r2) := by rw [if_neg (show ¬ (false = true) by decide)] at H; exact H
  clear H
  have H := H1
  clear H1
  simp only [Option.some.injEq, Prod.mk.injEq] at H
  obtain ⟨rfl, rfl⟩ := H
  go_enter Try.func15, Try.ntmps15
  go_wp2_with (first | ((with_reducible refine xK (f := 45) rfl ?_); refine xS (some 13) rfl rfl Try.func45 jk rfl #[.slice A0 l0.length c0] rfl qc ?_; (with_reducible refine (line_looked.calls k (fun k_ => k_ < w.heap.size) _ _ l0 t249 t252 t253 t254 t257 t260 _ ?side1 A2.out).mono ?_); (case side1 => exact Kd.V_mk HC0.out (Kd.F_below (Kd.C_F (Kd.heap_slice 3 (Kd.heap_int .i64)) HR0.out) qa)); rintro e w41 ⟨v250, v255, v258, rfl, ho0, ho1, ho2, hb⟩; refine ⟨_, rfl, ?_⟩; have HO251 := xA.mk (Kd.V_lower (Kd.V_mono (ok' := fun k_ => some k_ ≠ (v255 : Value).ownBlock ∧ some k_ ≠ (v258 : Value).ownBlock) ho0 (fun k_ hk_ => ⟨hk_.2.1, hk_.2.2⟩)) (xD qa)); have HO256 := xA.mk (Kd.S_lower (Kd.xQ (ok' := fun k_ => some k_ ≠ (v258 : Value).ownBlock) ho1 (fun _ hk_ => hk_.2)) (xD qa)); have HO259 := xA.mk (Kd.S_lower (Kd.xQ (ok' := fun k_ => some k_ ≠ (v255 : Value).ownBlock) ho2 (fun _ hk_ => hk_.2)) (xD qa)); replace HB := xA.mk (xF qa hb); (try clear hb); (try clear hb2); (try clear hk); (try clear hi); (try clear ho0); (try clear ho1); (try clear ho2)) | ((with_reducible refine xW (N := 4) rfl ?_); refine yF ?hg (N := 4) ?hd (cs := #[.slice none 0 0, .int .i64 0, .int .i64 0, .slice none 0 0, .slice none 0 0]) (t := 58) ?hr ?_; (case hd => rfl); (case hg => rfl); (case hr => first | (go_simp; done) | (go_simp; rfl)); intro gb261 hg w42 hbox hb; have n0_ := xA.mk (Kd.V_below (Kd.V_elderB (qj HO251.out) gb261 (Nat.le_of_eq hg.symm)) hb); have n1_ := xA.mk (Kd.xX (qh HO256.out) hb); have n2_ := xA.mk (Kd.xX (qh HO259.out) hb); have n3_ := xA.mk (xF qa hb); have n4_ := xA.mk (hbox); have n5_ := xA.mk ((by rw [hg]; exact (xD qa) : w.heap.size ≤ gb261)); have n6_ := xA.mk ((by rw [hg]; exact (xD qa) : w.heap.size ≤ gb261)); clear HO251; clear HO256; clear HO259; clear HB; have HO251 := n0_; have HO256 := n1_; have HO259 := n2_; have HB := n3_; have BK261 := n4_; have GW261 := n5_; have GE261 := n6_; clear n0_ n1_ n2_ n3_ n4_ n5_ n6_; clear hb hbox hg; obtain ⟨Ao43, co43, eo43⟩ := Kd.V_slice HO251.out; subst eo43; have hcz44_0 : w42.cell? ⟨gb261, 0, none⟩ = some (.slice none 0 0) := (xB BK261.out 0).trans rfl; have hcz44_1 : w42.cell? ⟨gb261, 1, none⟩ = some (.int .i64 0) := (xB BK261.out 1).trans rfl; have hcz44_2 : w42.cell? ⟨gb261, 2, none⟩ = some (.int .i64 0) := (xB BK261.out 2).trans rfl; have hcz44_3 : w42.cell? ⟨gb261, 3, none⟩ = some (.slice none 0 0) := (xB BK261.out 3).trans rfl; have hcz44_4 : w42.cell? ⟨gb261, 4, none⟩ = some (.slice none 0 0) := (xB BK261.out 4).trans rfl; have hfz44_0 := xC BK261.out 0; have hfz44_1 := xC BK261.out 1; have hfz44_2 := xC BK261.out 2; have hfz44_3 := xC BK261.out 3; have hfz44_4 := xC BK261.out 4; obtain ⟨Ao45, co45, eo45⟩ := Kd.yD HO256.out; subst eo45; obtain ⟨Ao46, co46, eo46⟩ := Kd.yD HO259.out; subst eo46) | ((with_reducible refine xK (f := 46) rfl ?_); refine xS (some 23) rfl rfl Try.func46 jk rfl #[.slice Ao43 t249.length co43] rfl qc ?_; (with_reducible refine (lgconnected.calls k _ _ t249 false _ ?side1 ?side2 A4.out).mono ?_); (case side1 => refine (Kd.yB (e := 26) (base := w.heap.size) (ok := fun k_ => ((some k_ ≠ (.slice Ao45 t254.length co45 : Value).ownBlock ∧ some k_ ≠ (.slice Ao46 t257.length co46 : Value).ownBlock) ∧ k_ ≠ gb261)) (n := t249.length) (c := co43) ?_).2.2; exact (by (with_reducible repeat (first | apply Kd.V_alloc | apply Kd.V_drewN | apply Kd.V_drew)); exact (Kd.V_mono (Kd.V_far (p := ⟨gb261, 4, none⟩) (Kd.V_far (p := ⟨gb261, 3, none⟩) (Kd.V_far (p := ⟨gb261, 2, none⟩) (Kd.V_far (p := ⟨gb261, 1, none⟩) (Kd.V_far (p := ⟨gb261, 0, none⟩) (Kd.V_mono HO251.out (fun k_ hk => (⟨hk, hk.2⟩ : _ ∧ k_ ≠ gb261))) (fun _ hk => hk.2) (.slice Ao43 t249.length co43)) (fun _ hk => hk.2) (.int .i64 t252)) (fun _ hk => hk.2) (.int .i64 t253)) (fun _ hk => hk.2) (.slice Ao45 t254.length co45)) (fun _ hk => hk.2) (.slice Ao46 t257.length co46)) (fun _ h_ => h_.1)))); (case side2 => exact (Kd.yB HO251.out).2.1); rintro e w47 ⟨rfl, hb⟩; refine ⟨_, rfl, ?_⟩; have n0_ := xA.mk (Kd.V_below (by (with_reducible repeat (first | apply Kd.V_alloc | apply Kd.V_drewN | apply Kd.V_drew)); exact (Kd.V_mono (Kd.V_far (p := ⟨gb261, 4, none⟩) (Kd.V_far (p := ⟨gb261, 3, none⟩) (Kd.V_far (p := ⟨gb261, 2, none⟩) (Kd.V_far (p := ⟨gb261, 1, none⟩) (Kd.V_far (p := ⟨gb261, 0, none⟩) (Kd.V_mono HO251.out (fun k_ hk => (⟨hk, hk.2⟩ : _ ∧ k_ ≠ gb261))) (fun _ hk => hk.2) (.slice Ao43 t249.length co43)) (fun _ hk => hk.2) (.int .i64 t252)) (fun _ hk => hk.2) (.int .i64 t253)) (fun _ hk => hk.2) (.slice Ao45 t254.length co45)) (fun _ hk => hk.2) (.slice Ao46 t257.length co46)) (fun _ h_ => h_.1))) hb); have n1_ := xA.mk (Kd.xX (by (with_reducible repeat (first | apply Kd.S_alloc | apply Kd.yA | apply Kd.xV)); exact (Kd.xQ (Kd.S_far (p := ⟨gb261, 4, none⟩) (Kd.S_far (p := ⟨gb261, 3, none⟩) (Kd.S_far (p := ⟨gb261, 2, none⟩) (Kd.S_far (p := ⟨gb261, 1, none⟩) (Kd.S_far (p := ⟨gb261, 0, none⟩) (Kd.S_types HO256.out BK261.out (by decide)) (fun _ hk => hk.2) (.slice Ao43 t249.length co43)) (fun _ hk => hk.2) (.int .i64 t252)) (fun _ hk => hk.2) (.int .i64 t253)) (fun _ hk => hk.2) (.slice Ao45 t254.length co45)) (fun _ hk => hk.2) (.slice Ao46 t257.length co46)) (fun _ h_ => h_.1))) hb); have n2_ := xA.mk (Kd.xX (by (with_reducible repeat (first | apply Kd.S_alloc | apply Kd.yA | apply Kd.xV)); exact (Kd.xQ (Kd.S_far (p := ⟨gb261, 4, none⟩) (Kd.S_far (p := ⟨gb261, 3, none⟩) (Kd.S_far (p := ⟨gb261, 2, none⟩) (Kd.S_far (p := ⟨gb261, 1, none⟩) (Kd.S_far (p := ⟨gb261, 0, none⟩) (Kd.S_types HO259.out BK261.out (by decide)) (fun _ hk => hk.2) (.slice Ao43 t249.length co43)) (fun _ hk => hk.2) (.int .i64 t252)) (fun _ hk => hk.2) (.int .i64 t253)) (fun _ hk => hk.2) (.slice Ao45 t254.length co45)) (fun _ hk => hk.2) (.slice Ao46 t257.length co46)) (fun _ h_ => h_.1))) hb); have n3_ := xA.mk (xO (g := gb261) (o := .cells #[.slice Ao43 t249.length co43, .int .i64 t252, .int .i64 t253, .slice Ao45 t254.length co45, .slice Ao46 t257.length co46] 58 (0, 0)) (by (with_reducible repeat (first | refine xI ?_ _ | refine xH ?_ | refine xG ?_ _)); refine xT (cs := #[.slice Ao43 t249.length co43, .int .i64 t252, .int .i64 t253, .slice Ao45 t254.length co45, .slice none 0 0]) ?_ 4 _ rfl; (with_reducible repeat (first | refine xI ?_ _ | refine xH ?_ | refine xG ?_ _)); refine xT (cs := #[.slice Ao43 t249.length co43, .int .i64 t252, .int .i64 t253, .slice none 0 0, .slice none 0 0]) ?_ 3 _ rfl; (with_reducible repeat (first | refine xI ?_ _ | refine xH ?_ | refine xG ?_ _)); refine xT (cs := #[.slice Ao43 t249.length co43, .int .i64 t252, .int .i64 0, .slice none 0 0, .slice none 0 0]) ?_ 2 _ rfl; (with_reducible repeat (first | refine xI ?_ _ | refine xH ?_ | refine xG ?_ _)); refine xT (cs := #[.slice Ao43 t249.length co43, .int .i64 0, .int .i64 0, .slice none 0 0, .slice none 0 0]) ?_ 1 _ rfl; (with_reducible repeat (first | refine xI ?_ _ | refine xH ?_ | refine xG ?_ _)); refine xT (cs := #[.slice none 0 0, .int .i64 0, .int .i64 0, .slice none 0 0, .slice none 0 0]) ?_ 0 _ rfl; (with_reducible repeat (first | refine xI ?_ _ | refine xH ?_ | refine xG ?_ _)); exact BK261.out) hb); have n4_ := xA.mk (xF (qo GE261.out) hb); clear HO251; clear HO256; clear HO259; clear BK261; clear HB; have HO251 := n0_; have HO256 := n1_; have HO259 := n2_; have BK261 := n3_; have HB := n4_; clear n0_ n1_ n2_ n3_ n4_; (try clear hb); (try clear hb2); (try clear hk); (try clear hi)))
  go_ret2
  exact ⟨_, qg, by first | exact Kd.R_nil _ _ _ _ _ | exact Kd.N_nil _ _ _ _ _ | exact Kd.V_nil _ _ _ _ _ | exact Kd.Q_nil _ _ _ _ _ | exact Kd.S_nil _ _ _ _ _, qo GE261.out⟩
 subst c5
 have H1 : ((llvertices.f k t249 t252 t253 t254 t257).bind fun t263 => (if 0 < (t263.length : Int) then (if 0 ≤ (l0.length : Int) then (if ((l0.length : Int) : Int).toNat ≤ 35184372088832 then ((some (List.replicate ((l0.length : Int) : Int).toNat 0 : List Int)).bind fun y267 => (line_Eigen.l0 k (rd t263 0) y267 (y267.length : Int) 0 t249 t252 t253 t254 t257)) else (none)) else (none)) else (none))) = some (r1, r2) := by rw [if_pos rfl] at H; exact H
 clear H
 have H := H1
 clear H1
 replace H := qw H
 obtain ⟨t263, A60, H⟩ := H
 replace H : (if 0 < (t263.length : Int) then (if 0 ≤ (l0.length : Int) then (if ((l0.length : Int) : Int).toNat ≤ 35184372088832 then ((some (List.replicate ((l0.length : Int) : Int).toNat 0 : List Int)).bind fun y267 => (line_Eigen.l0 k (rd t263 0) y267 (y267.length : Int) 0 t249 t252 t253 t254 t257)) else (none)) else (none)) else (none)) = some (r1, r2) := H
 have A6 := xA.mk A60
 clear A60
 obtain ⟨c7, H⟩ := ite_some H
 have c7b0 : decide (0 < (t263.length : Int)) = true := qu c7
 try have c7z7_1 : decide (0 < (x7_1.length : Int)) = true := by rw [← hl7_1]; exact c7b0
 try have c7z7_2 : decide (0 < (x7_2.length : Int)) = true := by rw [← hl7_2]; exact c7b0
 have c7b1 : decide (0 < t263.length) = true := qu jj
 clear c7
 obtain ⟨c8, H⟩ := ite_some H
 have c8b0 := eq_true c8
 have c8b1 : decide (0 ≤ (l0.length : Int)) = true := qu c8
 clear c8
 obtain ⟨c9, H⟩ := ite_some H
 have c9b0 := eq_true c9
 have c9b1 : decide (((l0.length : Int) : Int).toNat ≤ 35184372088832) = true := qu c9
 clear c9
 obtain ⟨y267, hy267⟩ : ∃ y_ : List Int, y_ = (List.replicate ((l0.length : Int) : Int).toNat 0) := ⟨_, rfl⟩
 replace H : (line_Eigen.l0 k (rd t263 0) y267 (y267.length : Int) 0 t249 t252 t253 t254 t257) = some (r1, r2) := by first | (rw [hy267]; with_reducible exact H) | (have H2_ := (Option.bind_some _ _).symm.trans H; rw [hy267]; with_reducible exact H2_) | (have H2_ := (Option.bind_some _ _).symm.trans H; with_reducible exact H2_) | with_reducible exact H | (rw [hy267]; exact H) | exact H
 have Ny267 := xA.mk hy267
 clear hy267
 have H' := xA.mk H
 clear H
 go_enter Try.func15, Try.ntmps15
 go_wp2_with (first | ((with_reducible refine xK (f := 45) rfl ?_); refine xS (some 13) rfl rfl Try.func45 jk rfl #[.slice A0 l0.length c0] rfl qc ?_; (with_reducible refine (line_looked.calls k (fun k_ => k_ < w.heap.size) _ _ l0 t249 t252 t253 t254 t257 t260 _ ?side1 A2.out).mono ?_); (case side1 => exact Kd.V_mk HC0.out (Kd.F_below (Kd.C_F (Kd.heap_slice 3 (Kd.heap_int .i64)) HR0.out) qa)); rintro e w10 ⟨v250, v255, v258, rfl, ho0, ho1, ho2, hb⟩; refine ⟨_, rfl, ?_⟩; have HO251 := xA.mk (Kd.V_lower (Kd.V_mono (ok' := fun k_ => some k_ ≠ (v255 : Value).ownBlock ∧ some k_ ≠ (v258 : Value).ownBlock) ho0 (fun k_ hk_ => ⟨hk_.2.1, hk_.2.2⟩)) (xD qa)); have HO256 := xA.mk (Kd.S_lower (Kd.xQ (ok' := fun k_ => some k_ ≠ (v258 : Value).ownBlock) ho1 (fun _ hk_ => hk_.2)) (xD qa)); have HO259 := xA.mk (Kd.S_lower (Kd.xQ (ok' := fun k_ => some k_ ≠ (v255 : Value).ownBlock) ho2 (fun _ hk_ => hk_.2)) (xD qa)); replace HB := xA.mk (xF qa hb); (try clear hb); (try clear hb2); (try clear hk); (try clear hi); (try clear ho0); (try clear ho1); (try clear ho2)) | ((with_reducible refine xW (N := 4) rfl ?_); refine yF ?hg (N := 4) ?hd (cs := #[.slice none 0 0, .int .i64 0, .int .i64 0, .slice none 0 0, .slice none 0 0]) (t := 58) ?hr ?_; (case hd => rfl); (case hg => rfl); (case hr => first | (go_simp; done) | (go_simp; rfl)); intro gb261 hg w11 hbox hb; have n0_ := xA.mk (Kd.V_below (Kd.V_elderB (qj HO251.out) gb261 (Nat.le_of_eq hg.symm)) hb); have n1_ := xA.mk (Kd.xX (qh HO256.out) hb); have n2_ := xA.mk (Kd.xX (qh HO259.out) hb); have n3_ := xA.mk (xF qa hb); have n4_ := xA.mk (hbox); have n5_ := xA.mk ((by rw [hg]; exact (xD qa) : w.heap.size ≤ gb261)); have n6_ := xA.mk ((by rw [hg]; exact (xD qa) : w.heap.size ≤ gb261)); clear HO251; clear HO256; clear HO259; clear HB; have HO251 := n0_; have HO256 := n1_; have HO259 := n2_; have HB := n3_; have BK261 := n4_; have GW261 := n5_; have GE261 := n6_; clear n0_ n1_ n2_ n3_ n4_ n5_ n6_; clear hb hbox hg; obtain ⟨Ao12, co12, eo12⟩ := Kd.V_slice HO251.out; subst eo12; have hcz13_0 : w11.cell? ⟨gb261, 0, none⟩ = some (.slice none 0 0) := (xB BK261.out 0).trans rfl; have hcz13_1 : w11.cell? ⟨gb261, 1, none⟩ = some (.int .i64 0) := (xB BK261.out 1).trans rfl; have hcz13_2 : w11.cell? ⟨gb261, 2, none⟩ = some (.int .i64 0) := (xB BK261.out 2).trans rfl; have hcz13_3 : w11.cell? ⟨gb261, 3, none⟩ = some (.slice none 0 0) := (xB BK261.out 3).trans rfl; have hcz13_4 : w11.cell? ⟨gb261, 4, none⟩ = some (.slice none 0 0) := (xB BK261.out 4).trans rfl; have hfz13_0 := xC BK261.out 0; have hfz13_1 := xC BK261.out 1; have hfz13_2 := xC BK261.out 2; have hfz13_3 := xC BK261.out 3; have hfz13_4 := xC BK261.out 4; obtain ⟨Ao14, co14, eo14⟩ := Kd.yD HO256.out; subst eo14; obtain ⟨Ao15, co15, eo15⟩ := Kd.yD HO259.out; subst eo15) | ((with_reducible refine xK (f := 46) rfl ?_); refine xS (some 23) rfl rfl Try.func46 jk rfl #[.slice Ao12 t249.length co12] rfl qc ?_; (with_reducible refine (lgconnected.calls k _ _ t249 true _ ?side1 ?side2 A4.out).mono ?_); (case side1 => refine (Kd.yB (e := 26) (base := w.heap.size) (ok := fun k_ => ((some k_ ≠ (.slice Ao14 t254.length co14 : Value).ownBlock ∧ some k_ ≠ (.slice Ao15 t257.length co15 : Value).ownBlock) ∧ k_ ≠ gb261)) (n := t249.length) (c := co12) ?_).2.2; exact (by (with_reducible repeat (first | apply Kd.V_alloc | apply Kd.V_drewN | apply Kd.V_drew)); exact (Kd.V_mono (Kd.V_far (p := ⟨gb261, 4, none⟩) (Kd.V_far (p := ⟨gb261, 3, none⟩) (Kd.V_far (p := ⟨gb261, 2, none⟩) (Kd.V_far (p := ⟨gb261, 1, none⟩) (Kd.V_far (p := ⟨gb261, 0, none⟩) (Kd.V_mono HO251.out (fun k_ hk => (⟨hk, hk.2⟩ : _ ∧ k_ ≠ gb261))) (fun _ hk => hk.2) (.slice Ao12 t249.length co12)) (fun _ hk => hk.2) (.int .i64 t252)) (fun _ hk => hk.2) (.int .i64 t253)) (fun _ hk => hk.2) (.slice Ao14 t254.length co14)) (fun _ hk => hk.2) (.slice Ao15 t257.length co15)) (fun _ h_ => h_.1)))); (case side2 => exact (Kd.yB HO251.out).2.1); rintro e w16 ⟨rfl, hb⟩; refine ⟨_, rfl, ?_⟩; have n0_ := xA.mk (Kd.V_below (by (with_reducible repeat (first | apply Kd.V_alloc | apply Kd.V_drewN | apply Kd.V_drew)); exact (Kd.V_mono (Kd.V_far (p := ⟨gb261, 4, none⟩) (Kd.V_far (p := ⟨gb261, 3, none⟩) (Kd.V_far (p := ⟨gb261, 2, none⟩) (Kd.V_far (p := ⟨gb261, 1, none⟩) (Kd.V_far (p := ⟨gb261, 0, none⟩) (Kd.V_mono HO251.out (fun k_ hk => (⟨hk, hk.2⟩ : _ ∧ k_ ≠ gb261))) (fun _ hk => hk.2) (.slice Ao12 t249.length co12)) (fun _ hk => hk.2) (.int .i64 t252)) (fun _ hk => hk.2) (.int .i64 t253)) (fun _ hk => hk.2) (.slice Ao14 t254.length co14)) (fun _ hk => hk.2) (.slice Ao15 t257.length co15)) (fun _ h_ => h_.1))) hb); have n1_ := xA.mk (Kd.xX (by (with_reducible repeat (first | apply Kd.S_alloc | apply Kd.yA | apply Kd.xV)); exact (Kd.xQ (Kd.S_far (p := ⟨gb261, 4, none⟩) (Kd.S_far (p := ⟨gb261, 3, none⟩) (Kd.S_far (p := ⟨gb261, 2, none⟩) (Kd.S_far (p := ⟨gb261, 1, none⟩) (Kd.S_far (p := ⟨gb261, 0, none⟩) (Kd.S_types HO256.out BK261.out (by decide)) (fun _ hk => hk.2) (.slice Ao12 t249.length co12)) (fun _ hk => hk.2) (.int .i64 t252)) (fun _ hk => hk.2) (.int .i64 t253)) (fun _ hk => hk.2) (.slice Ao14 t254.length co14)) (fun _ hk => hk.2) (.slice Ao15 t257.length co15)) (fun _ h_ => h_.1))) hb); have n2_ := xA.mk (Kd.xX (by (with_reducible repeat (first | apply Kd.S_alloc | apply Kd.yA | apply Kd.xV)); exact (Kd.xQ (Kd.S_far (p := ⟨gb261, 4, none⟩) (Kd.S_far (p := ⟨gb261, 3, none⟩) (Kd.S_far (p := ⟨gb261, 2, none⟩) (Kd.S_far (p := ⟨gb261, 1, none⟩) (Kd.S_far (p := ⟨gb261, 0, none⟩) (Kd.S_types HO259.out BK261.out (by decide)) (fun _ hk => hk.2) (.slice Ao12 t249.length co12)) (fun _ hk => hk.2) (.int .i64 t252)) (fun _ hk => hk.2) (.int .i64 t253)) (fun _ hk => hk.2) (.slice Ao14 t254.length co14)) (fun _ hk => hk.2) (.slice Ao15 t257.length co15)) (fun _ h_ => h_.1))) hb); have n3_ := xA.mk (xO (g := gb261) (o := .cells #[.slice Ao12 t249.length co12, .int .i64 t252, .int .i64 t253, .slice Ao14 t254.length co14, .slice Ao15 t257.length co15] 58 (0, 0)) (by (with_reducible repeat (first | refine xI ?_ _ | refine xH ?_ | refine xG ?_ _)); refine xT (cs := #[.slice Ao12 t249.length co12, .int .i64 t252, .int .i64 t253, .slice Ao14 t254.length co14, .slice none 0 0]) ?_ 4 _ rfl; (with_reducible repeat (first | refine xI ?_ _ | refine xH ?_ | refine xG ?_ _)); refine xT (cs := #[.slice Ao12 t249.length co12, .int .i64 t252, .int .i64 t253, .slice none 0 0, .slice none 0 0]) ?_ 3 _ rfl; (with_reducible repeat (first | refine xI ?_ _ | refine xH ?_ | refine xG ?_ _)); refine xT (cs := #[.slice Ao12 t249.length co12, .int .i64 t252, .int .i64 0, .slice none 0 0, .slice none 0 0]) ?_ 2 _ rfl; (with_reducible repeat (first | refine xI ?_ _ | refine xH ?_ | refine xG ?_ _)); refine xT (cs := #[.slice Ao12 t249.length co12, .int .i64 0, .int .i64 0, .slice none 0 0, .slice none 0 0]) ?_ 1 _ rfl; (with_reducible repeat (first | refine xI ?_ _ | refine xH ?_ | refine xG ?_ _)); refine xT (cs := #[.slice none 0 0, .int .i64 0, .int .i64 0, .slice none 0 0, .slice none 0 0]) ?_ 0 _ rfl; (with_reducible repeat (first | refine xI ?_ _ | refine xH ?_ | refine xG ?_ _)); exact BK261.out) hb); have n4_ := xA.mk (xF (qo GE261.out) hb); clear HO251; clear HO256; clear HO259; clear BK261; clear HB; have HO251 := n0_; have HO256 := n1_; have HO259 := n2_; have BK261 := n3_; have HB := n4_; clear n0_ n1_ n2_ n3_ n4_; (try clear hb); (try clear hb2); (try clear hk); (try clear hi); have hcz17_0 : w16.cell? ⟨gb261, 0, none⟩ = some (.slice Ao12 t249.length co12) := (xB BK261.out 0).trans rfl; have hcz17_1 : w16.cell? ⟨gb261, 1, none⟩ = some (.int .i64 t252) := (xB BK261.out 1).trans rfl; have hcz17_2 : w16.cell? ⟨gb261, 2, none⟩ = some (.int .i64 t253) := (xB BK261.out 2).trans rfl; have hcz17_3 : w16.cell? ⟨gb261, 3, none⟩ = some (.slice Ao14 t254.length co14) := (xB BK261.out 3).trans rfl; have hcz17_4 : w16.cell? ⟨gb261, 4, none⟩ = some (.slice Ao15 t257.length co15) := (xB BK261.out 4).trans rfl; have hfz17_0 := xC BK261.out 0; have hfz17_1 := xC BK261.out 1; have hfz17_2 := xC BK261.out 2; have hfz17_3 := xC BK261.out 3; have hfz17_4 := xC BK261.out 4) | ((with_reducible refine xK (f := 47) rfl ?_); refine xS (some 26) rfl rfl Try.func47 jk rfl #[.agg #[.slice Ao12 t249.length co12, .int .i64 t252, .int .i64 t253, .slice Ao14 t254.length co14, .slice Ao15 t257.length co15]] rfl qc ?_; (with_reducible refine (llvertices.calls k _ _ t249 t252 t253 _ _ t254 _ _ t257 t263 _ ?side1 ?side2 ?side3 ?side4 ?side5 ?side6 A6.out).mono ?_); (case side1 => exact qm (Kd.yB HO251.out).2.2); (case side2 => exact (Kd.yB HO251.out).2.1); (case side3 => exact qm (Kd.xJ HO256.out).2.2); (case side4 => exact (Kd.xJ HO256.out).2.1); (case side5 => exact qm (Kd.xJ HO259.out).2.2); (case side6 => exact (Kd.xJ HO259.out).2.1); rintro e w18 ⟨v264, rfl, ho0, hb⟩; refine ⟨_, rfl, ?_⟩; replace HO251 := xA.mk (Kd.V_elder' (qj HO251.out) (Kd.R_base ho0) hb); replace HO256 := xA.mk (Kd.S_elder' (qh HO256.out) (Kd.R_base ho0) hb); replace HO259 := xA.mk (Kd.S_elder' (qh HO259.out) (Kd.R_base ho0) hb); have HO265 := xA.mk (Kd.R_lower ho0 (xD (qo GE261.out))); replace BK261 := xA.mk (xO (g := gb261) (o := .cells #[.slice Ao12 t249.length co12, .int .i64 t252, .int .i64 t253, .slice Ao14 t254.length co14, .slice Ao15 t257.length co15] 58 (0, 0)) (qn BK261.out) hb); replace HB := xA.mk (xF (qo GE261.out) hb); (try clear hb); (try clear hb2); (try clear hk); (try clear hi); (try clear ho0); obtain ⟨Ao19, co19, eo19⟩ := Kd.R_slice HO265.out; subst eo19; have p266 : 0 ≤ (0 : Int) := jj; have q266 : 0 < (t263.length : Int) := qr; obtain ⟨ad266, e266, hx266_0⟩ := Kd.xU (Kd.yE HO265.out).2.2 0 p266 q266; cases e266; have qi266 : (0 < t263.length) = True := eq_true jj; (try rw [show ((0 : Int)).toNat = 0 from rfl] at hx266_0); (try rw [Addr.add_zero'] at hx266_0); replace p266 := eq_true p266; replace q266 := eq_true q266) | ((with_reducible refine xW (N := 31) rfl ?_); refine Kd.R_make (Kd.int .i64) _ 3 rfl (N := 31) rfl 26 _ _ rfl (l0.length : Int) rfl rfl Try.underlying26 (.int .i64 0) 8 info3 rfl (by decide) jj 0 (ok := fun _ => True) (okp := fun _ => True) rfl (fun _ hk => hk) trivial (qr) (Nat.le_trans (Nat.mul_le_mul_right _ (qr : (l0.length : Int).toNat ≤ 35184372088832)) jj) (Below.refl _ _) (Nat.le_refl _) ?_; intro v268 w20 ho21 hb hg_ hnew_; clear hg_ hnew_; (first | rw [← Ny267.out] at ho21 | (simp only [Int.reduceToNat] at ho21; rw [← Ny267.out] at ho21)); replace HO251 := xA.mk (Kd.V_elder' (qj HO251.out) (Kd.R_base ho21) hb); replace HO256 := xA.mk (Kd.S_elder' (qh HO256.out) (Kd.R_base ho21) hb); replace HO259 := xA.mk (Kd.S_elder' (qh HO259.out) (Kd.R_base ho21) hb); have HO269 := xA.mk (Kd.R_lower (Kd.R_new' ho21 (Kd.R_lt (qi HO265.out))) (xD (qo GE261.out))); replace HO265 := xA.mk (Kd.R_elder' (qi HO265.out) (Kd.R_base ho21) hb); replace BK261 := xA.mk (xO (g := gb261) (o := .cells #[.slice Ao12 t249.length co12, .int .i64 t252, .int .i64 t253, .slice Ao14 t254.length co14, .slice Ao15 t257.length co15] 58 (0, 0)) (qn BK261.out) hb); replace HB := xA.mk (xF (qo GE261.out) hb); clear hb ho21; obtain ⟨Ao22, co22, eo22⟩ := Kd.R_slice HO269.out; subst eo22))
 go_loopg [34] k (fun kq v34 w' => ∃ (x7_1 : List Int) (x34_1 : Int), v34 = .int .i64 x34_1 ∧ xA (line_Eigen.l0 kq (rd t263 0) x7_1 (y267.length : Int) x34_1 t249 t252 t253 t254 t257 = some (r1, r2)) ∧ xA (kq ≤ k) ∧ xA (Kd.R (Kd.int .i64) 3 w' w.heap.size (fun _ => True) (.slice Ao22 y267.length co22) x7_1) ∧ xA (Kd.V (Kd.slice 3 (Kd.int .i64)) 26 w' w.heap.size (fun k_ => some k_ ≠ ((.slice Ao22 y267.length co22) : Value).ownBlock ∧ some k_ ≠ ((.slice Ao14 t254.length co14) : Value).ownBlock ∧ some k_ ≠ ((.slice Ao15 t257.length co15) : Value).ownBlock ∧ k_ ≠ gb261) (.slice Ao12 t249.length co12) t249) ∧ xA (Kd.S (Kd.slice 3 (Kd.int .i64)) 26 w' w.heap.size (fun k_ => some k_ ≠ ((.slice Ao22 y267.length co22) : Value).ownBlock ∧ some k_ ≠ ((.slice Ao15 t257.length co15) : Value).ownBlock) (.slice Ao14 t254.length co14) t254) ∧ xA (Kd.S (Kd.slice 3 (Kd.int .i64)) 26 w' w.heap.size (fun k_ => some k_ ≠ ((.slice Ao22 y267.length co22) : Value).ownBlock ∧ some k_ ≠ ((.slice Ao14 t254.length co14) : Value).ownBlock) (.slice Ao15 t257.length co15) t257) ∧ xA (w'.heap[gb261]? = some (.cells #[(.slice Ao12 t249.length co12), .int .i64 t252, .int .i64 t253, (.slice Ao14 t254.length co14), (.slice Ao15 t257.length co15)] 58 (0, 0))) ∧ xA (Below w.heap.size w w'))
 case atStart => exact ⟨(y267), (0), qf, H', ⟨Nat.le_refl _⟩, ⟨by (with_reducible repeat (first | apply Kd.R_alloc | apply Kd.R_drewN | apply Kd.R_drew)); exact Kd.xZ HO269.out (fun _ hk => trivial)⟩, ⟨by (with_reducible repeat (first | apply Kd.V_alloc | apply Kd.V_drewN | apply Kd.V_drew)); exact Kd.V_mono HO251.out (fun _ hk => ⟨hk.2, ⟨hk.1.1.1.1, ⟨hk.1.1.1.2, hk.1.1.2⟩⟩⟩)⟩, ⟨by (with_reducible repeat (first | apply Kd.S_alloc | apply Kd.yA | apply Kd.xV)); exact Kd.xQ HO256.out (fun _ hk => ⟨hk.2, hk.1.1⟩)⟩, ⟨by (with_reducible repeat (first | apply Kd.S_alloc | apply Kd.yA | apply Kd.xV)); exact Kd.xQ HO259.out (fun _ hk => ⟨hk.2, hk.1.1⟩)⟩, ⟨qn BK261.out⟩, ⟨qo GE261.out⟩⟩
 case round =>
  clear H'
  try clear c1
  try clear p2
  try clear q2
  try clear hx2
  try clear qi2
  try clear c3
  try clear c3b0
  try clear c3b1
  obtain ⟨x7_1, x34_1, rfl, HA, HK1, HO_7, HO_262000, HO_262003, HO_262004, BK261, HB⟩ := hrel
  have hl7_1 := (Kd.yE HO_7.out).1
  rw [hl7_1] at HO_7
  (try simp only [hl7_1])
  (try simp only [hl7_1] at BK261)
  (try simp only [hl7_1] at HO_262000)
  (try simp only [hl7_1] at HO_262003)
  (try simp only [hl7_1] at HO_262004)
  obtain _ | k1 := gk
  · exact absurd HA.out (by simp [line_Eigen.l0])
  have H := HA.out
  clear HA
  simp only [line_Eigen.l0] at H
  by_cases c23 : x34_1 < (y267.length : Int)
  ·
   rw [if_pos c23] at H
   have c23b0 : decide (x34_1 < (y267.length : Int)) = true := qu c23
   try have c23z7_1 : decide (x34_1 < (x7_1.length : Int)) = true := by rw [← hl7_1]; exact c23b0
   try have c23z7_2 : decide (x34_1 < (x7_2.length : Int)) = true := by rw [← hl7_2]; exact c23b0
   clear c23
   obtain ⟨c24b0, H⟩ := xL H
   obtain ⟨c25, H⟩ := ite_some H
   have c25b0 : decide (x34_1 < (t257.length : Int)) = true := qu c25
   try have c25z7_1 : decide (x34_1 < (x7_1.length : Int)) = true := by rw [← hl7_1]; exact c25b0
   try have c25z7_2 : decide (x34_1 < (x7_2.length : Int)) = true := by rw [← hl7_2]; exact c25b0
   clear c25
   obtain ⟨c26b0, H⟩ := xL H
   obtain ⟨c27b0, H⟩ := xL H
   obtain ⟨c28, H⟩ := ite_some H
   have c28b0 : decide (x34_1 < (x7_1.length : Int)) = true := qu c28
   try have c28z7_1 : decide (x34_1 < (x7_1.length : Int)) = true := by rw [← hl7_1]; exact c28b0
   try have c28z7_2 : decide (x34_1 < (x7_2.length : Int)) = true := by rw [← hl7_2]; exact c28b0
   clear c28
   obtain ⟨y272, hy272⟩ : ∃ y_ : List Int, y_ = (x7_1.set (x34_1 : Int).toNat (rd (rd_L1 t257 x34_1) (rd t263 0))) := ⟨_, rfl⟩
   replace H : (line_Eigen.l0 k1 (rd t263 0) y272 (y267.length : Int) (wrap64 (x34_1 + 1)) t249 t252 t253 t254 t257) = some (r1, r2) := by rw [hy272]; exact H
   have Ny272 := xA.mk hy272
   clear hy272
   have H' := xA.mk H
   clear H
   have hcz30_0 : wr.cell? ⟨gb261, 0, none⟩ = some (.slice Ao12 t249.length co12) := (xB BK261.out 0).trans rfl
   have hcz30_1 : wr.cell? ⟨gb261, 1, none⟩ = some (.int .i64 t252) := (xB BK261.out 1).trans rfl
   have hcz30_2 : wr.cell? ⟨gb261, 2, none⟩ = some (.int .i64 t253) := (xB BK261.out 2).trans rfl
   have hcz30_3 : wr.cell? ⟨gb261, 3, none⟩ = some (.slice Ao14 t254.length co14) := (xB BK261.out 3).trans rfl
   have hcz30_4 : wr.cell? ⟨gb261, 4, none⟩ = some (.slice Ao15 t257.length co15) := (xB BK261.out 4).trans rfl
   have hfz30_0 := xC BK261.out 0
   have hfz30_1 := xC BK261.out 1
   have hfz30_2 := xC BK261.out 2
   have hfz30_3 := xC BK261.out 3
   have hfz30_4 := xC BK261.out 4
   have p270 : 0 ≤ (x34_1 : Int) := qq
   have q270 : x34_1 < (t257.length : Int) := qq
   obtain ⟨ad270, A270_0, c270_0, e270, hx270_0, hl270_0, hi270_0⟩ := at_L1 (Kd.xJ HO_262004.out).2.2 x34_1 p270 q270
   cases e270
   obtain ⟨ce270, hce270, hMe270, hcc270⟩ := Kd.S_get HO_262004.out [] x34_1 p270 (by first | exact q270 | exact qq | (have e_ := (Kd.xJ HO_262004.out).1; omega))
   obtain ⟨ve270_0, rfl, ge270_0⟩ := hMe270
   have hv270_0 := hcc270 0 _ rfl
   rw [Nat.add_zero, show ((Kd.slice 3 (Kd.int .i64))).sz = 1 from rfl, Nat.mul_one] at hv270_0
   replace hv270_0 := qx (hv270_0.symm.trans hx270_0)
   rw [hv270_0] at ge270_0
   have HL270_0 := xA.mk (show Kd.R (Kd.int .i64) 3 _ _ _ _ (rd_L1 t257 x34_1) from ge270_0)
   clear hv270_0 ge270_0
   clear hcc270 hce270
   have HR270_0 := xA.mk hi270_0
   have HC270_0 := xA.mk hl270_0
   clear hi270_0 hl270_0
   replace p270 := eq_true p270
   replace q270 := eq_true q270
   have p271 : 0 ≤ ((rd t263 0) : Int) := qr
   have q271 : (rd t263 0) < ((rd_L1 t257 x34_1).length : Int) := qr
   obtain ⟨ad271, e271, hx271_0⟩ := Kd.xU (by repeat (first | (with_reducible exact HR270_0.out) | (with_reducible refine Kd.C_alloc ?_ _) | (with_reducible refine Kd.C_drewN ?_ _) | (with_reducible refine Kd.C_drew ?_) | exact HR270_0.out)) (rd t263 0) p271 q271
   cases e271
   replace p271 := eq_true p271
   replace q271 := eq_true q271
   have p29 : 0 ≤ (x34_1 : Int) := qr
   have q29 : (x34_1 : Int) < ((x7_1.length : Int) : Int) := qr
   obtain ⟨go29, co29, eo29, gb29, gl29, cl29, HG29⟩ := Kd.R_form HO_7.out jj
   (first | cases eo29 | (injection eo29 with ea_ en_ ec_; (first | subst ea_ | (injection ea_ with ea_; subst ea_)); subst ec_; clear en_))
   have GB29 := xA.mk gb29
   have GG29 := xA.mk HG29
   clear gb29 gl29 HG29
   obtain ⟨hx29_0, hf29_0⟩ := Kd.R_celln 0 HO_7.out (x34_1 : Int) p29 q29
   replace p29 := eq_true p29
   replace q29 := eq_true q29
   have HP31 := Kd.R_putg HO_7.out (x34_1 : Int) (rd (rd_L1 t257 x34_1) (rd t263 0))
   have hczs := (xB BK261.out 4).trans rfl
   go_wp2_with (first | ((with_reducible refine gate_store (t := 3) (p := 47) rfl ?_); refine store_event (t := 3) (p := 47) (v := ?vo_w32) (w1 := (wr.setCell ⟨go29, (x34_1 : Int).toNat, none⟩ (.int .i64 (rd (rd_L1 t257 x34_1) (rd t263 0))))) ?hg ?ho ?hn ?hr ?_; (case ho => rfl); (case hg => rfl); (case hn => rfl); (case hr => first | (go_simp; done) | (go_simp; rfl)); intro w32 hw; have hg : wr.grownBy w32 (some go29) := (by rw [hw]; exact HP31.2); have hp_ : Kd.R (Kd.int .i64) 3 w32 w.heap.size (fun _ => True) (.slice (some ⟨go29, 0, none⟩) x7_1.length co22) y272 := (by rw [hw, Ny272.out]; exact HP31.1); clear HP31; have n0_ := xA.mk (hp_); have n1_ := xA.mk (Kd.V_afterv (v := (.slice (some ⟨go29, 0, none⟩) x7_1.length co22)) (v1 := (.slice (some ⟨go29, 0, none⟩) x7_1.length co22)) (ok := (fun k_ => some k_ ≠ (.slice Ao14 t254.length co14 : Value).ownBlock ∧ some k_ ≠ (.slice (some ad270) t257.length co15 : Value).ownBlock ∧ k_ ≠ gb261)) (by (with_reducible repeat (first | apply Kd.V_alloc | apply Kd.V_drewN | apply Kd.V_drew)); exact Kd.V_mono HO_262000.out (fun _ hk => ⟨⟨hk.2.1, ⟨hk.2.2.1, hk.2.2.2⟩⟩, hk.1⟩)) hg (.inl rfl)); have n2_ := xA.mk (Kd.S_after (v := (.slice (some ⟨go29, 0, none⟩) x7_1.length co22)) (v1 := (.slice (some ⟨go29, 0, none⟩) x7_1.length co22)) (ok := (fun k_ => some k_ ≠ (.slice (some ad270) t257.length co15 : Value).ownBlock)) (by (with_reducible repeat (first | apply Kd.S_alloc | apply Kd.yA | apply Kd.xV)); exact Kd.xQ HO_262003.out (fun _ hk => ⟨hk.2, hk.1⟩)) hg (.inl rfl)); have n3_ := xA.mk (Kd.S_after (v := (.slice (some ⟨go29, 0, none⟩) x7_1.length co22)) (v1 := (.slice (some ⟨go29, 0, none⟩) x7_1.length co22)) (ok := (fun k_ => some k_ ≠ (.slice Ao14 t254.length co14 : Value).ownBlock)) (by (with_reducible repeat (first | apply Kd.S_alloc | apply Kd.yA | apply Kd.xV)); exact Kd.xQ HO_262004.out (fun _ hk => ⟨hk.2, hk.1⟩)) hg (.inl rfl)); have n4_ := xA.mk (blk_grown (g := gb261) (o := .cells #[.slice Ao12 t249.length co12, .int .i64 t252, .int .i64 t253, .slice Ao14 t254.length co14, .slice (some ad270) t257.length co15] 58 (0, 0)) (qn BK261.out) hg (Kd.R_ne HO_7.out BK261.out (by decide))); have n5_ := xA.mk (Kd.R_after (v := (.slice (some ⟨go29, 0, none⟩) x7_1.length co22)) (v1 := (.slice (some ⟨go29, 0, none⟩) x7_1.length co22)) (ok := (fun k_ => some k_ ≠ (.slice Ao14 t254.length co14 : Value).ownBlock ∧ some k_ ≠ (.slice (some ad270) t257.length co15 : Value).ownBlock)) (by (with_reducible repeat (first | apply Kd.R_alloc | apply Kd.R_drewN | apply Kd.R_drew)); exact Kd.xZ HL270_0.out (fun _ hk => ⟨⟨hk.1.2, hk.2⟩, hk.1.1⟩)) hg (.inl rfl)); have n6_ := xA.mk ((by rw [hw]; exact xM (HB.out) GB29.out : Below w.heap.size w w32)); clear HO_7; clear HO_262000; clear HO_262003; clear HO_262004; clear BK261; clear HL270_0; clear HB; have HO_7 := n0_; have HO_262000 := n1_; have HO_262003 := n2_; have HO_262004 := n3_; have BK261 := n4_; have HL270_0 := n5_; have HB := n6_; clear n0_ n1_ n2_ n3_ n4_ n5_ n6_; clear hg hw hp_))
   (try simp only [← hl7_1])
   go_roundg k1
   case measure => have := HK1.out; omega
   case rel => exact ⟨(y272), (wrap64 (x34_1 + 1)), qf, H', ⟨by have := HK1.out; omega⟩, ⟨by (try simp only [hl7_1]); (with_reducible repeat (first | apply Kd.R_alloc | apply Kd.R_drewN | apply Kd.R_drew)); exact HO_7.out⟩, ⟨by (try simp only [hl7_1]); (with_reducible repeat (first | apply Kd.V_alloc | apply Kd.V_drewN | apply Kd.V_drew)); exact Kd.V_mono HO_262000.out (fun _ hk => ⟨hk.2, ⟨hk.1.1, ⟨hk.1.2.1, hk.1.2.2⟩⟩⟩)⟩, ⟨by (try simp only [hl7_1]); (with_reducible repeat (first | apply Kd.S_alloc | apply Kd.yA | apply Kd.xV)); exact Kd.xQ HO_262003.out (fun _ hk => ⟨hk.2, hk.1⟩)⟩, ⟨by (try simp only [hl7_1]); (with_reducible repeat (first | apply Kd.S_alloc | apply Kd.yA | apply Kd.xV)); exact Kd.xQ HO_262004.out (fun _ hk => ⟨hk.2, hk.1⟩)⟩, ⟨by (try simp only [hl7_1]); (with_reducible repeat (first | refine xI ?_ _ | refine xH ?_ | refine xG ?_ _)); exact BK261.out⟩, ⟨qo GE261.out⟩⟩
  rw [if_neg c23] at H
  have c23b0 : decide (x34_1 < (y267.length : Int)) = false := qv c23
  try have c23z7_1 : decide (x34_1 < (x7_1.length : Int)) = false := by rw [← hl7_1]; exact c23b0
  try have c23z7_2 : decide (x34_1 < (x7_2.length : Int)) = false := by rw [← hl7_2]; exact c23b0
  clear c23
  replace H := qw H
  obtain ⟨t273, A330, H⟩ := H
  replace H : (line_Eigen.l1 k1 x7_1 t273 (x7_1.length : Int) 0) = some (r1, r2) := H
  have A33 := xA.mk A330
  clear A330
  have H' := xA.mk H
  clear H
  go_wp2_with (first | ((with_reducible refine xK (f := 48) rfl ?_); refine xS (some 50) rfl rfl Try.func48 jk rfl #[.slice Ao22 x7_1.length co22] rfl qc ?_; (with_reducible refine (slices_Min_int_int.calls k1 _ _ x7_1 t273 _ ?side1 ?side2 A33.out).mono ?_); (case side1 => exact qm (Kd.yE HO_7.out).2.2); (case side2 => exact (Kd.yE HO_7.out).2.1); rintro e w34 ⟨rfl, hb⟩; refine ⟨_, rfl, ?_⟩; replace HO_7 := xA.mk (Kd.R_below (qi HO_7.out) hb); replace HO_262000 := xA.mk (Kd.V_below (qj HO_262000.out) hb); replace HO_262003 := xA.mk (Kd.xX (qh HO_262003.out) hb); replace HO_262004 := xA.mk (Kd.xX (qh HO_262004.out) hb); replace BK261 := xA.mk (xO (g := gb261) (o := .cells #[.slice Ao12 t249.length co12, .int .i64 t252, .int .i64 t253, .slice Ao14 t254.length co14, .slice Ao15 t257.length co15] 58 (0, 0)) (qn BK261.out) hb); replace HB := xA.mk (xF (qo GE261.out) hb); (try clear hb); (try clear hb2); (try clear hk); (try clear hi)))
  go_loopg [53] k1 (fun kq v53 w' => ∃ (x7_2 : List Int) (x53_2 : Int), v53 = .int .i64 x53_2 ∧ xA (line_Eigen.l1 kq x7_2 t273 (x7_1.length : Int) x53_2 = some (r1, r2)) ∧ xA (kq ≤ k1) ∧ xA (Kd.R (Kd.int .i64) 3 w' w.heap.size (fun _ => True) (.slice Ao22 x7_1.length co22) x7_2) ∧ xA (Kd.V (Kd.slice 3 (Kd.int .i64)) 26 w' w.heap.size (fun k_ => some k_ ≠ ((.slice Ao22 x7_1.length co22) : Value).ownBlock ∧ some k_ ≠ ((.slice Ao14 t254.length co14) : Value).ownBlock ∧ some k_ ≠ ((.slice Ao15 t257.length co15) : Value).ownBlock ∧ k_ ≠ gb261) (.slice Ao12 t249.length co12) t249) ∧ xA (Kd.S (Kd.slice 3 (Kd.int .i64)) 26 w' w.heap.size (fun k_ => some k_ ≠ ((.slice Ao22 x7_1.length co22) : Value).ownBlock ∧ some k_ ≠ ((.slice Ao15 t257.length co15) : Value).ownBlock) (.slice Ao14 t254.length co14) t254) ∧ xA (Kd.S (Kd.slice 3 (Kd.int .i64)) 26 w' w.heap.size (fun k_ => some k_ ≠ ((.slice Ao22 x7_1.length co22) : Value).ownBlock ∧ some k_ ≠ ((.slice Ao14 t254.length co14) : Value).ownBlock) (.slice Ao15 t257.length co15) t257) ∧ xA (w'.heap[gb261]? = some (.cells #[(.slice Ao12 t249.length co12), .int .i64 t252, .int .i64 t253, (.slice Ao14 t254.length co14), (.slice Ao15 t257.length co15)] 58 (0, 0))) ∧ xA (Below w.heap.size w w'))
  case atStart => exact ⟨(x7_1), (0), qf, H', ⟨Nat.le_refl _⟩, ⟨by (try simp only [hl7_1]); (with_reducible repeat (first | apply Kd.R_alloc | apply Kd.R_drewN | apply Kd.R_drew)); exact HO_7.out⟩, ⟨by (try simp only [hl7_1]); (with_reducible repeat (first | apply Kd.V_alloc | apply Kd.V_drewN | apply Kd.V_drew)); exact HO_262000.out⟩, ⟨by (try simp only [hl7_1]); (with_reducible repeat (first | apply Kd.S_alloc | apply Kd.yA | apply Kd.xV)); exact HO_262003.out⟩, ⟨by (try simp only [hl7_1]); (with_reducible repeat (first | apply Kd.S_alloc | apply Kd.yA | apply Kd.xV)); exact HO_262004.out⟩, ⟨by (try simp only [hl7_1]); (with_reducible repeat (first | refine xI ?_ _ | refine xH ?_ | refine xG ?_ _)); exact BK261.out⟩, ⟨qo GE261.out⟩⟩
  case round =>
   clear H'
   try clear c1
   try clear c2
   try clear p2
   try clear q2
   try clear hx2
   try clear qi2
   try clear hf2
   try clear c3
   obtain ⟨x7_2, x53_2, rfl, HA, HK2, HO_7, HO_262000, HO_262003, HO_262004, BK261, HB⟩ := hrel
   have hl7_2 := (Kd.yE HO_7.out).1
   rw [hl7_2] at HO_7
   (try simp only [hl7_2])
   (try simp only [hl7_2] at BK261)
   (try simp only [hl7_2] at HO_262000)
   (try simp only [hl7_2] at HO_262003)
   (try simp only [hl7_2] at HO_262004)
   obtain _ | k2 := gk
   · exact absurd HA.out (by simp [line_Eigen.l1])
   have H := HA.out
   clear HA
   simp only [line_Eigen.l1] at H
   by_cases c35 : x53_2 < (x7_1.length : Int)
   rotate_left
   ·
    rw [if_neg c35] at H
    have c35b0 : decide (x53_2 < (x7_1.length : Int)) = false := qv c35
    try have c35z7_1 : decide (x53_2 < (x7_1.length : Int)) = false := by rw [← hl7_1]; exact c35b0
    try have c35z7_2 : decide (x53_2 < (x7_2.length : Int)) = false := by rw [← hl7_2]; exact c35b0
    clear c35
    simp only [Option.some.injEq, Prod.mk.injEq] at H
    obtain ⟨rfl, rfl⟩ := H
    go_wp2
    go_ret2
    exact ⟨_, qg, qi HO_7.out, qo GE261.out⟩
   rw [if_pos c35] at H
   have c35b0 : decide (x53_2 < (x7_1.length : Int)) = true := qu c35
   try have c35z7_1 : decide (x53_2 < (x7_1.length : Int)) = true := by rw [← hl7_1]; exact c35b0
   try have c35z7_2 : decide (x53_2 < (x7_2.length : Int)) = true := by rw [← hl7_2]; exact c35b0
   clear c35
   obtain ⟨c36b0, H⟩ := xL H
   obtain ⟨c37, H⟩ := ite_some H
   have c37b0 : decide (x53_2 < (x7_2.length : Int)) = true := qu c37
   try have c37z7_1 : decide (x53_2 < (x7_1.length : Int)) = true := by rw [← hl7_1]; exact c37b0
   try have c37z7_2 : decide (x53_2 < (x7_2.length : Int)) = true := by rw [← hl7_2]; exact c37b0
   clear c37
   obtain ⟨y275, hy275⟩ : ∃ y_ : List Int, y_ = (x7_2.set (x53_2 : Int).toNat (wrap64 ((rd x7_2 x53_2) - t273))) := ⟨_, rfl⟩
   replace H : (line_Eigen.l1 k2 y275 t273 (x7_1.length : Int) (wrap64 (x53_2 + 1))) = some (r1, r2) := by rw [hy275]; exact H
   have Ny275 := xA.mk hy275
   clear hy275
   have H' := xA.mk H
   clear H
   have p274 : 0 ≤ (x53_2 : Int) := qq
   have q274 : x53_2 < (x7_2.length : Int) := qq
   obtain ⟨ad274, e274, hx274_0⟩ := Kd.xU (Kd.yE HO_7.out).2.2 x53_2 p274 q274
   cases e274
   replace p274 := eq_true p274
   replace q274 := eq_true q274
   have p38 : 0 ≤ (x53_2 : Int) := qq
   have q38 : (x53_2 : Int) < ((x7_2.length : Int) : Int) := qq
   obtain ⟨go38, co38, eo38, gb38, gl38, cl38, HG38⟩ := Kd.R_form HO_7.out jj
   (first | cases eo38 | (injection eo38 with ea_ en_ ec_; (first | subst ea_ | (injection ea_ with ea_; subst ea_)); subst ec_; clear en_))
   have GB38 := xA.mk gb38
   have GG38 := xA.mk HG38
   clear gb38 gl38 HG38
   (first | simp only [add_plain] at hx274_0 | skip)
   obtain ⟨hx38_0, hf38_0⟩ := Kd.R_celln 0 HO_7.out (x53_2 : Int) p38 q38
   replace p38 := eq_true p38
   replace q38 := eq_true q38
   have HP39 := Kd.R_putg HO_7.out (x53_2 : Int) (wrap64 ((rd x7_2 x53_2) - t273))
   go_wp2_with (first | ((with_reducible refine gate_store (t := 3) (p := 62) rfl ?_); refine store_event (t := 3) (p := 62) (v := ?vo_w40) (w1 := (wr.setCell ⟨go38, (x53_2 : Int).toNat, none⟩ (.int .i64 (wrap64 ((rd x7_2 x53_2) - t273))))) ?hg ?ho ?hn ?hr ?_; (case ho => rfl); (case hg => rfl); (case hn => rfl); (case hr => go_simp); intro w40 hw; have hg : wr.grownBy w40 (some go38) := (by rw [hw]; exact HP39.2); have hp_ : Kd.R (Kd.int .i64) 3 w40 w.heap.size (fun _ => True) (.slice (some ⟨go38, 0, none⟩) x7_2.length co22) y275 := (by rw [hw, Ny275.out]; exact HP39.1); clear HP39; have n0_ := xA.mk (hp_); have n1_ := xA.mk (Kd.V_afterv (v := (.slice (some ⟨go38, 0, none⟩) x7_2.length co22)) (v1 := (.slice (some ⟨go38, 0, none⟩) x7_2.length co22)) (ok := (fun k_ => some k_ ≠ (.slice Ao14 t254.length co14 : Value).ownBlock ∧ some k_ ≠ (.slice Ao15 t257.length co15 : Value).ownBlock ∧ k_ ≠ gb261)) (by (with_reducible repeat (first | apply Kd.V_alloc | apply Kd.V_drewN | apply Kd.V_drew)); exact Kd.V_mono HO_262000.out (fun _ hk => ⟨⟨hk.2.1, ⟨hk.2.2.1, hk.2.2.2⟩⟩, hk.1⟩)) hg (.inl rfl)); have n2_ := xA.mk (Kd.S_after (v := (.slice (some ⟨go38, 0, none⟩) x7_2.length co22)) (v1 := (.slice (some ⟨go38, 0, none⟩) x7_2.length co22)) (ok := (fun k_ => some k_ ≠ (.slice Ao15 t257.length co15 : Value).ownBlock)) (by exact Kd.xQ HO_262003.out (fun _ hk => ⟨hk.2, hk.1⟩)) hg (.inl rfl)); have n3_ := xA.mk (Kd.S_after (v := (.slice (some ⟨go38, 0, none⟩) x7_2.length co22)) (v1 := (.slice (some ⟨go38, 0, none⟩) x7_2.length co22)) (ok := (fun k_ => some k_ ≠ (.slice Ao14 t254.length co14 : Value).ownBlock)) (by exact Kd.xQ HO_262004.out (fun _ hk => ⟨hk.2, hk.1⟩)) hg (.inl rfl)); have n4_ := xA.mk (blk_grown (g := gb261) (o := .cells #[.slice Ao12 t249.length co12, .int .i64 t252, .int .i64 t253, .slice Ao14 t254.length co14, .slice Ao15 t257.length co15] 58 (0, 0)) (qn BK261.out) hg (Kd.R_ne HO_7.out BK261.out (by decide))); have n5_ := xA.mk ((by rw [hw]; exact xM (HB.out) GB38.out : Below w.heap.size w w40)); clear HO_7; clear HO_262000; clear HO_262003; clear HO_262004; clear BK261; clear HB; have HO_7 := n0_; have HO_262000 := n1_; have HO_262003 := n2_; have HO_262004 := n3_; have BK261 := n4_; have HB := n5_; clear n0_ n1_ n2_ n3_ n4_ n5_; clear hg hw hp_))
   (try simp only [← hl7_2])
   go_roundg k2
   case measure => have := HK1.out; have := HK2.out; omega
   case rel => exact ⟨(y275), (wrap64 (x53_2 + 1)), rfl, H', ⟨by have := HK1.out; have := HK2.out; omega⟩, ⟨by (try simp only [hl7_1]); (try simp only [hl7_2]); exact HO_7.out⟩, ⟨by (try simp only [hl7_1]); (try simp only [hl7_2]); (with_reducible repeat (first | apply Kd.V_alloc | apply Kd.V_drewN | apply Kd.V_drew)); exact Kd.V_mono HO_262000.out (fun _ hk => ⟨hk.2, ⟨hk.1.1, ⟨hk.1.2.1, hk.1.2.2⟩⟩⟩)⟩, ⟨by (try simp only [hl7_1]); (try simp only [hl7_2]); exact Kd.xQ HO_262003.out (fun _ hk => ⟨hk.2, hk.1⟩)⟩, ⟨by (try simp only [hl7_1]); (try simp only [hl7_2]); exact Kd.xQ HO_262004.out (fun _ hk => ⟨hk.2, hk.1⟩)⟩, ⟨by (try simp only [hl7_1]); (try simp only [hl7_2]); (with_reducible repeat (first | refine xI ?_ _ | refine xH ?_ | refine xG ?_ _)); exact BK261.out⟩, ⟨qo GE261.out⟩⟩
def l5same.l0 : Nat → List Int → List Int → Int → Option (Bool)
 | 0, _, _, _ => none
 | k + 1, x0, x1, x5 => if x5 < (x0.length : Int) then (if 0 ≤ x5 then (if x5 < (x1.length : Int) then (if (rd x0 x5) = (rd x1 x5) then (l5same.l0 k x0 x1 (wrap64 (x5 + 1))) else (some false)) else (none)) else (none)) else (some true)
def l5same.f (k : Nat) (l0 : List Int) (l1 : List Int) : Option (Bool) := if (l0.length : Int) = (l1.length : Int) then (l5same.l0 k l0 l1 0) else (some false)
theorem l5same.mono_l : ∀ k, (∀ y0 y1 y2, LeO (l5same.l0 k y0 y1 y2) (l5same.l0 (k + 1) y0 y1 y2))
 | 0 => fun _ _ _ r h => by simp [l5same.l0] at h
 | k + 1 => by
  have ih0 := l5same.mono_l k
  ·
   intro y0 y1 y2
   unfold l5same.l0
   repeat' first
   | (with_reducible exact ih0 _ _ _)
   | (with_reducible exact LeO.refl _)
   | (with_reducible exact LeO.none _)
   | (with_reducible refine LeO.ite ?_ ?_)
   | (with_reducible refine LeO.bind ?_ (fun _ => ?_))
   | exact ih0 _ _ _
theorem l5same.mono : ∀ a0 a1 k, LeO (l5same.f k a0 a1) (l5same.f (k + 1) a0 a1) := by
 intro a0 a1 k
 have ih0 := l5same.mono_l k
 unfold l5same.f
 repeat' first
   | (with_reducible exact ih0 _ _ _)
   | (with_reducible exact LeO.refl _)
   | (with_reducible exact LeO.none _)
   | (with_reducible refine LeO.ite ?_ ?_)
   | (with_reducible refine LeO.bind ?_ (fun _ => ?_))
   | exact ih0 _ _ _
theorem l5same.calls (k : Nat) (A0 : Option Addr) (c0 : Nat) (l0 : List Int) (A1 : Option Addr) (c1 : Nat) (l1 : List Int) (r : Bool) (w : World) (hr0 : Kd.C (Kd.int .i64) w A0 l0.length l0) (hc0 : l0.length ≤ c0) (hr1 : Kd.C (Kd.int .i64) w A1 l1.length l1) (hc1 : l1.length ≤ c1) (h : l5same.f k l0 l1 = some r) :
  Calls Try.prog 17 #[.slice A0 l0.length c0, .slice A1 l1.length c1] w fun e w' => e = .returned (.bool r) ∧ Drawn0 w w' := by
 have HR0 := xA.mk hr0
 have HC0 := xA.mk hc0
 clear hr0 hc0
 have HR1 := xA.mk hr1
 have HC1 := xA.mk hc1
 clear hr1 hc1
 have H : (if (l0.length : Int) = (l1.length : Int) then (l5same.l0 k l0 l1 0) else (some false)) = some r := h
 clear h
 by_cases c3 : (l0.length : Int) = (l1.length : Int)
 rotate_left
 ·
  rw [if_neg c3] at H
  have c3b0 : ((l0.length : Int) == (l1.length : Int)) = false := jg c3
  have c3b2 : (l0.length == l1.length) = false := by first | simpa using c3 | (simp at c3 ⊢; omega)
  obtain rfl := qx H
  go_enter Try.func17, Try.ntmps17
  go_wp2
  go_ret
  exact ⟨qf, qe⟩
 rw [if_pos c3] at H
 have c3b0 : ((l0.length : Int) == (l1.length : Int)) = true := beq_iff_eq.mpr c3
 have c3b2 : (l0.length == l1.length) = true := by first | simpa using c3 | (simp at c3 ⊢; omega)
 clear c3
 have H' := xA.mk H
 clear H
 go_enter Try.func17, Try.ntmps17
 go_wp2
 go_loopg [5] k (fun kq v5 w' => ∃ (x5_1 : Int), v5 = .int .i64 x5_1 ∧ xA (l5same.l0 kq l0 l1 x5_1 = some r) ∧ xA (kq ≤ k) ∧ Drawn0 w w')
 case atStart => exact ⟨(0), rfl, H', ⟨Nat.le_refl _⟩, qe⟩
 case round =>
  clear H'
  obtain ⟨x5_1, rfl, HA, HK1, ⟨m1, rfl⟩⟩ := hrel
  obtain _ | k1 := gk
  · exact absurd HA.out (by simp [l5same.l0])
  have H := HA.out
  clear HA
  simp only [l5same.l0] at H
  obtain ⟨c4b0, H⟩ | ⟨c4b0, H⟩ := itd_or H
  rotate_left
  ·
   obtain rfl := qx H
   go_wp2
   go_ret
   exact ⟨qf, qe⟩
  obtain ⟨c5b0, H⟩ := xL H
  obtain ⟨c6b0, H⟩ := xL H
  by_cases c7 : (rd l0 x5_1) = (rd l1 x5_1)
  rotate_left
  ·
   rw [if_neg c7] at H
   have c7b0 : ((rd l0 x5_1) == (rd l1 x5_1)) = false := jg c7
   obtain rfl := qx H
   have p276 : 0 ≤ (x5_1 : Int) := qq
   have q276 : x5_1 < (l0.length : Int) := qq
   obtain ⟨ad276, e276, hx276_0⟩ := Kd.xU HR0.out x5_1 p276 q276
   cases e276
   replace p276 := eq_true p276
   replace q276 := eq_true q276
   have p277 : 0 ≤ (x5_1 : Int) := qq
   have q277 : x5_1 < (l1.length : Int) := qq
   obtain ⟨ad277, e277, hx277_0⟩ := Kd.xU HR1.out x5_1 p277 q277
   cases e277
   replace p277 := eq_true p277
   replace q277 := eq_true q277
   go_wp2
   repeat (go_quiet (fail); try go_wp2)
   go_ret
   exact ⟨qf, qe⟩
  rw [if_pos c7] at H
  have c7b0 : ((rd l0 x5_1) == (rd l1 x5_1)) = true := beq_iff_eq.mpr c7
  clear c7
  have H' := xA.mk H
  clear H
  have p276 : 0 ≤ (x5_1 : Int) := qq
  have q276 : x5_1 < (l0.length : Int) := qq
  obtain ⟨ad276, e276, hx276_0⟩ := Kd.xU HR0.out x5_1 p276 q276
  cases e276
  replace p276 := eq_true p276
  replace q276 := eq_true q276
  have p277 : 0 ≤ (x5_1 : Int) := qq
  have q277 : x5_1 < (l1.length : Int) := qq
  obtain ⟨ad277, e277, hx277_0⟩ := Kd.xU HR1.out x5_1 p277 q277
  cases e277
  replace p277 := eq_true p277
  replace q277 := eq_true q277
  go_wp2
  repeat (go_quiet (fail); try go_wp2)
  go_roundg k1
  case measure => have := HK1.out; omega
  case rel => exact ⟨(wrap64 (x5_1 + 1)), rfl, H', ⟨by have := HK1.out; omega⟩, qe⟩
def llperiod_1.f (a0 : Int) : Option (Int) := some (-1152921504606846976)
theorem llperiod_1.calls (a0 : Int) (r : Int) (w : World) (h : llperiod_1.f a0 = some r) :
  Calls Try.prog 88 #[.int .i64 a0] w fun e w' => e = .returned (.int .i64 r) ∧ Drawn0 w w' := by
 have H : (some (-1152921504606846976)) = some r := h
 clear h
 obtain rfl := qx H
 go_enter Try.func88, Try.ntmps88
 go_wp2
 go_ret
 exact ⟨qf, qe⟩
def lgmapped_period_1.f (k : Nat) (l0 : List (List Int)) (_a1 : Int) : Option ((List (List Int))) := lgmapped.f llperiod_1.f k l0 0
theorem lgmapped_period_1.mono : ∀ a0 a1 k, LeO (lgmapped_period_1.f k a0 a1) (lgmapped_period_1.f (k + 1) a0 a1) := fun a0 _ k => lgmapped.mono _ a0 0 k
theorem lgmapped_period_1.calls (k : Nat) (A0 : Option Addr) (c0 : Nat) (l0 : List (List Int)) (a1 : Int) (r : List (List Int)) (w : World) (hr0 : Kd.C (Kd.slice 3 (Kd.int .i64)) w A0 l0.length l0) (hc0 : l0.length ≤ c0) (h : lgmapped_period_1.f k l0 a1 = some r) :
  Calls Try.prog 57 #[.slice A0 l0.length c0, .func (.func 88) #[] #[]] w fun e w' => ∃ v0_ : Value, e = .returned (v0_) ∧ Kd.S (Kd.slice 3 (Kd.int .i64)) 26 w' w.heap.size (fun _ => True) v0_ r ∧ Below w.heap.size w w' :=
 lgmapped.calls _ 88 _ #[] Try.func88 jk rfl k A0 c0 l0 0 r w hr0 hc0 (fun w' _ x r hx => by simpa using llperiod_1.calls x r w' hx) h
mutual
def llperiod.l0 : Nat → Int → List (List Int) → Int → Int → List (List Int) → Int → Int → List (List Int) → List (List Int) → Option (Int)
 | 0, _, _, _, _, _, _, _, _, _ => none
 | k + 1, x3, x4, x20, x21, x294000, x294001, x294002, x294003, x294004 => if x21 < x20 then (llperiod.l1 k x3 x4 x21 x20 x21 x3 0 x294000 x294001 x294002 x294003 x294004) else ((lgclosed.f k x4).bind fun t305 => (llperiod.l2 k x3 x4 t305 1 x3 0))
def llperiod.l1 : Nat → Int → List (List Int) → Int → Int → Int → Int → Int → List (List Int) → Int → Int → List (List Int) → List (List Int) → Option (Int)
 | 0, _, _, _, _, _, _, _, _, _, _, _, _ => none
 | k + 1, x3, x4, x5, x20, x21, x24, x25, x294000, x294001, x294002, x294003, x294004 => if x25 < x24 then ((llcritical.f x294000 x294001 x294002 x294003 x294004 x5 x25).bind fun t300 => (if t300 = true then (if 0 ≤ x5 then (if x5 < (x4.length : Int) then (if 0 ≤ x25 then (if x25 < ((rd_L1 x4 x5).length : Int) then (llperiod.l1 k x3 (x4.set (x5 : Int).toNat ((rd_L1 x4 x5).set (x25 : Int).toNat 0)) x5 x20 x21 x24 (wrap64 (x25 + 1)) x294000 x294001 x294002 x294003 x294004) else (none)) else (none)) else (none)) else (none)) else (llperiod.l1 k x3 x4 x5 x20 x21 x24 (wrap64 (x25 + 1)) x294000 x294001 x294002 x294003 x294004))) else (llperiod.l0 k x3 x4 x20 (wrap64 (x21 + 1)) x294000 x294001 x294002 x294003 x294004)
def llperiod.l2 : Nat → Int → List (List Int) → List (List Int) → Int → Int → Int → Option (Int)
 | 0, _, _, _, _, _, _ => none
 | k + 1, x3, x4, x7, x8, x42, x43 => if x43 < x42 then ((line_one_int.f k x3).bind fun t308 => (llperiod.l3 k x3 x4 x7 x8 x43 0 t308 1 x42 x43)) else (some x8)
def llperiod.l3 : Nat → Int → List (List Int) → List (List Int) → Int → Int → Int → List (List Int) → Int → Int → Int → Option (Int)
 | 0, _, _, _, _, _, _, _, _, _, _ => none
 | k + 1, x3, x4, x7, x8, x9, x10, x11, x12, x42, x43 => if x12 ≤ (wrap64 (2 * x3)) then ((lgtimes.f k x11 x4).bind fun t312 => (llperiod.l4 k x3 x4 x7 x8 x9 x10 t312 x12 x42 x43 x3 0)) else (if x10 > 0 then ((line_gcd.f k x8 x10).bind fun t311 => (if t311 = 0 then (none) else (llperiod.l2 k x3 x4 x7 (wrap64 ((wrap64 (Int.tdiv x8 t311)) * x10)) x42 (wrap64 (x43 + 1))))) else (llperiod.l2 k x3 x4 x7 x8 x42 (wrap64 (x43 + 1))))
def llperiod.l4 : Nat → Int → List (List Int) → List (List Int) → Int → Int → Int → List (List Int) → Int → Int → Int → Int → Int → Option (Int)
 | 0, _, _, _, _, _, _, _, _, _, _, _, _ => none
 | k + 1, x3, x4, x7, x8, x9, x10, x11, x12, x42, x43, x57, x58 => if x58 < x57 then (if 0 ≤ x58 then (if x58 < (x11.length : Int) then (if x58 < ((rd_L1 x11 x58).length : Int) then (if (rd (rd_L1 x11 x58) x58) = 0 then (if 0 ≤ x9 then (if x9 < (x7.length : Int) then (if x58 < ((rd_L1 x7 x9).length : Int) then (if (rd (rd_L1 x7 x9) x58) = 0 then (if x58 < (x7.length : Int) then (if x9 < ((rd_L1 x7 x58).length : Int) then (if (rd (rd_L1 x7 x58) x9) = 0 then ((line_gcd.f k x10 x12).bind fun t321 => (llperiod.l4 k x3 x4 x7 x8 x9 t321 x11 x12 x42 x43 x57 (wrap64 (x58 + 1)))) else (llperiod.l4 k x3 x4 x7 x8 x9 x10 x11 x12 x42 x43 x57 (wrap64 (x58 + 1)))) else (none)) else (none)) else (llperiod.l4 k x3 x4 x7 x8 x9 x10 x11 x12 x42 x43 x57 (wrap64 (x58 + 1)))) else (none)) else (none)) else (none)) else (llperiod.l4 k x3 x4 x7 x8 x9 x10 x11 x12 x42 x43 x57 (wrap64 (x58 + 1)))) else (none)) else (none)) else (none)) else (llperiod.l3 k x3 x4 x7 x8 x9 x10 x11 (wrap64 (x12 + 1)) x42 x43)
end
def llperiod.f (k : Nat) (l0_0 : List (List Int)) (a0_1 : Int) (a0_2 : Int) (l0_3 : List (List Int)) (l0_4 : List (List Int)) : Option (Int) := (line_one_int.f k (l0_3.length : Int)).bind fun t294 => ((lgmapped_period_1.f k t294 0).bind fun t297 => (llperiod.l0 k (l0_3.length : Int) t297 (l0_3.length : Int) 0 l0_0 a0_1 a0_2 l0_3 l0_4))
theorem llperiod.mono_l : ∀ k, (∀ y0 y1 y2 y3 y4 y5 y6 y7 y8, LeO (llperiod.l0 k y0 y1 y2 y3 y4 y5 y6 y7 y8) (llperiod.l0 (k + 1) y0 y1 y2 y3 y4 y5 y6 y7 y8)) ∧ (∀ y0 y1 y2 y3 y4 y5 y6 y7 y8 y9 y10 y11, LeO (llperiod.l1 k y0 y1 y2 y3 y4 y5 y6 y7 y8 y9 y10 y11) (llperiod.l1 (k + 1) y0 y1 y2 y3 y4 y5 y6 y7 y8 y9 y10 y11)) ∧ (∀ y0 y1 y2 y3 y4 y5, LeO (llperiod.l2 k y0 y1 y2 y3 y4 y5) (llperiod.l2 (k + 1) y0 y1 y2 y3 y4 y5)) ∧ (∀ y0 y1 y2 y3 y4 y5 y6 y7 y8 y9, LeO (llperiod.l3 k y0 y1 y2 y3 y4 y5 y6 y7 y8 y9) (llperiod.l3 (k + 1) y0 y1 y2 y3 y4 y5 y6 y7 y8 y9)) ∧ (∀ y0 y1 y2 y3 y4 y5 y6 y7 y8 y9 y10 y11, LeO (llperiod.l4 k y0 y1 y2 y3 y4 y5 y6 y7 y8 y9 y10 y11) (llperiod.l4 (k + 1) y0 y1 y2 y3 y4 y5 y6 y7 y8 y9 y10 y11))
 | 0 => ⟨fun _ _ _ _ _ _ _ _ _ r h => by simp [llperiod.l0] at h, fun _ _ _ _ _ _ _ _ _ _ _ _ r h => by simp [llperiod.l1] at h, fun _ _ _ _ _ _ r h => by simp [llperiod.l2] at h, fun _ _ _ _ _ _ _ _ _ _ r h => by simp [llperiod.l3] at h, fun _ _ _ _ _ _ _ _ _ _ _ _ r h => by simp [llperiod.l4] at h⟩
 | k + 1 => by
  obtain ⟨ih0, ih1, ih2, ih3, ih4⟩ := llperiod.mono_l k
  refine ⟨?_, ?_, ?_, ?_, ?_⟩
  ·
   intro y0 y1 y2 y3 y4 y5 y6 y7 y8
   unfold llperiod.l0
   repeat' first
   | (with_reducible exact LeO.refl _)
   | (with_reducible exact LeO.none _)
   | (with_reducible refine LeO.ite ?_ ?_)
   | (with_reducible refine LeO.bind ?_ (fun _ => ?_))
   | exact ih0 _ _ _ _ _ _ _ _ _
   | exact ih1 _ _ _ _ _ _ _ _ _ _ _ _
   | exact ih2 _ _ _ _ _ _
   | exact ih3 _ _ _ _ _ _ _ _ _ _
   | exact ih4 _ _ _ _ _ _ _ _ _ _ _ _
   | exact line_gcd.mono _ _ _
   | exact lgclosed.mono _ _
   | exact lgmapped_period_1.mono _ _ _
   | exact lgtimes.mono _ _ _
   | exact line_one_int.mono _ _
  ·
   intro y0 y1 y2 y3 y4 y5 y6 y7 y8 y9 y10 y11
   unfold llperiod.l1
   repeat' first
   | (with_reducible exact LeO.refl _)
   | (with_reducible exact LeO.none _)
   | (with_reducible refine LeO.ite ?_ ?_)
   | (with_reducible refine LeO.bind ?_ (fun _ => ?_))
   | exact ih0 _ _ _ _ _ _ _ _ _
   | exact ih1 _ _ _ _ _ _ _ _ _ _ _ _
   | exact ih2 _ _ _ _ _ _
   | exact ih3 _ _ _ _ _ _ _ _ _ _
   | exact ih4 _ _ _ _ _ _ _ _ _ _ _ _
   | exact line_gcd.mono _ _ _
   | exact lgclosed.mono _ _
   | exact lgmapped_period_1.mono _ _ _
   | exact lgtimes.mono _ _ _
   | exact line_one_int.mono _ _
  ·
   intro y0 y1 y2 y3 y4 y5
   unfold llperiod.l2
   repeat' first
   | (with_reducible exact LeO.refl _)
   | (with_reducible exact LeO.none _)
   | (with_reducible refine LeO.ite ?_ ?_)
   | (with_reducible refine LeO.bind ?_ (fun _ => ?_))
   | exact ih0 _ _ _ _ _ _ _ _ _
   | exact ih1 _ _ _ _ _ _ _ _ _ _ _ _
   | exact ih2 _ _ _ _ _ _
   | exact ih3 _ _ _ _ _ _ _ _ _ _
   | exact ih4 _ _ _ _ _ _ _ _ _ _ _ _
   | exact line_gcd.mono _ _ _
   | exact lgclosed.mono _ _
   | exact lgmapped_period_1.mono _ _ _
   | exact lgtimes.mono _ _ _
   | exact line_one_int.mono _ _
  ·
   intro y0 y1 y2 y3 y4 y5 y6 y7 y8 y9
   unfold llperiod.l3
   repeat' first
   | (with_reducible exact LeO.refl _)
   | (with_reducible exact LeO.none _)
   | (with_reducible refine LeO.ite ?_ ?_)
   | (with_reducible refine LeO.bind ?_ (fun _ => ?_))
   | exact ih0 _ _ _ _ _ _ _ _ _
   | exact ih1 _ _ _ _ _ _ _ _ _ _ _ _
   | exact ih2 _ _ _ _ _ _
   | exact ih3 _ _ _ _ _ _ _ _ _ _
   | exact ih4 _ _ _ _ _ _ _ _ _ _ _ _
   | exact line_gcd.mono _ _ _
   | exact lgclosed.mono _ _
   | exact lgmapped_period_1.mono _ _ _
   | exact lgtimes.mono _ _ _
   | exact line_one_int.mono _ _
  ·
   intro y0 y1 y2 y3 y4 y5 y6 y7 y8 y9 y10 y11
   unfold llperiod.l4
   repeat' first
   | (with_reducible exact LeO.refl _)
   | (with_reducible exact LeO.none _)
   | (with_reducible refine LeO.ite ?_ ?_)
   | (with_reducible refine LeO.bind ?_ (fun _ => ?_))
   | exact ih0 _ _ _ _ _ _ _ _ _
   | exact ih1 _ _ _ _ _ _ _ _ _ _ _ _
   | exact ih2 _ _ _ _ _ _
   | exact ih3 _ _ _ _ _ _ _ _ _ _
   | exact ih4 _ _ _ _ _ _ _ _ _ _ _ _
   | exact line_gcd.mono _ _ _
   | exact lgclosed.mono _ _
   | exact lgmapped_period_1.mono _ _ _
   | exact lgtimes.mono _ _ _
   | exact line_one_int.mono _ _
theorem llperiod.mono : ∀ a0 a1 a2 a3 a4 k, LeO (llperiod.f k a0 a1 a2 a3 a4) (llperiod.f (k + 1) a0 a1 a2 a3 a4) := by
 intro a0 a1 a2 a3 a4 k
 obtain ⟨ih0, ih1, ih2, ih3, ih4⟩ := llperiod.mono_l k
 unfold llperiod.f
 repeat' first
   | (with_reducible exact LeO.refl _)
   | (with_reducible exact LeO.none _)
   | (with_reducible refine LeO.ite ?_ ?_)
   | (with_reducible refine LeO.bind ?_ (fun _ => ?_))
   | exact ih0 _ _ _ _ _ _ _ _ _
   | exact ih1 _ _ _ _ _ _ _ _ _ _ _ _
   | exact ih2 _ _ _ _ _ _
   | exact ih3 _ _ _ _ _ _ _ _ _ _
   | exact ih4 _ _ _ _ _ _ _ _ _ _ _ _
   | exact line_gcd.mono _ _ _
   | exact lgclosed.mono _ _
   | exact lgmapped_period_1.mono _ _ _
   | exact lgtimes.mono _ _ _
   | exact line_one_int.mono _ _
theorem llperiod.calls (k : Nat) (A0_0 : Option Addr) (c0_0 : Nat) (l0_0 : List (List Int)) (a0_1 : Int) (a0_2 : Int) (A0_3 : Option Addr) (c0_3 : Nat) (l0_3 : List (List Int)) (A0_4 : Option Addr) (c0_4 : Nat) (l0_4 : List (List Int)) (r : Int) (w : World) (hr0_0 : Kd.C (Kd.slice 3 (Kd.int .i64)) w A0_0 l0_0.length l0_0) (hc0_0 : l0_0.length ≤ c0_0) (hr0_3 : Kd.C (Kd.slice 3 (Kd.int .i64)) w A0_3 l0_3.length l0_3) (hc0_3 : l0_3.length ≤ c0_3) (hr0_4 : Kd.C (Kd.slice 3 (Kd.int .i64)) w A0_4 l0_4.length l0_4) (hc0_4 : l0_4.length ≤ c0_4) (h : llperiod.f k l0_0 a0_1 a0_2 l0_3 l0_4 = some r) :
  Calls Try.prog 54 #[.agg #[.slice A0_0 l0_0.length c0_0, .int .i64 a0_1, .int .i64 a0_2, .slice A0_3 l0_3.length c0_3, .slice A0_4 l0_4.length c0_4]] w fun e w' => e = .returned (.int .i64 r) ∧ Below w.heap.size w w' := by
 have hu58 := Try.underlying58
 have HR0_0 := xA.mk hr0_0
 have HC0_0 := xA.mk hc0_0
 clear hr0_0 hc0_0
 have HR0_3 := xA.mk hr0_3
 have HC0_3 := xA.mk hc0_3
 clear hr0_3 hc0_3
 have HR0_4 := xA.mk hr0_4
 have HC0_4 := xA.mk hc0_4
 clear hr0_4 hc0_4
 have HB := xA.mk (Below.refl w.heap.size w)
 have H : ((line_one_int.f k (l0_3.length : Int)).bind fun t294 => ((lgmapped_period_1.f k t294 0).bind fun t297 => (llperiod.l0 k (l0_3.length : Int) t297 (l0_3.length : Int) 0 l0_0 a0_1 a0_2 l0_3 l0_4))) = some r := h
 clear h
 replace H := qw H
 obtain ⟨t294, A20, H⟩ := H
 replace H : ((lgmapped_period_1.f k t294 0).bind fun t297 => (llperiod.l0 k (l0_3.length : Int) t297 (l0_3.length : Int) 0 l0_0 a0_1 a0_2 l0_3 l0_4)) = some r := H
 have A2 := xA.mk A20
 clear A20
 replace H := qw H
 obtain ⟨t297, A30, H⟩ := H
 replace H : (llperiod.l0 k (l0_3.length : Int) t297 (l0_3.length : Int) 0 l0_0 a0_1 a0_2 l0_3 l0_4) = some r := H
 have A3 := xA.mk A30
 clear A30
 have H' := xA.mk H
 clear H
 go_enter Try.func54, Try.ntmps54
 go_wp2_with (first | ((with_reducible refine xW (N := 1) rfl ?_); refine yF ?hg (N := 1) ?hd (cs := #[.slice A0_0 l0_0.length c0_0, .int .i64 a0_1, .int .i64 a0_2, .slice A0_3 l0_3.length c0_3, .slice A0_4 l0_4.length c0_4]) (t := 58) ?hr ?_; (case hd => rfl); (case hg => rfl); (case hr => go_simp); intro gb293 hg w4 hbox hb; have n0_ := xA.mk (xF (HB.out) hb); have n1_ := xA.mk (hbox); have n2_ := xA.mk ((by rw [hg]; exact (xD (HB.out)) : w.heap.size ≤ gb293)); have n3_ := xA.mk ((by rw [hg]; exact (xD (HB.out)) : w.heap.size ≤ gb293)); clear HB; have HB := n0_; have BK293 := n1_; have GW293 := n2_; have GE293 := n3_; clear n0_ n1_ n2_ n3_; clear hb hbox hg; have hcz5_0 : w4.cell? ⟨gb293, 0, none⟩ = some (.slice A0_0 l0_0.length c0_0) := (xB BK293.out 0).trans rfl; have hcz5_1 : w4.cell? ⟨gb293, 1, none⟩ = some (.int .i64 a0_1) := (xB BK293.out 1).trans rfl; have hcz5_2 : w4.cell? ⟨gb293, 2, none⟩ = some (.int .i64 a0_2) := (xB BK293.out 2).trans rfl; have hcz5_3 : w4.cell? ⟨gb293, 3, none⟩ = some (.slice A0_3 l0_3.length c0_3) := (xB BK293.out 3).trans rfl; have hcz5_4 : w4.cell? ⟨gb293, 4, none⟩ = some (.slice A0_4 l0_4.length c0_4) := (xB BK293.out 4).trans rfl; have hfz5_0 := xC BK293.out 0; have hfz5_1 := xC BK293.out 1; have hfz5_2 := xC BK293.out 2; have hfz5_3 := xC BK293.out 3; have hfz5_4 := xC BK293.out 4) | ((with_reducible refine xK (f := 87) rfl ?_); refine xS (some 18) rfl rfl Try.func87 jk rfl #[.int .i64 (l0_3.length : Int)] rfl qd ?_; (with_reducible refine (line_one_int.calls k (l0_3.length : Int) t294 _ A2.out).mono ?_); rintro e w6 ⟨v295, rfl, ho0, hb⟩; refine ⟨_, rfl, ?_⟩; have HO296 := xA.mk (Kd.S_lower ho0 (xD (HB.out))); replace BK293 := xA.mk (xO (g := gb293) (o := .cells #[.slice A0_0 l0_0.length c0_0, .int .i64 a0_1, .int .i64 a0_2, .slice A0_3 l0_3.length c0_3, .slice A0_4 l0_4.length c0_4] 58 (0, 0)) (by exact BK293.out) hb); replace HB := xA.mk (xF (HB.out) hb); obtain ⟨Ao7, co7, eo7⟩ := Kd.yD HO296.out; subst eo7) | ((with_reducible refine xK (f := 57) rfl ?_); refine xS (some 19) rfl rfl Try.func57 jk rfl #[.slice Ao7 t294.length co7, .func (.func 88) #[] #[]] rfl qd ?_; (with_reducible refine (lgmapped_period_1.calls k _ _ t294 0 t297 _ ?side1 ?side2 A3.out).mono ?_); (case side1 => repeat (first | exact (Kd.xJ HO296.out).2.2)); (case side2 => exact (Kd.xJ HO296.out).2.1); rintro e w8 ⟨v298, rfl, ho0, hb⟩; refine ⟨_, rfl, ?_⟩; have HO299 := xA.mk (Kd.S_lower (Kd.S_new' ho0 (Kd.S_lt (by exact HO296.out))) (xD (HB.out))); replace HO296 := xA.mk (Kd.S_elder' (by exact HO296.out) (Kd.S_base ho0) hb); replace BK293 := xA.mk (xO (g := gb293) (o := .cells #[.slice A0_0 l0_0.length c0_0, .int .i64 a0_1, .int .i64 a0_2, .slice A0_3 l0_3.length c0_3, .slice A0_4 l0_4.length c0_4] 58 (0, 0)) (by exact BK293.out) hb); replace HB := xA.mk (xF (HB.out) hb)))
 go_loopg [21] k (fun kq v21 w' => ∃ (x4_1 : List (List Int)) (x21_1 : Int), v21 = .int .i64 x21_1 ∧ xA (llperiod.l0 kq (l0_3.length : Int) x4_1 (l0_3.length : Int) x21_1 l0_0 a0_1 a0_2 l0_3 l0_4 = some r) ∧ xA (kq ≤ k) ∧ xA (Kd.S (Kd.slice 3 (Kd.int .i64)) 26 w' w.heap.size (fun _ => True) v298 x4_1) ∧ xA (w'.heap[gb293]? = some (.cells #[(.slice A0_0 l0_0.length c0_0), .int .i64 a0_1, .int .i64 a0_2, (.slice A0_3 l0_3.length c0_3), (.slice A0_4 l0_4.length c0_4)] 58 (0, 0))) ∧ xA (Below w.heap.size w w'))
 case atStart => exact ⟨(t297), (0), rfl, H', ⟨Nat.le_refl _⟩, ⟨by exact Kd.xQ HO299.out (fun _ hk => trivial)⟩, ⟨by exact BK293.out⟩, ⟨HB.out⟩⟩
 case round =>
  clear H'
  obtain ⟨x4_1, x21_1, rfl, HA, HK1, HO_4, BK293, HB⟩ := hrel
  obtain _ | k1 := gk
  · exact absurd HA.out (by simp [llperiod.l0])
  have H := HA.out
  clear HA
  simp only [llperiod.l0] at H
  obtain ⟨c9b0, H⟩ | ⟨c9b0, H⟩ := itd_or H
  ·
   have H' := xA.mk H
   clear H
   go_wp2
   go_loopg [25] k1 (fun kq v25 w' => ∃ (x4_2 : List (List Int)) (x25_2 : Int), v25 = .int .i64 x25_2 ∧ xA (llperiod.l1 kq (l0_3.length : Int) x4_2 x21_1 (l0_3.length : Int) x21_1 (l0_3.length : Int) x25_2 l0_0 a0_1 a0_2 l0_3 l0_4 = some r) ∧ xA (kq ≤ k1) ∧ xA (Kd.S (Kd.slice 3 (Kd.int .i64)) 26 w' w.heap.size (fun _ => True) v298 x4_2) ∧ xA (w'.heap[gb293]? = some (.cells #[(.slice A0_0 l0_0.length c0_0), .int .i64 a0_1, .int .i64 a0_2, (.slice A0_3 l0_3.length c0_3), (.slice A0_4 l0_4.length c0_4)] 58 (0, 0))) ∧ xA (Below w.heap.size w w'))
   case atStart => exact ⟨(x4_1), (0), rfl, H', ⟨Nat.le_refl _⟩, ⟨by exact HO_4.out⟩, ⟨by exact BK293.out⟩, ⟨HB.out⟩⟩
   case round =>
    clear H'
    obtain ⟨x4_2, x25_2, rfl, HA, HK2, HO_4, BK293, HB⟩ := hrel
    obtain _ | k2 := gk
    · exact absurd HA.out (by simp [llperiod.l1])
    have H := HA.out
    clear HA
    simp only [llperiod.l1] at H
    obtain ⟨c10b0, H⟩ | ⟨c10b0, H⟩ := itd_or H
    rotate_left
    ·
     have H' := xA.mk H
     clear H
     go_wp2
     go_roundg k2
     case measure => have := HK1.out; have := HK2.out; omega
     case rel => exact ⟨(x4_2), (wrap64 (x21_1 + 1)), rfl, H', ⟨by have := HK1.out; have := HK2.out; omega⟩, ⟨by exact HO_4.out⟩, ⟨by exact BK293.out⟩, ⟨HB.out⟩⟩
    replace H := qw H
    obtain ⟨t300, A110, H⟩ := H
    replace H : (if t300 = true then (if 0 ≤ x21_1 then (if x21_1 < (x4_2.length : Int) then (if 0 ≤ x25_2 then (if x25_2 < ((rd_L1 x4_2 x21_1).length : Int) then (llperiod.l1 k2 (l0_3.length : Int) (x4_2.set (x21_1 : Int).toNat ((rd_L1 x4_2 x21_1).set (x25_2 : Int).toNat 0)) x21_1 (l0_3.length : Int) x21_1 (l0_3.length : Int) (wrap64 (x25_2 + 1)) l0_0 a0_1 a0_2 l0_3 l0_4) else (none)) else (none)) else (none)) else (none)) else (llperiod.l1 k2 (l0_3.length : Int) x4_2 x21_1 (l0_3.length : Int) x21_1 (l0_3.length : Int) (wrap64 (x25_2 + 1)) l0_0 a0_1 a0_2 l0_3 l0_4)) = some r := H
    have A11 := xA.mk A110
    clear A110
    by_cases c12 : t300 = true
    rotate_left
    ·
     replace c12 := Bool.eq_false_iff.mpr c12
     subst c12
     have H1 : (llperiod.l1 k2 (l0_3.length : Int) x4_2 x21_1 (l0_3.length : Int) x21_1 (l0_3.length : Int) (wrap64 (x25_2 + 1)) l0_0 a0_1 a0_2 l0_3 l0_4) = some r := by rw [if_neg (show ¬ (false = true) by decide)] at H; exact H
     clear H
     have H := H1
     clear H1
     have H' := xA.mk H
     clear H
     have hcz23_0 : wr.cell? ⟨gb293, 0, none⟩ = some (.slice A0_0 l0_0.length c0_0) := (xB BK293.out 0).trans rfl
     have hcz23_1 : wr.cell? ⟨gb293, 1, none⟩ = some (.int .i64 a0_1) := (xB BK293.out 1).trans rfl
     have hcz23_2 : wr.cell? ⟨gb293, 2, none⟩ = some (.int .i64 a0_2) := (xB BK293.out 2).trans rfl
     have hcz23_3 : wr.cell? ⟨gb293, 3, none⟩ = some (.slice A0_3 l0_3.length c0_3) := (xB BK293.out 3).trans rfl
     have hcz23_4 : wr.cell? ⟨gb293, 4, none⟩ = some (.slice A0_4 l0_4.length c0_4) := (xB BK293.out 4).trans rfl
     have hfz23_0 := xC BK293.out 0
     have hfz23_1 := xC BK293.out 1
     have hfz23_2 := xC BK293.out 2
     have hfz23_3 := xC BK293.out 3
     have hfz23_4 := xC BK293.out 4
     go_wp2_with (first | ((with_reducible refine xK (f := 84) rfl ?_); refine xS (some 31) rfl rfl Try.func84 jk rfl #[.agg #[.slice A0_0 l0_0.length c0_0, .int .i64 a0_1, .int .i64 a0_2, .slice A0_3 l0_3.length c0_3, .slice A0_4 l0_4.length c0_4], .int .i64 x21_1, .int .i64 x25_2] rfl qd ?_; (with_reducible refine (llcritical.calls _ _ l0_0 a0_1 a0_2 _ _ l0_3 _ _ l0_4 x21_1 x25_2 false _ ?side1 ?side2 ?side3 ?side4 ?side5 ?side6 A11.out).mono ?_); (case side1 => repeat (first | exact (Kd.yC HR0_0.out HB.out))); (case side2 => exact HC0_0.out); (case side3 => repeat (first | exact (Kd.yC HR0_3.out HB.out))); (case side4 => exact HC0_3.out); (case side5 => repeat (first | exact (Kd.yC HR0_4.out HB.out))); (case side6 => exact HC0_4.out); rintro e w24 ⟨rfl, hb⟩; refine ⟨_, rfl, ?_⟩; replace HO_4 := xA.mk (Kd.xX (by exact HO_4.out) hb); replace BK293 := xA.mk (xO (g := gb293) (o := .cells #[.slice A0_0 l0_0.length c0_0, .int .i64 a0_1, .int .i64 a0_2, .slice A0_3 l0_3.length c0_3, .slice A0_4 l0_4.length c0_4] 58 (0, 0)) (by exact BK293.out) hb); replace HB := xA.mk (xF (HB.out) hb)))
     go_roundg k2
     case measure => have := HK1.out; have := HK2.out; omega
     case rel => exact ⟨(x4_2), (wrap64 (x25_2 + 1)), rfl, H', ⟨by have := HK1.out; have := HK2.out; omega⟩, ⟨by exact HO_4.out⟩, ⟨by exact BK293.out⟩, ⟨HB.out⟩⟩
    subst c12
    have H1 : (if 0 ≤ x21_1 then (if x21_1 < (x4_2.length : Int) then (if 0 ≤ x25_2 then (if x25_2 < ((rd_L1 x4_2 x21_1).length : Int) then (llperiod.l1 k2 (l0_3.length : Int) (x4_2.set (x21_1 : Int).toNat ((rd_L1 x4_2 x21_1).set (x25_2 : Int).toNat 0)) x21_1 (l0_3.length : Int) x21_1 (l0_3.length : Int) (wrap64 (x25_2 + 1)) l0_0 a0_1 a0_2 l0_3 l0_4) else (none)) else (none)) else (none)) else (none)) = some r := by rw [if_pos rfl] at H; exact H
    clear H
    have H := H1
    clear H1
    obtain ⟨c13b0, H⟩ := xL H
    obtain ⟨c14b0, H⟩ := xL H
    obtain ⟨c15b0, H⟩ := xL H
    obtain ⟨c16b0, H⟩ := xL H
    obtain ⟨y302, hy302⟩ : ∃ y_ : List Int, y_ = ((rd_L1 x4_2 x21_1).set (x25_2 : Int).toNat 0) := ⟨_, rfl⟩
    replace H : (llperiod.l1 k2 (l0_3.length : Int) (x4_2.set (x21_1 : Int).toNat y302) x21_1 (l0_3.length : Int) x21_1 (l0_3.length : Int) (wrap64 (x25_2 + 1)) l0_0 a0_1 a0_2 l0_3 l0_4) = some r := by rw [hy302]; exact H
    have Ny302 := xA.mk hy302
    clear hy302
    obtain ⟨y304, hy304⟩ : ∃ y_ : List (List Int), y_ = (x4_2.set (x21_1 : Int).toNat y302) := ⟨_, rfl⟩
    replace H : (llperiod.l1 k2 (l0_3.length : Int) y304 x21_1 (l0_3.length : Int) x21_1 (l0_3.length : Int) (wrap64 (x25_2 + 1)) l0_0 a0_1 a0_2 l0_3 l0_4) = some r := by rw [hy304]; exact H
    have Ny304 := xA.mk hy304
    clear hy304
    have H' := xA.mk H
    clear H
    have hcz18_0 : wr.cell? ⟨gb293, 0, none⟩ = some (.slice A0_0 l0_0.length c0_0) := (xB BK293.out 0).trans rfl
    have hcz18_1 : wr.cell? ⟨gb293, 1, none⟩ = some (.int .i64 a0_1) := (xB BK293.out 1).trans rfl
    have hcz18_2 : wr.cell? ⟨gb293, 2, none⟩ = some (.int .i64 a0_2) := (xB BK293.out 2).trans rfl
    have hcz18_3 : wr.cell? ⟨gb293, 3, none⟩ = some (.slice A0_3 l0_3.length c0_3) := (xB BK293.out 3).trans rfl
    have hcz18_4 : wr.cell? ⟨gb293, 4, none⟩ = some (.slice A0_4 l0_4.length c0_4) := (xB BK293.out 4).trans rfl
    have hfz18_0 := xC BK293.out 0
    have hfz18_1 := xC BK293.out 1
    have hfz18_2 := xC BK293.out 2
    have hfz18_3 := xC BK293.out 3
    have hfz18_4 := xC BK293.out 4
    go_wp2_with (first | ((with_reducible refine xK (f := 84) rfl ?_); refine xS (some 31) rfl rfl Try.func84 jk rfl #[.agg #[.slice A0_0 l0_0.length c0_0, .int .i64 a0_1, .int .i64 a0_2, .slice A0_3 l0_3.length c0_3, .slice A0_4 l0_4.length c0_4], .int .i64 x21_1, .int .i64 x25_2] rfl qd ?_; (with_reducible refine (llcritical.calls _ _ l0_0 a0_1 a0_2 _ _ l0_3 _ _ l0_4 x21_1 x25_2 true _ ?side1 ?side2 ?side3 ?side4 ?side5 ?side6 A11.out).mono ?_); (case side1 => repeat (first | exact (Kd.yC HR0_0.out HB.out))); (case side2 => exact HC0_0.out); (case side3 => repeat (first | exact (Kd.yC HR0_3.out HB.out))); (case side4 => exact HC0_3.out); (case side5 => repeat (first | exact (Kd.yC HR0_4.out HB.out))); (case side6 => exact HC0_4.out); rintro e w19 ⟨rfl, hb⟩; refine ⟨_, rfl, ?_⟩; replace HO_4 := xA.mk (Kd.xX (by exact HO_4.out) hb); replace BK293 := xA.mk (xO (g := gb293) (o := .cells #[.slice A0_0 l0_0.length c0_0, .int .i64 a0_1, .int .i64 a0_2, .slice A0_3 l0_3.length c0_3, .slice A0_4 l0_4.length c0_4] 58 (0, 0)) (by exact BK293.out) hb); replace HB := xA.mk (xF (HB.out) hb); obtain ⟨Ao20, co20, eo20⟩ := Kd.yD HO_4.out; subst eo20; have p301 : 0 ≤ (x21_1 : Int) := qq; have q301 : x21_1 < (x4_2.length : Int) := qq; obtain ⟨ad301, A301_0, c301_0, e301, hx301_0, hl301_0, hi301_0⟩ := at_L1 (Kd.xJ HO_4.out).2.2 x21_1 p301 q301; cases e301; obtain ⟨ce301, hce301, hMe301, hcc301⟩ := Kd.S_get HO_4.out [] x21_1 p301 (by first | exact q301 | exact qq | (have e_ := (Kd.xJ HO_4.out).1; omega)); obtain ⟨ve301_0, rfl, ge301_0⟩ := hMe301; have hv301_0 := hcc301 0 _ rfl; rw [Nat.add_zero, show ((Kd.slice 3 (Kd.int .i64))).sz = 1 from rfl, Nat.mul_one] at hv301_0; replace hv301_0 := qx (hv301_0.symm.trans hx301_0); rw [hv301_0] at ge301_0; have HL301_0 := xA.mk (show Kd.R (Kd.int .i64) 3 _ _ _ _ (rd_L1 x4_2 x21_1) from ge301_0); clear hv301_0 ge301_0; have HX301_0 := xA.mk hx301_0; clear hcc301 hce301; have HR301_0 := xA.mk hi301_0; have HC301_0 := xA.mk hl301_0; clear hi301_0 hl301_0; replace p301 := eq_true p301; replace q301 := eq_true q301; have p17 : 0 ≤ (x25_2 : Int) := qq; have q17 : (x25_2 : Int) < (((rd_L1 x4_2 x21_1).length : Int) : Int) := qq; obtain ⟨go17, co17, eo17, gb17, gl17, cl17, HG17⟩ := Kd.R_form HL301_0.out jj; (first | cases eo17 | (injection eo17 with ea_ en_ ec_; (first | subst ea_ | (injection ea_ with ea_; subst ea_)); subst ec_; clear en_)); have GB17 := xA.mk gb17; have GG17 := xA.mk HG17; clear gb17 gl17 HG17; obtain ⟨hx17_0, hf17_0⟩ := Kd.R_celln 0 HL301_0.out (x25_2 : Int) p17 q17; replace p17 := eq_true p17; replace q17 := eq_true q17; have hq21 : (x21_1 : Int) < (x4_2.length : Int) := (by have h_ : (x21_1 : Int) < ((x4_2.length : Int) : Int) := qq; first | exact h_ | (have e_ := (Kd.xJ HO_4.out).1; omega) | simpa only [List.length_set, List.length_set] using h_); obtain ⟨oki21, ce21, hcl21, hM21, hcc21, hok21, hbk21⟩ := Kd.S_borrow HO_4.out [] (x21_1 : Int) (qq) hq21; obtain ⟨ve21_0, rfl, ge21_0⟩ := hM21; have hv21 := hcc21 0 _ rfl; rw [Nat.add_zero, show ((Kd.slice 3 (Kd.int .i64))).sz = 1 from rfl, Nat.mul_one] at hv21; replace hv21 := qx (hv21.symm.trans HX301_0.out); subst hv21; clear hcc21 hcl21; replace ge21_0 := (show Kd.R (Kd.int .i64) 3 _ _ _ _ (rd_L1 x4_2 x21_1) from ge21_0); have HP21 := Kd.R_putg ge21_0 (x25_2 : Int) 0) | ((with_reducible refine gate_store (t := 3) (p := 37) rfl ?_); refine store_event (t := 3) (p := 37) (v := ?vo_w22) (w1 := (w19.setCell ⟨go17, (x25_2 : Int).toNat, none⟩ (.int .i64 0))) ?hg ?ho ?hn ?hr ?_; (case ho => rfl); (case hg => rfl); (case hn => rfl); (case hr => go_simp); intro w22 hw; have hg : w19.grownBy w22 (some go17) := (by rw [hw]; exact HP21.2); have hz_ : Kd.R (Kd.int .i64) 3 w22 w.heap.size oki21 (.slice (some ⟨go17, 0, none⟩) (rd_L1 x4_2 x21_1).length c301_0) y302 := (by rw [hw, Ny302.out]; exact HP21.1); have hp_ : Kd.S (Kd.slice 3 (Kd.int .i64)) 26 w22 w.heap.size (fun _ => True) (.slice (some ad301) x4_2.length co20) y304 := (by rw [Ny304.out]; exact hbk21 hg (fun k_ e_ => by injection e_ with e_; subst e_; exact ge21_0.1 _ rfl) (Kd.M_row hz_)); have hm_ := Kd.xZ hz_ hok21; clear HP21 hbk21; have n0_ := xA.mk (hp_); have n1_ := xA.mk (blk_grown (g := gb293) (o := .cells #[.slice A0_0 l0_0.length c0_0, .int .i64 a0_1, .int .i64 a0_2, .slice A0_3 l0_3.length c0_3, .slice A0_4 l0_4.length c0_4] 58 (0, 0)) (by exact BK293.out) hg (Kd.R_ne HL301_0.out BK293.out (by decide))); have n2_ := xA.mk ((by rw [hw]; exact xM (HB.out) GB17.out : Below w.heap.size w w22)); have n3_ := xA.mk (hm_); have n4_ := xA.mk ((Kd.yE hm_).2.1); clear HO_4; clear BK293; clear HB; clear HL301_0; have HO_4 := n0_; have BK293 := n1_; have HB := n2_; have HL322 := n3_; have HC303 := n4_; clear n0_ n1_ n2_ n3_ n4_; clear hg hw hp_ hz_ hm_ hok21))
    go_roundg k2
    case measure => have := HK1.out; have := HK2.out; omega
    case rel => exact ⟨(y304), (wrap64 (x25_2 + 1)), rfl, H', ⟨by have := HK1.out; have := HK2.out; omega⟩, ⟨by exact HO_4.out⟩, ⟨by exact BK293.out⟩, ⟨HB.out⟩⟩
  replace H := qw H
  obtain ⟨t305, A250, H⟩ := H
  replace H : (llperiod.l2 k1 (l0_3.length : Int) x4_1 t305 1 (l0_3.length : Int) 0) = some r := H
  have A25 := xA.mk A250
  clear A250
  have H' := xA.mk H
  clear H
  obtain ⟨Ao26, co26, eo26⟩ := Kd.yD HO_4.out
  subst eo26
  go_wp2_with (first | ((with_reducible refine xK (f := 66) rfl ?_); refine xS (some 41) rfl rfl Try.func66 jk rfl #[.slice Ao26 x4_1.length co26] rfl qd ?_; (with_reducible refine (lgclosed.calls k1 _ _ x4_1 t305 _ ?side1 ?side2 A25.out).mono ?_); (case side1 => repeat (first | exact (Kd.xJ HO_4.out).2.2)); (case side2 => exact (Kd.xJ HO_4.out).2.1); rintro e w27 ⟨v306, rfl, ho0, hb⟩; refine ⟨_, rfl, ?_⟩; have HO307 := xA.mk (Kd.S_lower (Kd.S_new' ho0 (Kd.S_lt (by exact HO_4.out))) (xD (HB.out))); replace HO_4 := xA.mk (Kd.S_elder' (by exact HO_4.out) (Kd.S_base ho0) hb); replace BK293 := xA.mk (xO (g := gb293) (o := .cells #[.slice A0_0 l0_0.length c0_0, .int .i64 a0_1, .int .i64 a0_2, .slice A0_3 l0_3.length c0_3, .slice A0_4 l0_4.length c0_4] 58 (0, 0)) (by exact BK293.out) hb); replace HB := xA.mk (xF (HB.out) hb)))
  go_loopg [8, 43] k1 (fun kq v8 v43 w' => ∃ (x8_2 : Int) (x43_2 : Int), v8 = .int .i64 x8_2 ∧ v43 = .int .i64 x43_2 ∧ xA (llperiod.l2 kq (l0_3.length : Int) x4_1 t305 x8_2 (l0_3.length : Int) x43_2 = some r) ∧ xA (kq ≤ k1) ∧ xA (Kd.S (Kd.slice 3 (Kd.int .i64)) 26 w' w.heap.size (fun k_ => some k_ ≠ (v306 : Value).ownBlock) (.slice Ao26 x4_1.length co26) x4_1) ∧ xA (Kd.S (Kd.slice 3 (Kd.int .i64)) 26 w' w.heap.size (fun k_ => some k_ ≠ ((.slice Ao26 x4_1.length co26) : Value).ownBlock) v306 t305) ∧ xA (w'.heap[gb293]? = some (.cells #[(.slice A0_0 l0_0.length c0_0), .int .i64 a0_1, .int .i64 a0_2, (.slice A0_3 l0_3.length c0_3), (.slice A0_4 l0_4.length c0_4)] 58 (0, 0))) ∧ xA (Below w.heap.size w w'))
  case atStart => exact ⟨(1), (0), rfl, rfl, H', ⟨Nat.le_refl _⟩, ⟨by exact Kd.xQ HO_4.out (fun _ hk => hk.2)⟩, ⟨by exact Kd.xQ HO307.out (fun _ hk => hk.2)⟩, ⟨by exact BK293.out⟩, ⟨HB.out⟩⟩
  case round =>
   clear H'
   obtain ⟨x8_2, x43_2, rfl, rfl, HA, HK2, HO_4, HO_7, BK293, HB⟩ := hrel
   obtain _ | k2 := gk
   · exact absurd HA.out (by simp [llperiod.l2])
   have H := HA.out
   clear HA
   simp only [llperiod.l2] at H
   obtain ⟨c28b0, H⟩ | ⟨c28b0, H⟩ := itd_or H
   rotate_left
   ·
    obtain rfl := qx H
    go_wp2
    go_ret
    exact ⟨rfl, HB.out⟩
   replace H := qw H
   obtain ⟨t308, A290, H⟩ := H
   replace H : (llperiod.l3 k2 (l0_3.length : Int) x4_1 t305 x8_2 x43_2 0 t308 1 (l0_3.length : Int) x43_2) = some r := H
   have A29 := xA.mk A290
   clear A290
   have H' := xA.mk H
   clear H
   go_wp2_with (first | ((with_reducible refine xK (f := 87) rfl ?_); refine xS (some 47) rfl rfl Try.func87 jk rfl #[.int .i64 (l0_3.length : Int)] rfl qd ?_; (with_reducible refine (line_one_int.calls k2 (l0_3.length : Int) t308 _ A29.out).mono ?_); rintro e w30 ⟨v309, rfl, ho0, hb⟩; refine ⟨_, rfl, ?_⟩; have HO310 := xA.mk (Kd.S_lower (Kd.S_new' (Kd.S_new' ho0 (Kd.S_lt (by exact HO_4.out))) (Kd.S_lt (by exact HO_7.out))) (xD (HB.out))); replace HO_4 := xA.mk (Kd.S_elder' (by exact HO_4.out) (Kd.S_base ho0) hb); replace HO_7 := xA.mk (Kd.S_elder' (by exact HO_7.out) (Kd.S_base ho0) hb); replace BK293 := xA.mk (xO (g := gb293) (o := .cells #[.slice A0_0 l0_0.length c0_0, .int .i64 a0_1, .int .i64 a0_2, .slice A0_3 l0_3.length c0_3, .slice A0_4 l0_4.length c0_4] 58 (0, 0)) (by exact BK293.out) hb); replace HB := xA.mk (xF (HB.out) hb)))
   go_loopg [10, 11, 12] k2 (fun kq v10 v11 v12 w' => ∃ (x10_3 : Int) (x11_3 : List (List Int)) (x12_3 : Int), v10 = .int .i64 x10_3 ∧ v12 = .int .i64 x12_3 ∧ xA (llperiod.l3 kq (l0_3.length : Int) x4_1 t305 x8_2 x43_2 x10_3 x11_3 x12_3 (l0_3.length : Int) x43_2 = some r) ∧ xA (kq ≤ k2) ∧ xA (Kd.S (Kd.slice 3 (Kd.int .i64)) 26 w' w.heap.size (fun k_ => some k_ ≠ (v306 : Value).ownBlock ∧ some k_ ≠ (v11 : Value).ownBlock) (.slice Ao26 x4_1.length co26) x4_1) ∧ xA (Kd.S (Kd.slice 3 (Kd.int .i64)) 26 w' w.heap.size (fun k_ => some k_ ≠ ((.slice Ao26 x4_1.length co26) : Value).ownBlock ∧ some k_ ≠ (v11 : Value).ownBlock) v306 t305) ∧ xA (Kd.S (Kd.slice 3 (Kd.int .i64)) 26 w' w.heap.size (fun k_ => some k_ ≠ ((.slice Ao26 x4_1.length co26) : Value).ownBlock ∧ some k_ ≠ (v306 : Value).ownBlock) v11 x11_3) ∧ xA (w'.heap[gb293]? = some (.cells #[(.slice A0_0 l0_0.length c0_0), .int .i64 a0_1, .int .i64 a0_2, (.slice A0_3 l0_3.length c0_3), (.slice A0_4 l0_4.length c0_4)] 58 (0, 0))) ∧ xA (Below w.heap.size w w'))
   case atStart => exact ⟨(0), (t308), (1), rfl, rfl, H', ⟨Nat.le_refl _⟩, ⟨by exact HO_4.out⟩, ⟨by exact HO_7.out⟩, ⟨by exact Kd.xQ HO310.out (fun _ hk => ⟨hk.1.2, hk.2⟩)⟩, ⟨by exact BK293.out⟩, ⟨HB.out⟩⟩
   case round =>
    clear H'
    obtain ⟨x10_3, x11_3, x12_3, rfl, rfl, HA, HK3, HO_4, HO_7, HO_11, BK293, HB⟩ := hrel
    obtain _ | k3 := gk
    · exact absurd HA.out (by simp [llperiod.l3])
    have H := HA.out
    clear HA
    simp only [llperiod.l3] at H
    obtain ⟨c31b0, H⟩ | ⟨c31b0, H⟩ := itd_or H
    rotate_left
    ·
     by_cases c56 : x10_3 > 0
     rotate_left
     ·
      rw [if_neg c56] at H
      have c56b0 : decide (0 < x10_3) = false := qv c56
      clear c56
      have H' := xA.mk H
      clear H
      go_wp2
      go_roundg k3
      case measure => have := HK1.out; have := HK2.out; have := HK3.out; omega
      case rel => exact ⟨(x8_2), (wrap64 (x43_2 + 1)), rfl, rfl, H', ⟨by have := HK1.out; have := HK2.out; have := HK3.out; omega⟩, ⟨by exact Kd.xQ HO_4.out (fun _ hk => hk.1)⟩, ⟨by exact Kd.xQ HO_7.out (fun _ hk => hk.1)⟩, ⟨by exact BK293.out⟩, ⟨HB.out⟩⟩
     rw [if_pos c56] at H
     have c56b0 : decide (0 < x10_3) = true := qu c56
     clear c56
     replace H := qw H
     obtain ⟨t311, A570, H⟩ := H
     replace H : (if t311 = 0 then (none) else (llperiod.l2 k3 (l0_3.length : Int) x4_1 t305 (wrap64 ((wrap64 (Int.tdiv x8_2 t311)) * x10_3)) (l0_3.length : Int) (wrap64 (x43_2 + 1)))) = some r := H
     have A57 := xA.mk A570
     clear A570
     by_cases c58 : t311 = 0
     ·
      rw [if_pos c58] at H
      exact absurd H (by simp)
     rw [if_neg c58] at H
     have c58b0 : (t311 == 0) = false := jg c58
     have H' := xA.mk H
     clear H
     go_wp2_with (first | ((with_reducible refine xK (f := 89) rfl ?_); refine xS (some 98) rfl rfl Try.func89 jk rfl #[.int .i64 x8_2, .int .i64 x10_3] rfl qd ?_; (with_reducible refine (line_gcd.calls k3 x8_2 x10_3 t311 _ A57.out).mono ?_); rintro e w59 ⟨rfl, hb⟩; refine ⟨_, rfl, ?_⟩; replace HO_4 := xA.mk (Kd.xX (by exact HO_4.out) hb); replace HO_7 := xA.mk (Kd.xX (by exact HO_7.out) hb); replace HO_11 := xA.mk (Kd.xX (by exact HO_11.out) hb); replace BK293 := xA.mk (xO (g := gb293) (o := .cells #[.slice A0_0 l0_0.length c0_0, .int .i64 a0_1, .int .i64 a0_2, .slice A0_3 l0_3.length c0_3, .slice A0_4 l0_4.length c0_4] 58 (0, 0)) (by exact BK293.out) hb); replace HB := xA.mk (xF (HB.out) hb)))
     go_roundg k3
     case measure => have := HK1.out; have := HK2.out; have := HK3.out; omega
     case rel => exact ⟨(wrap64 ((wrap64 (Int.tdiv x8_2 t311)) * x10_3)), (wrap64 (x43_2 + 1)), rfl, rfl, H', ⟨by have := HK1.out; have := HK2.out; have := HK3.out; omega⟩, ⟨by exact Kd.xQ HO_4.out (fun _ hk => hk.1)⟩, ⟨by exact Kd.xQ HO_7.out (fun _ hk => hk.1)⟩, ⟨by exact BK293.out⟩, ⟨HB.out⟩⟩
    replace H := qw H
    obtain ⟨t312, A320, H⟩ := H
    replace H : (llperiod.l4 k3 (l0_3.length : Int) x4_1 t305 x8_2 x43_2 x10_3 t312 x12_3 (l0_3.length : Int) x43_2 (l0_3.length : Int) 0) = some r := H
    have A32 := xA.mk A320
    clear A320
    have H' := xA.mk H
    clear H
    obtain ⟨Ao33, co33, eo33⟩ := Kd.yD HO_11.out
    subst eo33
    go_wp2_with (first | ((with_reducible refine xK (f := 59) rfl ?_); refine xS (some 56) rfl rfl Try.func59 jk rfl #[.slice Ao33 x11_3.length co33, .slice Ao26 x4_1.length co26] rfl qd ?_; (with_reducible refine (lgtimes.calls k3 _ _ x11_3 _ _ x4_1 t312 _ ?side1 ?side2 ?side3 ?side4 A32.out).mono ?_); (case side1 => repeat (first | exact (Kd.xJ HO_11.out).2.2)); (case side2 => exact (Kd.xJ HO_11.out).2.1); (case side3 => repeat (first | exact (Kd.xJ HO_4.out).2.2)); (case side4 => exact (Kd.xJ HO_4.out).2.1); rintro e w34 ⟨v313, rfl, ho0, hb⟩; refine ⟨_, rfl, ?_⟩; have HO314 := xA.mk (Kd.S_lower (Kd.S_new' (Kd.S_new' (Kd.S_new' ho0 (Kd.S_lt (by exact HO_4.out))) (Kd.S_lt (by exact HO_7.out))) (Kd.S_lt (by exact HO_11.out))) (xD (HB.out))); replace HO_4 := xA.mk (Kd.S_elder' (by exact HO_4.out) (Kd.S_base ho0) hb); replace HO_7 := xA.mk (Kd.S_elder' (by exact HO_7.out) (Kd.S_base ho0) hb); replace HO_11 := xA.mk (Kd.S_elder' (by exact HO_11.out) (Kd.S_base ho0) hb); replace BK293 := xA.mk (xO (g := gb293) (o := .cells #[.slice A0_0 l0_0.length c0_0, .int .i64 a0_1, .int .i64 a0_2, .slice A0_3 l0_3.length c0_3, .slice A0_4 l0_4.length c0_4] 58 (0, 0)) (by exact BK293.out) hb); replace HB := xA.mk (xF (HB.out) hb)))
    go_loopg [10, 58] k3 (fun kq v10 v58 w' => ∃ (x10_4 : Int) (x58_4 : Int), v10 = .int .i64 x10_4 ∧ v58 = .int .i64 x58_4 ∧ xA (llperiod.l4 kq (l0_3.length : Int) x4_1 t305 x8_2 x43_2 x10_4 t312 x12_3 (l0_3.length : Int) x43_2 (l0_3.length : Int) x58_4 = some r) ∧ xA (kq ≤ k3) ∧ xA (Kd.S (Kd.slice 3 (Kd.int .i64)) 26 w' w.heap.size (fun k_ => some k_ ≠ (v306 : Value).ownBlock ∧ some k_ ≠ (v313 : Value).ownBlock) (.slice Ao26 x4_1.length co26) x4_1) ∧ xA (Kd.S (Kd.slice 3 (Kd.int .i64)) 26 w' w.heap.size (fun k_ => some k_ ≠ ((.slice Ao26 x4_1.length co26) : Value).ownBlock ∧ some k_ ≠ (v313 : Value).ownBlock) v306 t305) ∧ xA (Kd.S (Kd.slice 3 (Kd.int .i64)) 26 w' w.heap.size (fun k_ => some k_ ≠ ((.slice Ao26 x4_1.length co26) : Value).ownBlock ∧ some k_ ≠ (v306 : Value).ownBlock) v313 t312) ∧ xA (w'.heap[gb293]? = some (.cells #[(.slice A0_0 l0_0.length c0_0), .int .i64 a0_1, .int .i64 a0_2, (.slice A0_3 l0_3.length c0_3), (.slice A0_4 l0_4.length c0_4)] 58 (0, 0))) ∧ xA (Below w.heap.size w w'))
    case atStart => exact ⟨(x10_3), (0), rfl, rfl, H', ⟨Nat.le_refl _⟩, ⟨by exact Kd.xQ HO_4.out (fun _ hk => ⟨hk.1.1, hk.2⟩)⟩, ⟨by exact Kd.xQ HO_7.out (fun _ hk => ⟨hk.1.1, hk.2⟩)⟩, ⟨by exact Kd.xQ HO314.out (fun _ hk => ⟨hk.1.1.2, hk.1.2⟩)⟩, ⟨by exact BK293.out⟩, ⟨HB.out⟩⟩
    case round =>
     clear H'
     obtain ⟨x10_4, x58_4, rfl, rfl, HA, HK4, HO_4, HO_7, HO_11, BK293, HB⟩ := hrel
     obtain _ | k4 := gk
     · exact absurd HA.out (by simp [llperiod.l4])
     have H := HA.out
     clear HA
     simp only [llperiod.l4] at H
     obtain ⟨c35b0, H⟩ | ⟨c35b0, H⟩ := itd_or H
     rotate_left
     ·
      have H' := xA.mk H
      clear H
      go_wp2
      go_roundg k4
      case measure => have := HK1.out; have := HK2.out; have := HK3.out; have := HK4.out; omega
      case rel => exact ⟨(x10_4), (t312), (wrap64 (x12_3 + 1)), rfl, rfl, H', ⟨by have := HK1.out; have := HK2.out; have := HK3.out; have := HK4.out; omega⟩, ⟨by exact HO_4.out⟩, ⟨by exact HO_7.out⟩, ⟨by exact HO_11.out⟩, ⟨by exact BK293.out⟩, ⟨HB.out⟩⟩
     obtain ⟨c36b0, H⟩ := xL H
     obtain ⟨c37b0, H⟩ := xL H
     obtain ⟨c38b0, H⟩ := xL H
     by_cases c39 : (rd (rd_L1 t312 x58_4) x58_4) = 0
     rotate_left
     ·
      rw [if_neg c39] at H
      have c39b0 : ((rd (rd_L1 t312 x58_4) x58_4) == 0) = false := jg c39
      have H' := xA.mk H
      clear H
      obtain ⟨Ao55, co55, eo55⟩ := Kd.yD HO_11.out
      subst eo55
      have p315 : 0 ≤ (x58_4 : Int) := qq
      have q315 : x58_4 < (t312.length : Int) := qq
      obtain ⟨ad315, A315_0, c315_0, e315, hx315_0, hl315_0, hi315_0⟩ := at_L1 (Kd.xJ HO_11.out).2.2 x58_4 p315 q315
      cases e315
      obtain ⟨ce315, hce315, hMe315, hcc315⟩ := Kd.S_get HO_11.out [] x58_4 p315 (by first | exact q315 | exact qq | (have e_ := (Kd.xJ HO_11.out).1; omega))
      obtain ⟨ve315_0, rfl, ge315_0⟩ := hMe315
      have hv315_0 := hcc315 0 _ rfl
      rw [Nat.add_zero, show ((Kd.slice 3 (Kd.int .i64))).sz = 1 from rfl, Nat.mul_one] at hv315_0
      replace hv315_0 := qx (hv315_0.symm.trans hx315_0)
      rw [hv315_0] at ge315_0
      have HL315_0 := xA.mk (show Kd.R (Kd.int .i64) 3 _ _ _ _ (rd_L1 t312 x58_4) from ge315_0)
      clear hv315_0 ge315_0
      have HX315_0 := xA.mk hx315_0
      clear hcc315 hce315
      have HR315_0 := xA.mk hi315_0
      have HC315_0 := xA.mk hl315_0
      clear hi315_0 hl315_0
      replace p315 := eq_true p315
      replace q315 := eq_true q315
      have p316 : 0 ≤ (x58_4 : Int) := qq
      have q316 : x58_4 < ((rd_L1 t312 x58_4).length : Int) := qq
      obtain ⟨ad316, e316, hx316_0⟩ := Kd.xU (by repeat (first | (with_reducible exact HR315_0.out) | exact HR315_0.out)) x58_4 p316 q316
      cases e316
      replace p316 := eq_true p316
      replace q316 := eq_true q316
      go_wp2
      go_roundg k4
      case measure => have := HK1.out; have := HK2.out; have := HK3.out; have := HK4.out; omega
      case rel => exact ⟨(x10_4), (wrap64 (x58_4 + 1)), rfl, rfl, H', ⟨by have := HK1.out; have := HK2.out; have := HK3.out; have := HK4.out; omega⟩, ⟨by exact HO_4.out⟩, ⟨by exact HO_7.out⟩, ⟨by exact HO_11.out⟩, ⟨by exact BK293.out⟩, ⟨HB.out⟩⟩
     rw [if_pos c39] at H
     have c39b0 : ((rd (rd_L1 t312 x58_4) x58_4) == 0) = true := beq_iff_eq.mpr c39
     clear c39
     obtain ⟨c40b0, H⟩ := xL H
     obtain ⟨c41b0, H⟩ := xL H
     obtain ⟨c42b0, H⟩ := xL H
     by_cases c43 : (rd (rd_L1 t305 x43_2) x58_4) = 0
     rotate_left
     ·
      rw [if_neg c43] at H
      have c43b0 : ((rd (rd_L1 t305 x43_2) x58_4) == 0) = false := jg c43
      have H' := xA.mk H
      clear H
      obtain ⟨Ao53, co53, eo53⟩ := Kd.yD HO_11.out
      subst eo53
      have p315 : 0 ≤ (x58_4 : Int) := qq
      have q315 : x58_4 < (t312.length : Int) := qq
      obtain ⟨ad315, A315_0, c315_0, e315, hx315_0, hl315_0, hi315_0⟩ := at_L1 (Kd.xJ HO_11.out).2.2 x58_4 p315 q315
      cases e315
      obtain ⟨ce315, hce315, hMe315, hcc315⟩ := Kd.S_get HO_11.out [] x58_4 p315 (by first | exact q315 | exact qq | (have e_ := (Kd.xJ HO_11.out).1; omega))
      obtain ⟨ve315_0, rfl, ge315_0⟩ := hMe315
      have hv315_0 := hcc315 0 _ rfl
      rw [Nat.add_zero, show ((Kd.slice 3 (Kd.int .i64))).sz = 1 from rfl, Nat.mul_one] at hv315_0
      replace hv315_0 := qx (hv315_0.symm.trans hx315_0)
      rw [hv315_0] at ge315_0
      have HL315_0 := xA.mk (show Kd.R (Kd.int .i64) 3 _ _ _ _ (rd_L1 t312 x58_4) from ge315_0)
      clear hv315_0 ge315_0
      have HX315_0 := xA.mk hx315_0
      clear hcc315 hce315
      have HR315_0 := xA.mk hi315_0
      have HC315_0 := xA.mk hl315_0
      clear hi315_0 hl315_0
      replace p315 := eq_true p315
      replace q315 := eq_true q315
      have p316 : 0 ≤ (x58_4 : Int) := qq
      have q316 : x58_4 < ((rd_L1 t312 x58_4).length : Int) := qq
      obtain ⟨ad316, e316, hx316_0⟩ := Kd.xU (by repeat (first | (with_reducible exact HR315_0.out) | exact HR315_0.out)) x58_4 p316 q316
      cases e316
      replace p316 := eq_true p316
      replace q316 := eq_true q316
      obtain ⟨Ao54, co54, eo54⟩ := Kd.yD HO_7.out
      subst eo54
      have p317 : 0 ≤ (x43_2 : Int) := qq
      have q317 : x43_2 < (t305.length : Int) := qq
      obtain ⟨ad317, A317_0, c317_0, e317, hx317_0, hl317_0, hi317_0⟩ := at_L1 (Kd.xJ HO_7.out).2.2 x43_2 p317 q317
      cases e317
      obtain ⟨ce317, hce317, hMe317, hcc317⟩ := Kd.S_get HO_7.out [] x43_2 p317 (by first | exact q317 | exact qq | (have e_ := (Kd.xJ HO_7.out).1; omega))
      obtain ⟨ve317_0, rfl, ge317_0⟩ := hMe317
      have hv317_0 := hcc317 0 _ rfl
      rw [Nat.add_zero, show ((Kd.slice 3 (Kd.int .i64))).sz = 1 from rfl, Nat.mul_one] at hv317_0
      replace hv317_0 := qx (hv317_0.symm.trans hx317_0)
      rw [hv317_0] at ge317_0
      have HL317_0 := xA.mk (show Kd.R (Kd.int .i64) 3 _ _ _ _ (rd_L1 t305 x43_2) from ge317_0)
      clear hv317_0 ge317_0
      have HX317_0 := xA.mk hx317_0
      clear hcc317 hce317
      have HR317_0 := xA.mk hi317_0
      have HC317_0 := xA.mk hl317_0
      clear hi317_0 hl317_0
      replace p317 := eq_true p317
      replace q317 := eq_true q317
      have p318 : 0 ≤ (x58_4 : Int) := qq
      have q318 : x58_4 < ((rd_L1 t305 x43_2).length : Int) := qq
      obtain ⟨ad318, e318, hx318_0⟩ := Kd.xU (by repeat (first | (with_reducible exact HR317_0.out) | exact HR317_0.out)) x58_4 p318 q318
      cases e318
      replace p318 := eq_true p318
      replace q318 := eq_true q318
      go_wp2
      go_roundg k4
      case measure => have := HK1.out; have := HK2.out; have := HK3.out; have := HK4.out; omega
      case rel => exact ⟨(x10_4), (wrap64 (x58_4 + 1)), rfl, rfl, H', ⟨by have := HK1.out; have := HK2.out; have := HK3.out; have := HK4.out; omega⟩, ⟨by exact HO_4.out⟩, ⟨by exact HO_7.out⟩, ⟨by exact HO_11.out⟩, ⟨by exact BK293.out⟩, ⟨HB.out⟩⟩
     rw [if_pos c43] at H
     have c43b0 : ((rd (rd_L1 t305 x43_2) x58_4) == 0) = true := beq_iff_eq.mpr c43
     clear c43
     obtain ⟨c44b0, H⟩ := xL H
     obtain ⟨c45b0, H⟩ := xL H
     by_cases c46 : (rd (rd_L1 t305 x58_4) x43_2) = 0
     rotate_left
     ·
      rw [if_neg c46] at H
      have c46b0 : ((rd (rd_L1 t305 x58_4) x43_2) == 0) = false := jg c46
      have H' := xA.mk H
      clear H
      obtain ⟨Ao51, co51, eo51⟩ := Kd.yD HO_11.out
      subst eo51
      have p315 : 0 ≤ (x58_4 : Int) := qq
      have q315 : x58_4 < (t312.length : Int) := qq
      obtain ⟨ad315, A315_0, c315_0, e315, hx315_0, hl315_0, hi315_0⟩ := at_L1 (Kd.xJ HO_11.out).2.2 x58_4 p315 q315
      cases e315
      obtain ⟨ce315, hce315, hMe315, hcc315⟩ := Kd.S_get HO_11.out [] x58_4 p315 (by first | exact q315 | exact qq | (have e_ := (Kd.xJ HO_11.out).1; omega))
      obtain ⟨ve315_0, rfl, ge315_0⟩ := hMe315
      have hv315_0 := hcc315 0 _ rfl
      rw [Nat.add_zero, show ((Kd.slice 3 (Kd.int .i64))).sz = 1 from rfl, Nat.mul_one] at hv315_0
      replace hv315_0 := qx (hv315_0.symm.trans hx315_0)
      rw [hv315_0] at ge315_0
      have HL315_0 := xA.mk (show Kd.R (Kd.int .i64) 3 _ _ _ _ (rd_L1 t312 x58_4) from ge315_0)
      clear hv315_0 ge315_0
      have HX315_0 := xA.mk hx315_0
      clear hcc315 hce315
      have HR315_0 := xA.mk hi315_0
      have HC315_0 := xA.mk hl315_0
      clear hi315_0 hl315_0
      replace p315 := eq_true p315
      replace q315 := eq_true q315
      have p316 : 0 ≤ (x58_4 : Int) := qq
      have q316 : x58_4 < ((rd_L1 t312 x58_4).length : Int) := qq
      obtain ⟨ad316, e316, hx316_0⟩ := Kd.xU (by repeat (first | (with_reducible exact HR315_0.out) | exact HR315_0.out)) x58_4 p316 q316
      cases e316
      replace p316 := eq_true p316
      replace q316 := eq_true q316
      obtain ⟨Ao52, co52, eo52⟩ := Kd.yD HO_7.out
      subst eo52
      have p317 : 0 ≤ (x43_2 : Int) := qq
      have q317 : x43_2 < (t305.length : Int) := qq
      obtain ⟨ad317, A317_0, c317_0, e317, hx317_0, hl317_0, hi317_0⟩ := at_L1 (Kd.xJ HO_7.out).2.2 x43_2 p317 q317
      cases e317
      obtain ⟨ce317, hce317, hMe317, hcc317⟩ := Kd.S_get HO_7.out [] x43_2 p317 (by first | exact q317 | exact qq | (have e_ := (Kd.xJ HO_7.out).1; omega))
      obtain ⟨ve317_0, rfl, ge317_0⟩ := hMe317
      have hv317_0 := hcc317 0 _ rfl
      rw [Nat.add_zero, show ((Kd.slice 3 (Kd.int .i64))).sz = 1 from rfl, Nat.mul_one] at hv317_0
      replace hv317_0 := qx (hv317_0.symm.trans hx317_0)
      rw [hv317_0] at ge317_0
      have HL317_0 := xA.mk (show Kd.R (Kd.int .i64) 3 _ _ _ _ (rd_L1 t305 x43_2) from ge317_0)
      clear hv317_0 ge317_0
      have HX317_0 := xA.mk hx317_0
      clear hcc317 hce317
      have HR317_0 := xA.mk hi317_0
      have HC317_0 := xA.mk hl317_0
      clear hi317_0 hl317_0
      replace p317 := eq_true p317
      replace q317 := eq_true q317
      have p318 : 0 ≤ (x58_4 : Int) := qq
      have q318 : x58_4 < ((rd_L1 t305 x43_2).length : Int) := qq
      obtain ⟨ad318, e318, hx318_0⟩ := Kd.xU (by repeat (first | (with_reducible exact HR317_0.out) | exact HR317_0.out)) x58_4 p318 q318
      cases e318
      replace p318 := eq_true p318
      replace q318 := eq_true q318
      have p319 : 0 ≤ (x58_4 : Int) := qq
      have q319 : x58_4 < (t305.length : Int) := qq
      obtain ⟨ad319, A319_0, c319_0, e319, hx319_0, hl319_0, hi319_0⟩ := at_L1 (Kd.xJ HO_7.out).2.2 x58_4 p319 q319
      obtain rfl : ad317 = ad319 := (by injection e319)
      obtain ⟨ce319, hce319, hMe319, hcc319⟩ := Kd.S_get HO_7.out [] x58_4 p319 (by first | exact q319 | exact qq | (have e_ := (Kd.xJ HO_7.out).1; omega))
      obtain ⟨ve319_0, rfl, ge319_0⟩ := hMe319
      have hv319_0 := hcc319 0 _ rfl
      rw [Nat.add_zero, show ((Kd.slice 3 (Kd.int .i64))).sz = 1 from rfl, Nat.mul_one] at hv319_0
      replace hv319_0 := qx (hv319_0.symm.trans hx319_0)
      rw [hv319_0] at ge319_0
      have HL319_0 := xA.mk (show Kd.R (Kd.int .i64) 3 _ _ _ _ (rd_L1 t305 x58_4) from ge319_0)
      clear hv319_0 ge319_0
      have HX319_0 := xA.mk hx319_0
      clear hcc319 hce319
      have HR319_0 := xA.mk hi319_0
      have HC319_0 := xA.mk hl319_0
      clear hi319_0 hl319_0
      replace p319 := eq_true p319
      replace q319 := eq_true q319
      have p320 : 0 ≤ (x43_2 : Int) := qq
      have q320 : x43_2 < ((rd_L1 t305 x58_4).length : Int) := qq
      obtain ⟨ad320, e320, hx320_0⟩ := Kd.xU (by repeat (first | (with_reducible exact HR319_0.out) | exact HR319_0.out)) x43_2 p320 q320
      cases e320
      replace p320 := eq_true p320
      replace q320 := eq_true q320
      go_wp2
      go_roundg k4
      case measure => have := HK1.out; have := HK2.out; have := HK3.out; have := HK4.out; omega
      case rel => exact ⟨(x10_4), (wrap64 (x58_4 + 1)), rfl, rfl, H', ⟨by have := HK1.out; have := HK2.out; have := HK3.out; have := HK4.out; omega⟩, ⟨by exact HO_4.out⟩, ⟨by exact HO_7.out⟩, ⟨by exact HO_11.out⟩, ⟨by exact BK293.out⟩, ⟨HB.out⟩⟩
     rw [if_pos c46] at H
     have c46b0 : ((rd (rd_L1 t305 x58_4) x43_2) == 0) = true := beq_iff_eq.mpr c46
     clear c46
     replace H := qw H
     obtain ⟨t321, A470, H⟩ := H
     replace H : (llperiod.l4 k4 (l0_3.length : Int) x4_1 t305 x8_2 x43_2 t321 t312 x12_3 (l0_3.length : Int) x43_2 (l0_3.length : Int) (wrap64 (x58_4 + 1))) = some r := H
     have A47 := xA.mk A470
     clear A470
     have H' := xA.mk H
     clear H
     obtain ⟨Ao48, co48, eo48⟩ := Kd.yD HO_11.out
     subst eo48
     have p315 : 0 ≤ (x58_4 : Int) := qq
     have q315 : x58_4 < (t312.length : Int) := qq
     obtain ⟨ad315, A315_0, c315_0, e315, hx315_0, hl315_0, hi315_0⟩ := at_L1 (Kd.xJ HO_11.out).2.2 x58_4 p315 q315
     cases e315
     obtain ⟨ce315, hce315, hMe315, hcc315⟩ := Kd.S_get HO_11.out [] x58_4 p315 (by first | exact q315 | exact qq | (have e_ := (Kd.xJ HO_11.out).1; omega))
     obtain ⟨ve315_0, rfl, ge315_0⟩ := hMe315
     have hv315_0 := hcc315 0 _ rfl
     rw [Nat.add_zero, show ((Kd.slice 3 (Kd.int .i64))).sz = 1 from rfl, Nat.mul_one] at hv315_0
     replace hv315_0 := qx (hv315_0.symm.trans hx315_0)
     rw [hv315_0] at ge315_0
     have HL315_0 := xA.mk (show Kd.R (Kd.int .i64) 3 _ _ _ _ (rd_L1 t312 x58_4) from ge315_0)
     clear hv315_0 ge315_0
     have HX315_0 := xA.mk hx315_0
     clear hcc315 hce315
     have HR315_0 := xA.mk hi315_0
     have HC315_0 := xA.mk hl315_0
     clear hi315_0 hl315_0
     replace p315 := eq_true p315
     replace q315 := eq_true q315
     have p316 : 0 ≤ (x58_4 : Int) := qq
     have q316 : x58_4 < ((rd_L1 t312 x58_4).length : Int) := qq
     obtain ⟨ad316, e316, hx316_0⟩ := Kd.xU (by repeat (first | (with_reducible exact HR315_0.out) | exact HR315_0.out)) x58_4 p316 q316
     cases e316
     replace p316 := eq_true p316
     replace q316 := eq_true q316
     obtain ⟨Ao49, co49, eo49⟩ := Kd.yD HO_7.out
     subst eo49
     have p317 : 0 ≤ (x43_2 : Int) := qq
     have q317 : x43_2 < (t305.length : Int) := qq
     obtain ⟨ad317, A317_0, c317_0, e317, hx317_0, hl317_0, hi317_0⟩ := at_L1 (Kd.xJ HO_7.out).2.2 x43_2 p317 q317
     cases e317
     obtain ⟨ce317, hce317, hMe317, hcc317⟩ := Kd.S_get HO_7.out [] x43_2 p317 (by first | exact q317 | exact qq | (have e_ := (Kd.xJ HO_7.out).1; omega))
     obtain ⟨ve317_0, rfl, ge317_0⟩ := hMe317
     have hv317_0 := hcc317 0 _ rfl
     rw [Nat.add_zero, show ((Kd.slice 3 (Kd.int .i64))).sz = 1 from rfl, Nat.mul_one] at hv317_0
     replace hv317_0 := qx (hv317_0.symm.trans hx317_0)
     rw [hv317_0] at ge317_0
     have HL317_0 := xA.mk (show Kd.R (Kd.int .i64) 3 _ _ _ _ (rd_L1 t305 x43_2) from ge317_0)
     clear hv317_0 ge317_0
     have HX317_0 := xA.mk hx317_0
     clear hcc317 hce317
     have HR317_0 := xA.mk hi317_0
     have HC317_0 := xA.mk hl317_0
     clear hi317_0 hl317_0
     replace p317 := eq_true p317
     replace q317 := eq_true q317
     have p318 : 0 ≤ (x58_4 : Int) := qq
     have q318 : x58_4 < ((rd_L1 t305 x43_2).length : Int) := qq
     obtain ⟨ad318, e318, hx318_0⟩ := Kd.xU (by repeat (first | (with_reducible exact HR317_0.out) | exact HR317_0.out)) x58_4 p318 q318
     cases e318
     replace p318 := eq_true p318
     replace q318 := eq_true q318
     have p319 : 0 ≤ (x58_4 : Int) := qq
     have q319 : x58_4 < (t305.length : Int) := qq
     obtain ⟨ad319, A319_0, c319_0, e319, hx319_0, hl319_0, hi319_0⟩ := at_L1 (Kd.xJ HO_7.out).2.2 x58_4 p319 q319
     obtain rfl : ad317 = ad319 := (by injection e319)
     obtain ⟨ce319, hce319, hMe319, hcc319⟩ := Kd.S_get HO_7.out [] x58_4 p319 (by first | exact q319 | exact qq | (have e_ := (Kd.xJ HO_7.out).1; omega))
     obtain ⟨ve319_0, rfl, ge319_0⟩ := hMe319
     have hv319_0 := hcc319 0 _ rfl
     rw [Nat.add_zero, show ((Kd.slice 3 (Kd.int .i64))).sz = 1 from rfl, Nat.mul_one] at hv319_0
     replace hv319_0 := qx (hv319_0.symm.trans hx319_0)
     rw [hv319_0] at ge319_0
     have HL319_0 := xA.mk (show Kd.R (Kd.int .i64) 3 _ _ _ _ (rd_L1 t305 x58_4) from ge319_0)
     clear hv319_0 ge319_0
     have HX319_0 := xA.mk hx319_0
     clear hcc319 hce319
     have HR319_0 := xA.mk hi319_0
     have HC319_0 := xA.mk hl319_0
     clear hi319_0 hl319_0
     replace p319 := eq_true p319
     replace q319 := eq_true q319
     have p320 : 0 ≤ (x43_2 : Int) := qq
     have q320 : x43_2 < ((rd_L1 t305 x58_4).length : Int) := qq
     obtain ⟨ad320, e320, hx320_0⟩ := Kd.xU (by repeat (first | (with_reducible exact HR319_0.out) | exact HR319_0.out)) x43_2 p320 q320
     cases e320
     replace p320 := eq_true p320
     replace q320 := eq_true q320
     go_wp2_with (first | ((with_reducible refine xK (f := 89) rfl ?_); refine xS (some 91) rfl rfl Try.func89 jk rfl #[.int .i64 x10_4, .int .i64 x12_3] rfl qd ?_; (with_reducible refine (line_gcd.calls k4 x10_4 x12_3 t321 _ A47.out).mono ?_); rintro e w50 ⟨rfl, hb⟩; refine ⟨_, rfl, ?_⟩; replace HO_4 := xA.mk (Kd.xX (by exact HO_4.out) hb); replace HO_7 := xA.mk (Kd.xX (by exact HO_7.out) hb); replace HO_11 := xA.mk (Kd.xX (by exact HO_11.out) hb); replace HL315_0 := xA.mk (Kd.R_below (by exact HL315_0.out) hb); replace HL317_0 := xA.mk (Kd.R_below (by exact HL317_0.out) hb); replace HL319_0 := xA.mk (Kd.R_below (by exact HL319_0.out) hb); replace BK293 := xA.mk (xO (g := gb293) (o := .cells #[.slice A0_0 l0_0.length c0_0, .int .i64 a0_1, .int .i64 a0_2, .slice A0_3 l0_3.length c0_3, .slice A0_4 l0_4.length c0_4] 58 (0, 0)) (by exact BK293.out) hb); replace HR315_0 := xA.mk (Kd.yC (by repeat (first | (with_reducible exact HR315_0.out) | exact HR315_0.out)) hb); replace HX315_0 := xA.mk (pw_cell_below hb HX315_0.out); replace HR317_0 := xA.mk (Kd.yC (by repeat (first | (with_reducible exact HR317_0.out) | exact HR317_0.out)) hb); replace HX317_0 := xA.mk (pw_cell_below hb HX317_0.out); replace HR319_0 := xA.mk (Kd.yC (by repeat (first | (with_reducible exact HR319_0.out) | exact HR319_0.out)) hb); replace HX319_0 := xA.mk (pw_cell_below hb HX319_0.out); replace HB := xA.mk (xF (HB.out) hb)))
     go_roundg k4
     case measure => have := HK1.out; have := HK2.out; have := HK3.out; have := HK4.out; omega
     case rel => exact ⟨(t321), (wrap64 (x58_4 + 1)), rfl, rfl, H', ⟨by have := HK1.out; have := HK2.out; have := HK3.out; have := HK4.out; omega⟩, ⟨by exact HO_4.out⟩, ⟨by exact HO_7.out⟩, ⟨by exact HO_11.out⟩, ⟨by exact BK293.out⟩, ⟨HB.out⟩⟩
def lgpower.l0 : Nat → List (List Int) → Int → List (List Int) → Option ((List (List Int)))
 | 0, _, _, _ => none
 | k + 1, x0, x1, x5 => if x1 > 0 then (if (Int.tmod x1 2) = 1 then ((lgtimes.f k x5 x0).bind fun t326 => ((lgtimes.f k x0 x0).bind fun t329 => (lgpower.l0 k t329 (wrap64 (Int.tdiv x1 2)) t326))) else ((lgtimes.f k x0 x0).bind fun t332 => (lgpower.l0 k t332 (wrap64 (Int.tdiv x1 2)) x5))) else (some x5)
def lgpower.f (k : Nat) (l0 : List (List Int)) (a1 : Int) : Option ((List (List Int))) := (line_one_int.f k (l0.length : Int)).bind fun t323 => (lgpower.l0 k l0 a1 t323)
theorem lgpower.mono_l : ∀ k, (∀ y0 y1 y2, LeO (lgpower.l0 k y0 y1 y2) (lgpower.l0 (k + 1) y0 y1 y2))
 | 0 => fun _ _ _ r h => by simp [lgpower.l0] at h
 | k + 1 => by
  have ih0 := lgpower.mono_l k
  ·
   intro y0 y1 y2
   unfold lgpower.l0
   repeat' first
   | (with_reducible exact LeO.refl _)
   | (with_reducible exact LeO.none _)
   | (with_reducible refine LeO.ite ?_ ?_)
   | (with_reducible refine LeO.bind ?_ (fun _ => ?_))
   | exact ih0 _ _ _
   | exact lgtimes.mono _ _ _
   | exact line_one_int.mono _ _
theorem lgpower.mono : ∀ a0 a1 k, LeO (lgpower.f k a0 a1) (lgpower.f (k + 1) a0 a1) := by
 intro a0 a1 k
 have ih0 := lgpower.mono_l k
 unfold lgpower.f
 repeat' first
   | (with_reducible exact LeO.refl _)
   | (with_reducible exact LeO.none _)
   | (with_reducible refine LeO.ite ?_ ?_)
   | (with_reducible refine LeO.bind ?_ (fun _ => ?_))
   | exact ih0 _ _ _
   | exact lgtimes.mono _ _ _
   | exact line_one_int.mono _ _
theorem lgpower.calls (k : Nat) (P0_ : Nat → Prop) (A0 : Option Addr) (c0 : Nat) (l0 : List (List Int)) (a1 : Int) (r : List (List Int)) (w : World) (hs0 : Kd.V (Kd.slice 3 (Kd.int .i64)) 26 w w.heap.size (fun k_ => P0_ k_) (.slice A0 l0.length c0) l0) (h : lgpower.f k l0 a1 = some r) :
  Calls Try.prog 56 #[.slice A0 l0.length c0, .int .i64 a1] w fun e w' => ∃ v0_ : Value, e = .returned (v0_) ∧ Kd.S (Kd.slice 3 (Kd.int .i64)) 26 w' w.heap.size (fun k_ => (w.heap.size ≤ k_)) v0_ r ∧ Below w.heap.size w w' := by
 have HO0 := xA.mk (show Kd.V (Kd.slice 3 (Kd.int .i64)) 26 w w.heap.size (fun k_ => (P0_ k_ ∨ w.heap.size ≤ k_)) (.slice A0 l0.length c0) l0 from Kd.V_mono hs0 (fun k_ hk => .inl hk))
 have HB := xA.mk (Below.refl w.heap.size w)
 have H : ((line_one_int.f k (l0.length : Int)).bind fun t323 => (lgpower.l0 k l0 a1 t323)) = some r := h
 clear h
 replace H := qw H
 obtain ⟨t323, A30, H⟩ := H
 replace H : (lgpower.l0 k l0 a1 t323) = some r := H
 have A3 := xA.mk A30
 clear A30
 have H' := xA.mk H
 clear H
 go_enter Try.func56, Try.ntmps56
 go_wp2_with (first | ((with_reducible refine xK (f := 87) rfl ?_); refine xS (some 8) rfl rfl Try.func87 jk rfl #[.int .i64 (l0.length : Int)] rfl qd ?_; (with_reducible refine (line_one_int.calls k (l0.length : Int) t323 _ A3.out).mono ?_); rintro e w4 ⟨v324, rfl, ho0, hb⟩; refine ⟨_, rfl, ?_⟩; replace HO0 := xA.mk (Kd.V_elder' (by exact HO0.out) (Kd.S_base ho0) hb); have HO325 := xA.mk (Kd.S_lower (Kd.S_newM (M := fun k_ => (w.heap.size ≤ k_)) ho0 (xD (HB.out)) (fun k_ h_ => h_)) (xD (HB.out))); replace HB := xA.mk (xF (HB.out) hb)))
 go_loopg [0, 1, 5] k (fun kq v0 v1 v5 w' => ∃ (x0_1 : List (List Int)) (x1_1 : Int) (x5_1 : List (List Int)), v1 = .int .i64 x1_1 ∧ xA (lgpower.l0 kq x0_1 x1_1 x5_1 = some r) ∧ xA (kq ≤ k) ∧ xA (Kd.V (Kd.slice 3 (Kd.int .i64)) 26 w' w.heap.size (fun k_ => (P0_ k_ ∨ w.heap.size ≤ k_) ∧ some k_ ≠ (v5 : Value).ownBlock) v0 x0_1) ∧ xA (Kd.S (Kd.slice 3 (Kd.int .i64)) 26 w' w.heap.size (fun k_ => (w.heap.size ≤ k_)) v5 x5_1) ∧ xA (Below w.heap.size w w'))
 case atStart => exact ⟨(l0), (a1), (t323), rfl, H', ⟨Nat.le_refl _⟩, ⟨by exact HO0.out⟩, ⟨by exact Kd.xQ HO325.out (fun _ hk => hk.1)⟩, ⟨HB.out⟩⟩
 case round =>
  clear H'
  obtain ⟨x0_1, x1_1, x5_1, rfl, HA, HK1, HO_0, HO_5, HB⟩ := hrel
  obtain _ | k1 := gk
  · exact absurd HA.out (by simp [lgpower.l0])
  have H := HA.out
  clear HA
  simp only [lgpower.l0] at H
  by_cases c5 : x1_1 > 0
  rotate_left
  ·
   rw [if_neg c5] at H
   have c5b0 : decide (0 < x1_1) = false := qv c5
   clear c5
   obtain rfl := qx H
   go_wp2
   go_ret
   exact ⟨_, rfl, by exact HO_5.out, HB.out⟩
  rw [if_pos c5] at H
  have c5b0 : decide (0 < x1_1) = true := qu c5
  clear c5
  by_cases c6 : (Int.tmod x1_1 2) = 1
  rotate_left
  ·
   rw [if_neg c6] at H
   have c6b0 : ((Int.tmod x1_1 2) == 1) = false := jg c6
   replace H := qw H
   obtain ⟨t332, A130, H⟩ := H
   replace H : (lgpower.l0 k1 t332 (wrap64 (Int.tdiv x1_1 2)) x5_1) = some r := H
   have A13 := xA.mk A130
   clear A130
   have H' := xA.mk H
   clear H
   obtain ⟨Ao14, co14, eo14⟩ := Kd.V_slice HO_0.out
   subst eo14
   go_wp2_with (first | ((with_reducible refine xK (f := 59) rfl ?_); refine xS (some 21) rfl rfl Try.func59 jk rfl #[.slice Ao14 x0_1.length co14, .slice Ao14 x0_1.length co14] rfl qd ?_; (with_reducible refine (lgtimes.calls k1 _ _ x0_1 _ _ x0_1 t332 _ ?side1 ?side2 ?side3 ?side4 A13.out).mono ?_); (case side1 => repeat (first | exact (Kd.yB HO_0.out).2.2)); (case side2 => exact (Kd.yB HO_0.out).2.1); (case side3 => repeat (first | exact (Kd.yB HO_0.out).2.2)); (case side4 => exact (Kd.yB HO_0.out).2.1); rintro e w15 ⟨v333, rfl, ho0, hb⟩; refine ⟨_, rfl, ?_⟩; replace HO_0 := xA.mk (Kd.V_elder' (by exact HO_0.out) (Kd.S_base ho0) hb); have HO334 := xA.mk (Kd.S_lower (Kd.S_new' (Kd.S_newM (M := fun k_ => (w.heap.size ≤ k_)) ho0 (xD (HB.out)) (fun k_ h_ => h_)) (Kd.S_lt (by exact HO_5.out))) (xD (HB.out))); replace HO_5 := xA.mk (Kd.S_elder' (by exact HO_5.out) (Kd.S_base ho0) hb); replace HB := xA.mk (xF (HB.out) hb)))
   go_roundg k1
   case measure => have := HK1.out; omega
   case rel => exact ⟨(t332), (wrap64 (Int.tdiv x1_1 2)), (x5_1), rfl, H', ⟨by have := HK1.out; omega⟩, ⟨Kd.V_mono (Kd.S_V (by exact HO334.out)) (fun k_ hk => by exact ⟨.inr (hk.1.1), hk.2⟩)⟩, ⟨by exact Kd.xQ HO_5.out (fun _ hk => hk.1)⟩, ⟨HB.out⟩⟩
  rw [if_pos c6] at H
  have c6b0 : ((Int.tmod x1_1 2) == 1) = true := beq_iff_eq.mpr c6
  clear c6
  replace H := qw H
  obtain ⟨t326, A70, H⟩ := H
  replace H : ((lgtimes.f k1 x0_1 x0_1).bind fun t329 => (lgpower.l0 k1 t329 (wrap64 (Int.tdiv x1_1 2)) t326)) = some r := H
  have A7 := xA.mk A70
  clear A70
  replace H := qw H
  obtain ⟨t329, A80, H⟩ := H
  replace H : (lgpower.l0 k1 t329 (wrap64 (Int.tdiv x1_1 2)) t326) = some r := H
  have A8 := xA.mk A80
  clear A80
  have H' := xA.mk H
  clear H
  obtain ⟨Ao9, co9, eo9⟩ := Kd.yD HO_5.out
  subst eo9
  obtain ⟨Ao10, co10, eo10⟩ := Kd.V_slice HO_0.out
  subst eo10
  go_wp2_with (first | ((with_reducible refine xK (f := 59) rfl ?_); refine xS (some 18) rfl rfl Try.func59 jk rfl #[.slice Ao9 x5_1.length co9, .slice Ao10 x0_1.length co10] rfl qd ?_; (with_reducible refine (lgtimes.calls k1 _ _ x5_1 _ _ x0_1 t326 _ ?side1 ?side2 ?side3 ?side4 A7.out).mono ?_); (case side1 => repeat (first | exact (Kd.xJ HO_5.out).2.2)); (case side2 => exact (Kd.xJ HO_5.out).2.1); (case side3 => repeat (first | exact (Kd.yB HO_0.out).2.2)); (case side4 => exact (Kd.yB HO_0.out).2.1); rintro e w11 ⟨v327, rfl, ho0, hb⟩; refine ⟨_, rfl, ?_⟩; have n0_ := xA.mk (Kd.V_elder' (by exact HO_0.out) (Kd.S_base ho0) hb); have n1_ := xA.mk (Kd.S_elder' (by exact HO_5.out) (Kd.S_base ho0) hb); have n2_ := xA.mk (Kd.S_lower (Kd.S_new' (Kd.S_newM (M := fun k_ => (w.heap.size ≤ k_)) ho0 (xD (HB.out)) (fun k_ h_ => h_)) (Kd.S_lt (by exact HO_5.out))) (xD (HB.out))); have n3_ := xA.mk (xF (HB.out) hb); clear HO_0; clear HO_5; clear HB; have HO_0 := n0_; have HO_5 := n1_; have HO328 := n2_; have HB := n3_; clear n0_ n1_ n2_ n3_) | ((with_reducible refine xK (f := 59) rfl ?_); refine xS (some 21) rfl rfl Try.func59 jk rfl #[.slice Ao10 x0_1.length co10, .slice Ao10 x0_1.length co10] rfl qd ?_; (with_reducible refine (lgtimes.calls k1 _ _ x0_1 _ _ x0_1 t329 _ ?side1 ?side2 ?side3 ?side4 A8.out).mono ?_); (case side1 => repeat (first | exact (Kd.yB HO_0.out).2.2)); (case side2 => exact (Kd.yB HO_0.out).2.1); (case side3 => repeat (first | exact (Kd.yB HO_0.out).2.2)); (case side4 => exact (Kd.yB HO_0.out).2.1); rintro e w12 ⟨v330, rfl, ho0, hb⟩; refine ⟨_, rfl, ?_⟩; replace HO_0 := xA.mk (Kd.V_elder' (by exact HO_0.out) (Kd.S_base ho0) hb); have HO331 := xA.mk (Kd.S_lower (Kd.S_new' (Kd.S_new' (Kd.S_newM (M := fun k_ => (w.heap.size ≤ k_)) ho0 (xD (HB.out)) (fun k_ h_ => h_)) (Kd.S_lt (by exact HO_5.out))) (Kd.S_lt (by exact HO328.out))) (xD (HB.out))); replace HO_5 := xA.mk (Kd.S_elder' (by exact HO_5.out) (Kd.S_base ho0) hb); replace HO328 := xA.mk (Kd.S_elder' (by exact HO328.out) (Kd.S_base ho0) hb); replace HB := xA.mk (xF (HB.out) hb)))
  go_roundg k1
  case measure => have := HK1.out; omega
  case rel => exact ⟨(t329), (wrap64 (Int.tdiv x1_1 2)), (t326), rfl, H', ⟨by have := HK1.out; omega⟩, ⟨Kd.V_mono (Kd.S_V (by exact HO331.out)) (fun k_ hk => by exact ⟨.inr (hk.1.1.1), hk.2⟩)⟩, ⟨by exact Kd.xQ HO328.out (fun _ hk => hk.1.1.1)⟩, ⟨HB.out⟩⟩
def slices_Equal_int_int.l0 : Nat → List Int → List Int → Int → Int → Option (Bool)
 | 0, _, _, _, _ => none
 | k + 1, x0, x1, x12, x13 => if x13 < x12 then (if 0 ≤ x13 then (if x13 < (x0.length : Int) then (if x13 < (x1.length : Int) then (if (rd x0 x13) = (rd x1 x13) then (slices_Equal_int_int.l0 k x0 x1 x12 (wrap64 (x13 + 1))) else (some false)) else (none)) else (none)) else (none)) else (some true)
def slices_Equal_int_int.f (k : Nat) (l0 : List Int) (l1 : List Int) : Option (Bool) := if (l0.length : Int) = (l1.length : Int) then (slices_Equal_int_int.l0 k l0 l1 (l0.length : Int) 0) else (some false)
theorem slices_Equal_int_int.mono_l : ∀ k, (∀ y0 y1 y2 y3, LeO (slices_Equal_int_int.l0 k y0 y1 y2 y3) (slices_Equal_int_int.l0 (k + 1) y0 y1 y2 y3))
 | 0 => fun _ _ _ _ r h => by simp [slices_Equal_int_int.l0] at h
 | k + 1 => by
  have ih0 := slices_Equal_int_int.mono_l k
  ·
   intro y0 y1 y2 y3
   unfold slices_Equal_int_int.l0
   repeat' first
   | (with_reducible exact LeO.refl _)
   | (with_reducible exact LeO.none _)
   | (with_reducible refine LeO.ite ?_ ?_)
   | (with_reducible refine LeO.bind ?_ (fun _ => ?_))
   | exact ih0 _ _ _ _
theorem slices_Equal_int_int.mono : ∀ a0 a1 k, LeO (slices_Equal_int_int.f k a0 a1) (slices_Equal_int_int.f (k + 1) a0 a1) := by
 intro a0 a1 k
 have ih0 := slices_Equal_int_int.mono_l k
 unfold slices_Equal_int_int.f
 repeat' first
   | (with_reducible exact LeO.refl _)
   | (with_reducible exact LeO.none _)
   | (with_reducible refine LeO.ite ?_ ?_)
   | (with_reducible refine LeO.bind ?_ (fun _ => ?_))
   | exact ih0 _ _ _ _
theorem slices_Equal_int_int.calls (k : Nat) (A0 : Option Addr) (c0 : Nat) (l0 : List Int) (A1 : Option Addr) (c1 : Nat) (l1 : List Int) (r : Bool) (w : World) (hr0 : Kd.C (Kd.int .i64) w A0 l0.length l0) (hc0 : l0.length ≤ c0) (hr1 : Kd.C (Kd.int .i64) w A1 l1.length l1) (hc1 : l1.length ≤ c1) (h : slices_Equal_int_int.f k l0 l1 = some r) :
  Calls Try.prog 60 #[.slice A0 l0.length c0, .slice A1 l1.length c1] w fun e w' => e = .returned (.bool r) ∧ Drawn0 w w' := by
 have HR0 := xA.mk hr0
 have HC0 := xA.mk hc0
 clear hr0 hc0
 have HR1 := xA.mk hr1
 have HC1 := xA.mk hc1
 clear hr1 hc1
 have H : (if (l0.length : Int) = (l1.length : Int) then (slices_Equal_int_int.l0 k l0 l1 (l0.length : Int) 0) else (some false)) = some r := h
 clear h
 by_cases c3 : (l0.length : Int) = (l1.length : Int)
 rotate_left
 ·
  rw [if_neg c3] at H
  have c3b0 : ((l0.length : Int) == (l1.length : Int)) = false := jg c3
  have c3b2 : (l0.length == l1.length) = false := by first | simpa using c3 | (simp at c3 ⊢; omega)
  obtain rfl := qx H
  go_enter Try.func60, Try.ntmps60
  go_wp2
  go_ret
  exact ⟨qf, qe⟩
 rw [if_pos c3] at H
 have c3b0 : ((l0.length : Int) == (l1.length : Int)) = true := beq_iff_eq.mpr c3
 have c3b2 : (l0.length == l1.length) = true := by first | simpa using c3 | (simp at c3 ⊢; omega)
 clear c3
 have H' := xA.mk H
 clear H
 go_enter Try.func60, Try.ntmps60
 go_wp2
 go_loopg [13] k (fun kq v13 w' => ∃ (x13_1 : Int), v13 = .int .i64 x13_1 ∧ xA (slices_Equal_int_int.l0 kq l0 l1 (l0.length : Int) x13_1 = some r) ∧ xA (kq ≤ k) ∧ Drawn0 w w')
 case atStart => exact ⟨(0), rfl, H', ⟨Nat.le_refl _⟩, qe⟩
 case round =>
  clear H'
  obtain ⟨x13_1, rfl, HA, HK1, ⟨m1, rfl⟩⟩ := hrel
  obtain _ | k1 := gk
  · exact absurd HA.out (by simp [slices_Equal_int_int.l0])
  have H := HA.out
  clear HA
  simp only [slices_Equal_int_int.l0] at H
  obtain ⟨c4b0, H⟩ | ⟨c4b0, H⟩ := itd_or H
  rotate_left
  ·
   obtain rfl := qx H
   go_wp2
   go_ret
   exact ⟨qf, qe⟩
  obtain ⟨c5b0, H⟩ := xL H
  obtain ⟨c6b0, H⟩ := xL H
  obtain ⟨c7b0, H⟩ := xL H
  by_cases c8 : (rd l0 x13_1) = (rd l1 x13_1)
  rotate_left
  ·
   rw [if_neg c8] at H
   have c8b0 : ((rd l0 x13_1) == (rd l1 x13_1)) = false := jg c8
   obtain rfl := qx H
   have p335 : 0 ≤ (x13_1 : Int) := qq
   have q335 : x13_1 < (l0.length : Int) := qq
   obtain ⟨ad335, e335, hx335_0⟩ := Kd.xU HR0.out x13_1 p335 q335
   cases e335
   replace p335 := eq_true p335
   replace q335 := eq_true q335
   have p336 : 0 ≤ (x13_1 : Int) := qq
   have q336 : x13_1 < (l1.length : Int) := qq
   obtain ⟨ad336, e336, hx336_0⟩ := Kd.xU HR1.out x13_1 p336 q336
   cases e336
   replace p336 := eq_true p336
   replace q336 := eq_true q336
   go_wp2
   repeat (go_quiet (fail); try go_wp2)
   go_ret
   exact ⟨qf, qe⟩
  rw [if_pos c8] at H
  have c8b0 : ((rd l0 x13_1) == (rd l1 x13_1)) = true := beq_iff_eq.mpr c8
  clear c8
  have H' := xA.mk H
  clear H
  have p335 : 0 ≤ (x13_1 : Int) := qq
  have q335 : x13_1 < (l0.length : Int) := qq
  obtain ⟨ad335, e335, hx335_0⟩ := Kd.xU HR0.out x13_1 p335 q335
  cases e335
  replace p335 := eq_true p335
  replace q335 := eq_true q335
  have p336 : 0 ≤ (x13_1 : Int) := qq
  have q336 : x13_1 < (l1.length : Int) := qq
  obtain ⟨ad336, e336, hx336_0⟩ := Kd.xU HR1.out x13_1 p336 q336
  cases e336
  replace p336 := eq_true p336
  replace q336 := eq_true q336
  go_wp2
  repeat (go_quiet (fail); try go_wp2)
  go_roundg k1
  case measure => have := HK1.out; omega
  case rel => exact ⟨(wrap64 (x13_1 + 1)), rfl, H', ⟨by have := HK1.out; omega⟩, qe⟩
def lgmapped_add.f (k : Nat) (l0 : List (List Int)) (a1 : Int) : Option ((List (List Int))) := lgmapped.f (fun e => some (wrap64 (e + a1))) k l0 0
theorem lgmapped_add.mono : ∀ a0 a1 k, LeO (lgmapped_add.f k a0 a1) (lgmapped_add.f (k + 1) a0 a1) := fun a0 _ k => lgmapped.mono _ a0 0 k
theorem line_Regime_1_1.calls (add x : Int) (b : Nat) (r : Int) (w : World) (h0 : w.cell? ⟨b, 0, none⟩ = some (.int .i64 add)) (h : some (wrap64 (x + add)) = some r) :
  Calls Try.prog 58 #[.int .i64 x, .pointer (some ⟨b, 0, none⟩)] w fun e w' => e = .returned (.int .i64 r) ∧ Drawn0 w w' := by
 obtain rfl := qx h
 clear h
 go_enter Try.func58, Try.ntmps58
 go_wp2
 go_ret
 exact ⟨by rfl, Drawn0.refl _⟩
theorem lgmapped_add.calls (k : Nat) (A0 : Option Addr) (c0 : Nat) (l0 : List (List Int)) (a1 : Int) (r : List (List Int)) (w : World) (hr0 : Kd.C (Kd.slice 3 (Kd.int .i64)) w A0 l0.length l0) (hc0 : l0.length ≤ c0) (h : lgmapped_add.f k l0 a1 = some r) (b : Nat) (hb : b < w.heap.size) (hba : w.cell? ⟨b, 0, none⟩ = some (.int .i64 a1)) :
  Calls Try.prog 57 #[.slice A0 l0.length c0, .func (.func 58) #[] #[.pointer (some ⟨b, 0, none⟩)]] w fun e w' => ∃ v0_ : Value, e = .returned (v0_) ∧ Kd.S (Kd.slice 3 (Kd.int .i64)) 26 w' w.heap.size (fun _ => True) v0_ r ∧ Below w.heap.size w w' :=
 lgmapped.calls _ 58 _ #[.pointer (some ⟨b, 0, none⟩)] Try.func58 jk rfl k A0 c0 l0 0 r w hr0 hc0 (fun w' hw x r hx => line_Regime_1_1.calls a1 x b r w' ((hw.cell (p := ⟨b, 0, none⟩) hb).trans hba) hx) h
end Go.Proofs.Ythjmfbmffchicaa.V
