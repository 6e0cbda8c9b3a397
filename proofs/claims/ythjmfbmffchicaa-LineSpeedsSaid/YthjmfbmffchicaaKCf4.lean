/- Walks of functions that the law LineSpeeds reaches: each theorem '.calls' says that the call comes to what its printed plain function says, under the conditions that stand in it. -/
import Derived.Test.YthjmfbmffchicaaKCHub
import Derived.Test.YthjmfbmffchicaaKCf0
import Derived.Test.YthjmfbmffchicaaKCf1
import Derived.Test.YthjmfbmffchicaaKCf2
import Derived.Test.YthjmfbmffchicaaKCf3
namespace Go.Proofs.Ythjmfbmffchicaa.V
open Go.RowKit Go.Proofs.YthjmfbmffchicaaW.PrintWords Go.Proofs.YthjmfbmffchicaaW.PrintLast Go.Proofs.YthjmfbmffchicaaW.PrintMore
attribute [local go_sem] max2_int min2_int max_two min_two max_three min_three max_four min_four
set_option maxHeartbeats 8000000
set_option maxRecDepth 100000
set_option linter.unusedVariables false
set_option linter.unusedSimpArgs false
mutual
def line_Regime.l0 : Nat → Int → Int → Int → List (List Int) → Int → Int → List (List Int) → List (List Int) → Option (Int × Int × Int)
 | 0, _, _, _, _, _, _, _, _ => none
 | k + 1, x7, x8, x10, x380000, x380001, x380002, x380003, x380004 => (line_Regime_1.f k x10 x380000 x8 x7).bind fun t382 => (if t382 = true then (line_Regime.l1 k x7 x8 x10 0 x380000 x380001 x380002 x380003 x380004) else (line_Regime.l0 k x7 x8 (wrap64 (x10 * 2)) x380000 x380001 x380002 x380003 x380004))
def line_Regime.l1 : Nat → Int → Int → Int → Int → List (List Int) → Int → Int → List (List Int) → List (List Int) → Option (Int × Int × Int)
 | 0, _, _, _, _, _, _, _, _, _ => none
 | k + 1, x7, x8, x10, x11, x380000, x380001, x380002, x380003, x380004 => if x11 < x10 then ((line_Regime_1.f k (wrap64 (Int.tdiv (wrap64 (x11 + x10)) 2)) x380000 x8 x7).bind fun t383 => (if t383 = true then (line_Regime.l1 k x7 x8 (wrap64 (Int.tdiv (wrap64 (x11 + x10)) 2)) x11 x380000 x380001 x380002 x380003 x380004) else (line_Regime.l1 k x7 x8 x10 (wrap64 ((wrap64 (Int.tdiv (wrap64 (x11 + x10)) 2)) + 1)) x380000 x380001 x380002 x380003 x380004))) else (some (x7, x11, 0))
end
def line_Regime.f (k : Nat) (l0 : List (List Int)) : Option (Int × Int × Int) := (line_looked.f k l0).bind fun bt367 => (if bt367.2.2.2.2.2 = 0 then ((lgconnected.f k bt367.1).bind fun t380 => (if t380 = true then ((llperiod.f k bt367.1 bt367.2.1 bt367.2.2.1 bt367.2.2.2.1 bt367.2.2.2.2.1).bind fun t381 => (if bt367.2.2.1 = 0 then (none) else (line_Regime.l0 k t381 (wrap64 (Int.tdiv (wrap64 (t381 * bt367.2.1)) bt367.2.2.1)) 1 bt367.1 bt367.2.1 bt367.2.2.1 bt367.2.2.2.1 bt367.2.2.2.2.1))) else (some (0, 0, 10)))) else (some (0, 0, bt367.2.2.2.2.2)))
theorem line_Regime.mono_l : ∀ k, (∀ y0 y1 y2 y3 y4 y5 y6 y7, LeO (line_Regime.l0 k y0 y1 y2 y3 y4 y5 y6 y7) (line_Regime.l0 (k + 1) y0 y1 y2 y3 y4 y5 y6 y7)) ∧ (∀ y0 y1 y2 y3 y4 y5 y6 y7 y8, LeO (line_Regime.l1 k y0 y1 y2 y3 y4 y5 y6 y7 y8) (line_Regime.l1 (k + 1) y0 y1 y2 y3 y4 y5 y6 y7 y8))
 | 0 => ⟨fun _ _ _ _ _ _ _ _ r h => by simp [line_Regime.l0] at h, fun _ _ _ _ _ _ _ _ _ r h => by simp [line_Regime.l1] at h⟩
 | k + 1 => by
  obtain ⟨ih0, ih1⟩ := line_Regime.mono_l k
  refine ⟨?_, ?_⟩
  ·
   intro y0 y1 y2 y3 y4 y5 y6 y7
   unfold line_Regime.l0
   repeat' first
   | (with_reducible exact LeO.refl _)
   | (with_reducible exact LeO.none _)
   | (with_reducible refine LeO.ite ?_ ?_)
   | (with_reducible refine LeO.bind ?_ (fun _ => ?_))
   | exact ih0 _ _ _ _ _ _ _ _
   | exact ih1 _ _ _ _ _ _ _ _ _
   | exact line_Regime_1.mono _ _ _ _ _
   | exact lgconnected.mono _ _
   | exact llperiod.mono _ _ _ _ _ _
   | exact line_looked.mono _ _
  ·
   intro y0 y1 y2 y3 y4 y5 y6 y7 y8
   unfold line_Regime.l1
   repeat' first
   | (with_reducible exact LeO.refl _)
   | (with_reducible exact LeO.none _)
   | (with_reducible refine LeO.ite ?_ ?_)
   | (with_reducible refine LeO.bind ?_ (fun _ => ?_))
   | exact ih0 _ _ _ _ _ _ _ _
   | exact ih1 _ _ _ _ _ _ _ _ _
   | exact line_Regime_1.mono _ _ _ _ _
   | exact lgconnected.mono _ _
   | exact llperiod.mono _ _ _ _ _ _
   | exact line_looked.mono _ _
theorem line_Regime.mono : ∀ a0 k, LeO (line_Regime.f k a0) (line_Regime.f (k + 1) a0) := by
 intro a0 k
 obtain ⟨ih0, ih1⟩ := line_Regime.mono_l k
 unfold line_Regime.f
 repeat' first
   | (with_reducible exact LeO.refl _)
   | (with_reducible exact LeO.none _)
   | (with_reducible refine LeO.ite ?_ ?_)
   | (with_reducible refine LeO.bind ?_ (fun _ => ?_))
   | exact ih0 _ _ _ _ _ _ _ _
   | exact ih1 _ _ _ _ _ _ _ _ _
   | exact line_Regime_1.mono _ _ _ _ _
   | exact lgconnected.mono _ _
   | exact llperiod.mono _ _ _ _ _ _
   | exact line_looked.mono _ _
theorem line_Regime.calls (k : Nat) (A0 : Option Addr) (c0 : Nat) (l0 : List (List Int)) (r1 : Int) (r2 : Int) (r3 : Int) (w : World) (hr0 : Kd.C (Kd.slice 3 (Kd.int .i64)) w A0 l0.length l0) (hc0 : l0.length ≤ c0) (h : line_Regime.f k l0 = some (r1, r2, r3)) :
  Calls Try.prog 18 #[.slice A0 l0.length c0] w fun e w' => e = .returned (.tuple #[.int .i64 r1, .int .i64 r2, .int .i64 r3]) ∧ Below w.heap.size w w' := by
 have hu58 := Try.underlying58
 have HR0 := xA.mk hr0
 have HC0 := xA.mk hc0
 clear hr0 hc0
 have HB := xA.mk (Below.refl w.heap.size w)
 have H : ((line_looked.f k l0).bind fun bt367 => (if bt367.2.2.2.2.2 = 0 then ((lgconnected.f k bt367.1).bind fun t380 => (if t380 = true then ((llperiod.f k bt367.1 bt367.2.1 bt367.2.2.1 bt367.2.2.2.1 bt367.2.2.2.2.1).bind fun t381 => (if bt367.2.2.1 = 0 then (none) else (line_Regime.l0 k t381 (wrap64 (Int.tdiv (wrap64 (t381 * bt367.2.1)) bt367.2.2.1)) 1 bt367.1 bt367.2.1 bt367.2.2.1 bt367.2.2.2.1 bt367.2.2.2.2.1))) else (some (0, 0, 10)))) else (some (0, 0, bt367.2.2.2.2.2)))) = some (r1, r2, r3) := h
 clear h
 replace H := qw H
 obtain ⟨⟨t367, t370, t371, t372, t375, t378⟩, A20, H⟩ := H
 replace H : (if t378 = 0 then ((lgconnected.f k t367).bind fun t380 => (if t380 = true then ((llperiod.f k t367 t370 t371 t372 t375).bind fun t381 => (if t371 = 0 then (none) else (line_Regime.l0 k t381 (wrap64 (Int.tdiv (wrap64 (t381 * t370)) t371)) 1 t367 t370 t371 t372 t375))) else (some (0, 0, 10)))) else (some (0, 0, t378))) = some (r1, r2, r3) := H
 have A2 := xA.mk A20
 clear A20
 by_cases c3 : t378 = 0
 rotate_left
 ·
  rw [if_neg c3] at H
  have c3b0 : (t378 == 0) = false := jg c3
  have c3b1 : (t378 != 0) = true := bne_iff_ne.mpr c3
  simp only [Option.some.injEq, Prod.mk.injEq] at H
  obtain ⟨rfl, rfl, rfl⟩ := H
  go_enter Try.func18, Try.ntmps18
  go_wp2_with (first | ((with_reducible refine xF (f := 45) rfl ?_); refine xM (some 15) rfl rfl Try.func45 jk rfl #[.slice A0 l0.length c0] rfl qc ?_; (with_reducible refine (line_looked.calls k (fun k_ => k_ < w.heap.size) _ _ l0 t367 t370 t371 t372 t375 t378 _ ?side1 A2.out).mono ?_); (case side1 => exact Kd.V_mk HC0.out (Kd.F_below (Kd.C_F (Kd.heap_slice 3 (Kd.heap_int .i64)) HR0.out) qa)); rintro e w38 ⟨v368, v373, v376, rfl, ho0, ho1, ho2, hb⟩; refine ⟨_, rfl, ?_⟩; have HO369 := xA.mk (Kd.V_lower (Kd.V_mono (ok' := fun k_ => some k_ ≠ (v373 : Value).ownBlock ∧ some k_ ≠ (v376 : Value).ownBlock) ho0 (fun k_ hk_ => ⟨hk_.2.1, hk_.2.2⟩)) (xC qa)); have HO374 := xA.mk (Kd.S_lower (Kd.xU (ok' := fun k_ => some k_ ≠ (v376 : Value).ownBlock) ho1 (fun _ hk_ => hk_.2)) (xC qa)); have HO377 := xA.mk (Kd.S_lower (Kd.xU (ok' := fun k_ => some k_ ≠ (v373 : Value).ownBlock) ho2 (fun _ hk_ => hk_.2)) (xC qa)); replace HB := xA.mk (xE qa hb); (try clear hb); (try clear hb2); (try clear hk); (try clear hi); (try clear ho0); (try clear ho1); (try clear ho2)) | ((with_reducible refine xW (N := 5) rfl ?_); refine xY ?hg (N := 5) ?hd (cs := #[.slice none 0 0, .int .i64 0, .int .i64 0, .slice none 0 0, .slice none 0 0]) (t := 58) ?hr ?_; (case hd => rfl); (case hg => rfl); (case hr => first | (go_simp; done) | (go_simp; rfl)); intro gb379 hg w39 hbox hb; have n0_ := xA.mk (Kd.V_below (Kd.V_elderB (qj HO369.out) gb379 (Nat.le_of_eq hg.symm)) hb); have n1_ := xA.mk (Kd.xZ (qh HO374.out) hb); have n2_ := xA.mk (Kd.xZ (qh HO377.out) hb); have n3_ := xA.mk (xE qa hb); have n4_ := xA.mk (hbox); have n5_ := xA.mk ((by rw [hg]; exact (xC qa) : w.heap.size ≤ gb379)); have n6_ := xA.mk ((by rw [hg]; exact (xC qa) : w.heap.size ≤ gb379)); clear HO369; clear HO374; clear HO377; clear HB; have HO369 := n0_; have HO374 := n1_; have HO377 := n2_; have HB := n3_; have BK379 := n4_; have GW379 := n5_; have GE379 := n6_; clear n0_ n1_ n2_ n3_ n4_ n5_ n6_; clear hb hbox hg; obtain ⟨Ao40, co40, eo40⟩ := Kd.V_slice HO369.out; subst eo40; have hcz41_0 : w39.cell? ⟨gb379, 0, none⟩ = some (.slice none 0 0) := (xB BK379.out 0).trans rfl; have hcz41_1 : w39.cell? ⟨gb379, 1, none⟩ = some (.int .i64 0) := (xB BK379.out 1).trans rfl; have hcz41_2 : w39.cell? ⟨gb379, 2, none⟩ = some (.int .i64 0) := (xB BK379.out 2).trans rfl; have hcz41_3 : w39.cell? ⟨gb379, 3, none⟩ = some (.slice none 0 0) := (xB BK379.out 3).trans rfl; have hcz41_4 : w39.cell? ⟨gb379, 4, none⟩ = some (.slice none 0 0) := (xB BK379.out 4).trans rfl; have hfz41_0 := xD BK379.out 0; have hfz41_1 := xD BK379.out 1; have hfz41_2 := xD BK379.out 2; have hfz41_3 := xD BK379.out 3; have hfz41_4 := xD BK379.out 4; obtain ⟨Ao42, co42, eo42⟩ := Kd.S_slice HO374.out; subst eo42; obtain ⟨Ao43, co43, eo43⟩ := Kd.S_slice HO377.out; subst eo43))
  go_ret3
  exact ⟨qg, qo GE379.out⟩
 rw [if_pos c3] at H
 have c3b0 : (t378 == 0) = true := beq_iff_eq.mpr c3
 clear c3
 replace H := qw H
 obtain ⟨t380, A40, H⟩ := H
 replace H : (if t380 = true then ((llperiod.f k t367 t370 t371 t372 t375).bind fun t381 => (if t371 = 0 then (none) else (line_Regime.l0 k t381 (wrap64 (Int.tdiv (wrap64 (t381 * t370)) t371)) 1 t367 t370 t371 t372 t375))) else (some (0, 0, 10))) = some (r1, r2, r3) := H
 have A4 := xA.mk A40
 clear A40
 by_cases c5 : t380 = true
 rotate_left
 ·
  replace c5 := Bool.eq_false_iff.mpr c5
  subst c5
  have H1 : (some (0, 0, 10)) = some (r1, r2, r3) := by rw [if_neg (show ¬ (false = true) by decide)] at H; exact H
  clear H
  have H := H1
  clear H1
  simp only [Option.some.injEq, Prod.mk.injEq] at H
  obtain ⟨rfl, rfl, rfl⟩ := H
  go_enter Try.func18, Try.ntmps18
  go_wp2_with (first | ((with_reducible refine xF (f := 45) rfl ?_); refine xM (some 15) rfl rfl Try.func45 jk rfl #[.slice A0 l0.length c0] rfl qc ?_; (with_reducible refine (line_looked.calls k (fun k_ => k_ < w.heap.size) _ _ l0 t367 t370 t371 t372 t375 t378 _ ?side1 A2.out).mono ?_); (case side1 => exact Kd.V_mk HC0.out (Kd.F_below (Kd.C_F (Kd.heap_slice 3 (Kd.heap_int .i64)) HR0.out) qa)); rintro e w31 ⟨v368, v373, v376, rfl, ho0, ho1, ho2, hb⟩; refine ⟨_, rfl, ?_⟩; have HO369 := xA.mk (Kd.V_lower (Kd.V_mono (ok' := fun k_ => some k_ ≠ (v373 : Value).ownBlock ∧ some k_ ≠ (v376 : Value).ownBlock) ho0 (fun k_ hk_ => ⟨hk_.2.1, hk_.2.2⟩)) (xC qa)); have HO374 := xA.mk (Kd.S_lower (Kd.xU (ok' := fun k_ => some k_ ≠ (v376 : Value).ownBlock) ho1 (fun _ hk_ => hk_.2)) (xC qa)); have HO377 := xA.mk (Kd.S_lower (Kd.xU (ok' := fun k_ => some k_ ≠ (v373 : Value).ownBlock) ho2 (fun _ hk_ => hk_.2)) (xC qa)); replace HB := xA.mk (xE qa hb); (try clear hb); (try clear hb2); (try clear hk); (try clear hi); (try clear ho0); (try clear ho1); (try clear ho2)) | ((with_reducible refine xW (N := 5) rfl ?_); refine xY ?hg (N := 5) ?hd (cs := #[.slice none 0 0, .int .i64 0, .int .i64 0, .slice none 0 0, .slice none 0 0]) (t := 58) ?hr ?_; (case hd => rfl); (case hg => rfl); (case hr => first | (go_simp; done) | (go_simp; rfl)); intro gb379 hg w32 hbox hb; have n0_ := xA.mk (Kd.V_below (Kd.V_elderB (qj HO369.out) gb379 (Nat.le_of_eq hg.symm)) hb); have n1_ := xA.mk (Kd.xZ (qh HO374.out) hb); have n2_ := xA.mk (Kd.xZ (qh HO377.out) hb); have n3_ := xA.mk (xE qa hb); have n4_ := xA.mk (hbox); have n5_ := xA.mk ((by rw [hg]; exact (xC qa) : w.heap.size ≤ gb379)); have n6_ := xA.mk ((by rw [hg]; exact (xC qa) : w.heap.size ≤ gb379)); clear HO369; clear HO374; clear HO377; clear HB; have HO369 := n0_; have HO374 := n1_; have HO377 := n2_; have HB := n3_; have BK379 := n4_; have GW379 := n5_; have GE379 := n6_; clear n0_ n1_ n2_ n3_ n4_ n5_ n6_; clear hb hbox hg; obtain ⟨Ao33, co33, eo33⟩ := Kd.V_slice HO369.out; subst eo33; have hcz34_0 : w32.cell? ⟨gb379, 0, none⟩ = some (.slice none 0 0) := (xB BK379.out 0).trans rfl; have hcz34_1 : w32.cell? ⟨gb379, 1, none⟩ = some (.int .i64 0) := (xB BK379.out 1).trans rfl; have hcz34_2 : w32.cell? ⟨gb379, 2, none⟩ = some (.int .i64 0) := (xB BK379.out 2).trans rfl; have hcz34_3 : w32.cell? ⟨gb379, 3, none⟩ = some (.slice none 0 0) := (xB BK379.out 3).trans rfl; have hcz34_4 : w32.cell? ⟨gb379, 4, none⟩ = some (.slice none 0 0) := (xB BK379.out 4).trans rfl; have hfz34_0 := xD BK379.out 0; have hfz34_1 := xD BK379.out 1; have hfz34_2 := xD BK379.out 2; have hfz34_3 := xD BK379.out 3; have hfz34_4 := xD BK379.out 4; obtain ⟨Ao35, co35, eo35⟩ := Kd.S_slice HO374.out; subst eo35; obtain ⟨Ao36, co36, eo36⟩ := Kd.S_slice HO377.out; subst eo36) | ((with_reducible refine xF (f := 46) rfl ?_); refine xM (some 25) rfl rfl Try.func46 jk rfl #[.slice Ao33 t367.length co33] rfl qc ?_; (with_reducible refine (lgconnected.calls k _ _ t367 false _ ?side1 ?side2 A4.out).mono ?_); (case side1 => refine (Kd.xV (e := 26) (base := w.heap.size) (ok := fun k_ => ((some k_ ≠ (.slice Ao35 t372.length co35 : Value).ownBlock ∧ some k_ ≠ (.slice Ao36 t375.length co36 : Value).ownBlock) ∧ k_ ≠ gb379)) (n := t367.length) (c := co33) ?_).2.2; exact (by (with_reducible repeat (first | apply Kd.V_alloc | apply Kd.V_drewN | apply Kd.V_drew)); exact (Kd.V_mono (Kd.V_far (p := ⟨gb379, 4, none⟩) (Kd.V_far (p := ⟨gb379, 3, none⟩) (Kd.V_far (p := ⟨gb379, 2, none⟩) (Kd.V_far (p := ⟨gb379, 1, none⟩) (Kd.V_far (p := ⟨gb379, 0, none⟩) (Kd.V_mono HO369.out (fun k_ hk => (⟨hk, hk.2⟩ : _ ∧ k_ ≠ gb379))) (fun _ hk => hk.2) (.slice Ao33 t367.length co33)) (fun _ hk => hk.2) (.int .i64 t370)) (fun _ hk => hk.2) (.int .i64 t371)) (fun _ hk => hk.2) (.slice Ao35 t372.length co35)) (fun _ hk => hk.2) (.slice Ao36 t375.length co36)) (fun _ h_ => h_.1)))); (case side2 => exact (Kd.xV HO369.out).2.1); rintro e w37 ⟨rfl, hb⟩; refine ⟨_, rfl, ?_⟩; have n0_ := xA.mk (Kd.V_below (by (with_reducible repeat (first | apply Kd.V_alloc | apply Kd.V_drewN | apply Kd.V_drew)); exact (Kd.V_mono (Kd.V_far (p := ⟨gb379, 4, none⟩) (Kd.V_far (p := ⟨gb379, 3, none⟩) (Kd.V_far (p := ⟨gb379, 2, none⟩) (Kd.V_far (p := ⟨gb379, 1, none⟩) (Kd.V_far (p := ⟨gb379, 0, none⟩) (Kd.V_mono HO369.out (fun k_ hk => (⟨hk, hk.2⟩ : _ ∧ k_ ≠ gb379))) (fun _ hk => hk.2) (.slice Ao33 t367.length co33)) (fun _ hk => hk.2) (.int .i64 t370)) (fun _ hk => hk.2) (.int .i64 t371)) (fun _ hk => hk.2) (.slice Ao35 t372.length co35)) (fun _ hk => hk.2) (.slice Ao36 t375.length co36)) (fun _ h_ => h_.1))) hb); have n1_ := xA.mk (Kd.xZ (by (with_reducible repeat (first | apply Kd.S_alloc | apply Kd.S_drewN | apply Kd.S_drew)); exact (Kd.xU (Kd.S_far (p := ⟨gb379, 4, none⟩) (Kd.S_far (p := ⟨gb379, 3, none⟩) (Kd.S_far (p := ⟨gb379, 2, none⟩) (Kd.S_far (p := ⟨gb379, 1, none⟩) (Kd.S_far (p := ⟨gb379, 0, none⟩) (Kd.S_types HO374.out BK379.out (by decide)) (fun _ hk => hk.2) (.slice Ao33 t367.length co33)) (fun _ hk => hk.2) (.int .i64 t370)) (fun _ hk => hk.2) (.int .i64 t371)) (fun _ hk => hk.2) (.slice Ao35 t372.length co35)) (fun _ hk => hk.2) (.slice Ao36 t375.length co36)) (fun _ h_ => h_.1))) hb); have n2_ := xA.mk (Kd.xZ (by (with_reducible repeat (first | apply Kd.S_alloc | apply Kd.S_drewN | apply Kd.S_drew)); exact (Kd.xU (Kd.S_far (p := ⟨gb379, 4, none⟩) (Kd.S_far (p := ⟨gb379, 3, none⟩) (Kd.S_far (p := ⟨gb379, 2, none⟩) (Kd.S_far (p := ⟨gb379, 1, none⟩) (Kd.S_far (p := ⟨gb379, 0, none⟩) (Kd.S_types HO377.out BK379.out (by decide)) (fun _ hk => hk.2) (.slice Ao33 t367.length co33)) (fun _ hk => hk.2) (.int .i64 t370)) (fun _ hk => hk.2) (.int .i64 t371)) (fun _ hk => hk.2) (.slice Ao35 t372.length co35)) (fun _ hk => hk.2) (.slice Ao36 t375.length co36)) (fun _ h_ => h_.1))) hb); have n3_ := xA.mk (xN (g := gb379) (o := .cells #[.slice Ao33 t367.length co33, .int .i64 t370, .int .i64 t371, .slice Ao35 t372.length co35, .slice Ao36 t375.length co36] 58 (0, 0)) (by (with_reducible repeat (first | refine xJ ?_ _ | refine xI ?_ | refine xH ?_ _)); refine xT (cs := #[.slice Ao33 t367.length co33, .int .i64 t370, .int .i64 t371, .slice Ao35 t372.length co35, .slice none 0 0]) ?_ 4 _ rfl; (with_reducible repeat (first | refine xJ ?_ _ | refine xI ?_ | refine xH ?_ _)); refine xT (cs := #[.slice Ao33 t367.length co33, .int .i64 t370, .int .i64 t371, .slice none 0 0, .slice none 0 0]) ?_ 3 _ rfl; (with_reducible repeat (first | refine xJ ?_ _ | refine xI ?_ | refine xH ?_ _)); refine xT (cs := #[.slice Ao33 t367.length co33, .int .i64 t370, .int .i64 0, .slice none 0 0, .slice none 0 0]) ?_ 2 _ rfl; (with_reducible repeat (first | refine xJ ?_ _ | refine xI ?_ | refine xH ?_ _)); refine xT (cs := #[.slice Ao33 t367.length co33, .int .i64 0, .int .i64 0, .slice none 0 0, .slice none 0 0]) ?_ 1 _ rfl; (with_reducible repeat (first | refine xJ ?_ _ | refine xI ?_ | refine xH ?_ _)); refine xT (cs := #[.slice none 0 0, .int .i64 0, .int .i64 0, .slice none 0 0, .slice none 0 0]) ?_ 0 _ rfl; (with_reducible repeat (first | refine xJ ?_ _ | refine xI ?_ | refine xH ?_ _)); exact BK379.out) hb); have n4_ := xA.mk (xE (qo GE379.out) hb); clear HO369; clear HO374; clear HO377; clear BK379; clear HB; have HO369 := n0_; have HO374 := n1_; have HO377 := n2_; have BK379 := n3_; have HB := n4_; clear n0_ n1_ n2_ n3_ n4_; (try clear hb); (try clear hb2); (try clear hk); (try clear hi)))
  go_ret3
  exact ⟨qg, qo GE379.out⟩
 subst c5
 have H1 : ((llperiod.f k t367 t370 t371 t372 t375).bind fun t381 => (if t371 = 0 then (none) else (line_Regime.l0 k t381 (wrap64 (Int.tdiv (wrap64 (t381 * t370)) t371)) 1 t367 t370 t371 t372 t375))) = some (r1, r2, r3) := by rw [if_pos rfl] at H; exact H
 clear H
 have H := H1
 clear H1
 replace H := qw H
 obtain ⟨t381, A60, H⟩ := H
 replace H : (if t371 = 0 then (none) else (line_Regime.l0 k t381 (wrap64 (Int.tdiv (wrap64 (t381 * t370)) t371)) 1 t367 t370 t371 t372 t375)) = some (r1, r2, r3) := H
 have A6 := xA.mk A60
 clear A60
 by_cases c7 : t371 = 0
 ·
  rw [if_pos c7] at H
  exact absurd H (by simp)
 rw [if_neg c7] at H
 have c7b0 : (t371 == 0) = false := jg c7
 have c7b1 : (t371 != 0) = true := bne_iff_ne.mpr c7
 have H' := xA.mk H
 clear H
 go_enter Try.func18, Try.ntmps18
 go_wp2_with (first | ((with_reducible refine xF (f := 45) rfl ?_); refine xM (some 15) rfl rfl Try.func45 jk rfl #[.slice A0 l0.length c0] rfl qc ?_; (with_reducible refine (line_looked.calls k (fun k_ => k_ < w.heap.size) _ _ l0 t367 t370 t371 t372 t375 t378 _ ?side1 A2.out).mono ?_); (case side1 => exact Kd.V_mk HC0.out (Kd.F_below (Kd.C_F (Kd.heap_slice 3 (Kd.heap_int .i64)) HR0.out) qa)); rintro e w8 ⟨v368, v373, v376, rfl, ho0, ho1, ho2, hb⟩; refine ⟨_, rfl, ?_⟩; have HO369 := xA.mk (Kd.V_lower (Kd.V_mono (ok' := fun k_ => some k_ ≠ (v373 : Value).ownBlock ∧ some k_ ≠ (v376 : Value).ownBlock) ho0 (fun k_ hk_ => ⟨hk_.2.1, hk_.2.2⟩)) (xC qa)); have HO374 := xA.mk (Kd.S_lower (Kd.xU (ok' := fun k_ => some k_ ≠ (v376 : Value).ownBlock) ho1 (fun _ hk_ => hk_.2)) (xC qa)); have HO377 := xA.mk (Kd.S_lower (Kd.xU (ok' := fun k_ => some k_ ≠ (v373 : Value).ownBlock) ho2 (fun _ hk_ => hk_.2)) (xC qa)); replace HB := xA.mk (xE qa hb); (try clear hb); (try clear hb2); (try clear hk); (try clear hi); (try clear ho0); (try clear ho1); (try clear ho2)) | ((with_reducible refine xW (N := 5) rfl ?_); refine xY ?hg (N := 5) ?hd (cs := #[.slice none 0 0, .int .i64 0, .int .i64 0, .slice none 0 0, .slice none 0 0]) (t := 58) ?hr ?_; (case hd => rfl); (case hg => rfl); (case hr => first | (go_simp; done) | (go_simp; rfl)); intro gb379 hg w9 hbox hb; have n0_ := xA.mk (Kd.V_below (Kd.V_elderB (qj HO369.out) gb379 (Nat.le_of_eq hg.symm)) hb); have n1_ := xA.mk (Kd.xZ (qh HO374.out) hb); have n2_ := xA.mk (Kd.xZ (qh HO377.out) hb); have n3_ := xA.mk (xE qa hb); have n4_ := xA.mk (hbox); have n5_ := xA.mk ((by rw [hg]; exact (xC qa) : w.heap.size ≤ gb379)); have n6_ := xA.mk ((by rw [hg]; exact (xC qa) : w.heap.size ≤ gb379)); clear HO369; clear HO374; clear HO377; clear HB; have HO369 := n0_; have HO374 := n1_; have HO377 := n2_; have HB := n3_; have BK379 := n4_; have GW379 := n5_; have GE379 := n6_; clear n0_ n1_ n2_ n3_ n4_ n5_ n6_; clear hb hbox hg; obtain ⟨Ao10, co10, eo10⟩ := Kd.V_slice HO369.out; subst eo10; have hcz11_0 : w9.cell? ⟨gb379, 0, none⟩ = some (.slice none 0 0) := (xB BK379.out 0).trans rfl; have hcz11_1 : w9.cell? ⟨gb379, 1, none⟩ = some (.int .i64 0) := (xB BK379.out 1).trans rfl; have hcz11_2 : w9.cell? ⟨gb379, 2, none⟩ = some (.int .i64 0) := (xB BK379.out 2).trans rfl; have hcz11_3 : w9.cell? ⟨gb379, 3, none⟩ = some (.slice none 0 0) := (xB BK379.out 3).trans rfl; have hcz11_4 : w9.cell? ⟨gb379, 4, none⟩ = some (.slice none 0 0) := (xB BK379.out 4).trans rfl; have hfz11_0 := xD BK379.out 0; have hfz11_1 := xD BK379.out 1; have hfz11_2 := xD BK379.out 2; have hfz11_3 := xD BK379.out 3; have hfz11_4 := xD BK379.out 4; obtain ⟨Ao12, co12, eo12⟩ := Kd.S_slice HO374.out; subst eo12; obtain ⟨Ao13, co13, eo13⟩ := Kd.S_slice HO377.out; subst eo13) | ((with_reducible refine xF (f := 46) rfl ?_); refine xM (some 25) rfl rfl Try.func46 jk rfl #[.slice Ao10 t367.length co10] rfl qc ?_; (with_reducible refine (lgconnected.calls k _ _ t367 true _ ?side1 ?side2 A4.out).mono ?_); (case side1 => refine (Kd.xV (e := 26) (base := w.heap.size) (ok := fun k_ => ((some k_ ≠ (.slice Ao12 t372.length co12 : Value).ownBlock ∧ some k_ ≠ (.slice Ao13 t375.length co13 : Value).ownBlock) ∧ k_ ≠ gb379)) (n := t367.length) (c := co10) ?_).2.2; exact (by (with_reducible repeat (first | apply Kd.V_alloc | apply Kd.V_drewN | apply Kd.V_drew)); exact (Kd.V_mono (Kd.V_far (p := ⟨gb379, 4, none⟩) (Kd.V_far (p := ⟨gb379, 3, none⟩) (Kd.V_far (p := ⟨gb379, 2, none⟩) (Kd.V_far (p := ⟨gb379, 1, none⟩) (Kd.V_far (p := ⟨gb379, 0, none⟩) (Kd.V_mono HO369.out (fun k_ hk => (⟨hk, hk.2⟩ : _ ∧ k_ ≠ gb379))) (fun _ hk => hk.2) (.slice Ao10 t367.length co10)) (fun _ hk => hk.2) (.int .i64 t370)) (fun _ hk => hk.2) (.int .i64 t371)) (fun _ hk => hk.2) (.slice Ao12 t372.length co12)) (fun _ hk => hk.2) (.slice Ao13 t375.length co13)) (fun _ h_ => h_.1)))); (case side2 => exact (Kd.xV HO369.out).2.1); rintro e w14 ⟨rfl, hb⟩; refine ⟨_, rfl, ?_⟩; have n0_ := xA.mk (Kd.V_below (by (with_reducible repeat (first | apply Kd.V_alloc | apply Kd.V_drewN | apply Kd.V_drew)); exact (Kd.V_mono (Kd.V_far (p := ⟨gb379, 4, none⟩) (Kd.V_far (p := ⟨gb379, 3, none⟩) (Kd.V_far (p := ⟨gb379, 2, none⟩) (Kd.V_far (p := ⟨gb379, 1, none⟩) (Kd.V_far (p := ⟨gb379, 0, none⟩) (Kd.V_mono HO369.out (fun k_ hk => (⟨hk, hk.2⟩ : _ ∧ k_ ≠ gb379))) (fun _ hk => hk.2) (.slice Ao10 t367.length co10)) (fun _ hk => hk.2) (.int .i64 t370)) (fun _ hk => hk.2) (.int .i64 t371)) (fun _ hk => hk.2) (.slice Ao12 t372.length co12)) (fun _ hk => hk.2) (.slice Ao13 t375.length co13)) (fun _ h_ => h_.1))) hb); have n1_ := xA.mk (Kd.xZ (by (with_reducible repeat (first | apply Kd.S_alloc | apply Kd.S_drewN | apply Kd.S_drew)); exact (Kd.xU (Kd.S_far (p := ⟨gb379, 4, none⟩) (Kd.S_far (p := ⟨gb379, 3, none⟩) (Kd.S_far (p := ⟨gb379, 2, none⟩) (Kd.S_far (p := ⟨gb379, 1, none⟩) (Kd.S_far (p := ⟨gb379, 0, none⟩) (Kd.S_types HO374.out BK379.out (by decide)) (fun _ hk => hk.2) (.slice Ao10 t367.length co10)) (fun _ hk => hk.2) (.int .i64 t370)) (fun _ hk => hk.2) (.int .i64 t371)) (fun _ hk => hk.2) (.slice Ao12 t372.length co12)) (fun _ hk => hk.2) (.slice Ao13 t375.length co13)) (fun _ h_ => h_.1))) hb); have n2_ := xA.mk (Kd.xZ (by (with_reducible repeat (first | apply Kd.S_alloc | apply Kd.S_drewN | apply Kd.S_drew)); exact (Kd.xU (Kd.S_far (p := ⟨gb379, 4, none⟩) (Kd.S_far (p := ⟨gb379, 3, none⟩) (Kd.S_far (p := ⟨gb379, 2, none⟩) (Kd.S_far (p := ⟨gb379, 1, none⟩) (Kd.S_far (p := ⟨gb379, 0, none⟩) (Kd.S_types HO377.out BK379.out (by decide)) (fun _ hk => hk.2) (.slice Ao10 t367.length co10)) (fun _ hk => hk.2) (.int .i64 t370)) (fun _ hk => hk.2) (.int .i64 t371)) (fun _ hk => hk.2) (.slice Ao12 t372.length co12)) (fun _ hk => hk.2) (.slice Ao13 t375.length co13)) (fun _ h_ => h_.1))) hb); have n3_ := xA.mk (xN (g := gb379) (o := .cells #[.slice Ao10 t367.length co10, .int .i64 t370, .int .i64 t371, .slice Ao12 t372.length co12, .slice Ao13 t375.length co13] 58 (0, 0)) (by (with_reducible repeat (first | refine xJ ?_ _ | refine xI ?_ | refine xH ?_ _)); refine xT (cs := #[.slice Ao10 t367.length co10, .int .i64 t370, .int .i64 t371, .slice Ao12 t372.length co12, .slice none 0 0]) ?_ 4 _ rfl; (with_reducible repeat (first | refine xJ ?_ _ | refine xI ?_ | refine xH ?_ _)); refine xT (cs := #[.slice Ao10 t367.length co10, .int .i64 t370, .int .i64 t371, .slice none 0 0, .slice none 0 0]) ?_ 3 _ rfl; (with_reducible repeat (first | refine xJ ?_ _ | refine xI ?_ | refine xH ?_ _)); refine xT (cs := #[.slice Ao10 t367.length co10, .int .i64 t370, .int .i64 0, .slice none 0 0, .slice none 0 0]) ?_ 2 _ rfl; (with_reducible repeat (first | refine xJ ?_ _ | refine xI ?_ | refine xH ?_ _)); refine xT (cs := #[.slice Ao10 t367.length co10, .int .i64 0, .int .i64 0, .slice none 0 0, .slice none 0 0]) ?_ 1 _ rfl; (with_reducible repeat (first | refine xJ ?_ _ | refine xI ?_ | refine xH ?_ _)); refine xT (cs := #[.slice none 0 0, .int .i64 0, .int .i64 0, .slice none 0 0, .slice none 0 0]) ?_ 0 _ rfl; (with_reducible repeat (first | refine xJ ?_ _ | refine xI ?_ | refine xH ?_ _)); exact BK379.out) hb); have n4_ := xA.mk (xE (qo GE379.out) hb); clear HO369; clear HO374; clear HO377; clear BK379; clear HB; have HO369 := n0_; have HO374 := n1_; have HO377 := n2_; have BK379 := n3_; have HB := n4_; clear n0_ n1_ n2_ n3_ n4_; (try clear hb); (try clear hb2); (try clear hk); (try clear hi); have hcz15_0 : w14.cell? ⟨gb379, 0, none⟩ = some (.slice Ao10 t367.length co10) := (xB BK379.out 0).trans rfl; have hcz15_1 : w14.cell? ⟨gb379, 1, none⟩ = some (.int .i64 t370) := (xB BK379.out 1).trans rfl; have hcz15_2 : w14.cell? ⟨gb379, 2, none⟩ = some (.int .i64 t371) := (xB BK379.out 2).trans rfl; have hcz15_3 : w14.cell? ⟨gb379, 3, none⟩ = some (.slice Ao12 t372.length co12) := (xB BK379.out 3).trans rfl; have hcz15_4 : w14.cell? ⟨gb379, 4, none⟩ = some (.slice Ao13 t375.length co13) := (xB BK379.out 4).trans rfl; have hfz15_0 := xD BK379.out 0; have hfz15_1 := xD BK379.out 1; have hfz15_2 := xD BK379.out 2; have hfz15_3 := xD BK379.out 3; have hfz15_4 := xD BK379.out 4) | ((with_reducible refine xF (f := 54) rfl ?_); refine xM (some 28) rfl rfl Try.func54 jk rfl #[.agg #[.slice Ao10 t367.length co10, .int .i64 t370, .int .i64 t371, .slice Ao12 t372.length co12, .slice Ao13 t375.length co13]] rfl qc ?_; (with_reducible refine (llperiod.calls k _ _ t367 t370 t371 _ _ t372 _ _ t375 t381 _ ?side1 ?side2 ?side3 ?side4 ?side5 ?side6 A6.out).mono ?_); (case side1 => exact qm (Kd.xV HO369.out).2.2); (case side2 => exact (Kd.xV HO369.out).2.1); (case side3 => exact qm (Kd.xG HO374.out).2.2); (case side4 => exact (Kd.xG HO374.out).2.1); (case side5 => exact qm (Kd.xG HO377.out).2.2); (case side6 => exact (Kd.xG HO377.out).2.1); rintro e w16 ⟨rfl, hb⟩; refine ⟨_, rfl, ?_⟩; replace HO369 := xA.mk (Kd.V_below (qj HO369.out) hb); replace HO374 := xA.mk (Kd.xZ (qh HO374.out) hb); replace HO377 := xA.mk (Kd.xZ (qh HO377.out) hb); replace BK379 := xA.mk (xN (g := gb379) (o := .cells #[.slice Ao10 t367.length co10, .int .i64 t370, .int .i64 t371, .slice Ao12 t372.length co12, .slice Ao13 t375.length co13] 58 (0, 0)) (qn BK379.out) hb); replace HB := xA.mk (xE (qo GE379.out) hb); (try clear hb); (try clear hb2); (try clear hk); (try clear hi); have hcz17_0 : w16.cell? ⟨gb379, 0, none⟩ = some (.slice Ao10 t367.length co10) := (xB BK379.out 0).trans rfl; have hcz17_1 : w16.cell? ⟨gb379, 1, none⟩ = some (.int .i64 t370) := (xB BK379.out 1).trans rfl; have hcz17_2 : w16.cell? ⟨gb379, 2, none⟩ = some (.int .i64 t371) := (xB BK379.out 2).trans rfl; have hcz17_3 : w16.cell? ⟨gb379, 3, none⟩ = some (.slice Ao12 t372.length co12) := (xB BK379.out 3).trans rfl; have hcz17_4 : w16.cell? ⟨gb379, 4, none⟩ = some (.slice Ao13 t375.length co13) := (xB BK379.out 4).trans rfl; have hfz17_0 := xD BK379.out 0; have hfz17_1 := xD BK379.out 1; have hfz17_2 := xD BK379.out 2; have hfz17_3 := xD BK379.out 3; have hfz17_4 := xD BK379.out 4; have HGB := xA.mk (World.block_lt_of_cell? w16 _ hcz17_0); have hal1 := fun o i => cell_alloc_old w16 gb379 HGB.out o i; have hal2 := fun o o2 i => cell_alloc_old2 w16 gb379 HGB.out o o2 i))
 have hgbm := HGB.out
 generalize hwm : (World.alloc (World.alloc w16 _) _) = wm
 have FB := xA.mk (show Below w.heap.size w wm by rw [← hwm]; exact xS (xS HB.out _) _)
 have FM := xA.mk (show Below w16.heap.size w16 wm by rw [← hwm]; exact xS (xS (Below.refl _ _) _) _)
 have FS := xA.mk (show wm.heap.size = w16.heap.size + 2 by rw [← hwm]; simp)
 have FC := xA.mk (show wm.cell? ⟨w16.heap.size, 0, none⟩ = some (.int .i64 t381) by rw [← hwm]; simp)
 have FA := xA.mk (show wm.cell? ⟨w16.heap.size + 1, 0, none⟩ = some (.int .i64 (wrap64 (Int.tdiv (wrap64 (t381 * t370)) t371))) by rw [← hwm]; simp)
 have FL := xA.mk ((FM.out.cell (p := ⟨gb379, 0, none⟩) HGB.out).trans hcz17_0)
 have FV := xA.mk (Kd.xR (Kd.xV HO369.out).2.2 FM.out)
 have FN := xA.mk (Kd.xV HO369.out).2.1
 have SL := xA.mk (show gb379 < wm.heap.size by rw [FS.out]; have := HGB.out; omega)
 have SA := xA.mk (show w16.heap.size + 1 < wm.heap.size by rw [FS.out]; omega)
 have SC := xA.mk (show w16.heap.size < wm.heap.size by rw [FS.out]; omega)
 clear hwm hgbm hal1 hal2
 go_loopg [10] k (fun kq v10 w' => ∃ (x10 : Int), v10 = .int .i64 x10 ∧ xA (line_Regime.l0 kq t381 (wrap64 (Int.tdiv (wrap64 (t381 * t370)) t371)) x10 t367 t370 t371 t372 t375 = some (r1, r2, r3)) ∧ xA (kq ≤ k) ∧ xA (Below wm.heap.size wm w'))
 case atStart => exact ⟨1, (by first | rfl | (simp; done)), H', ⟨Nat.le_refl _⟩, ⟨Below.refl _ _⟩⟩
 case round =>
  clear H'
  obtain ⟨x10, rfl, HA, HK1, HM⟩ := hrel
  obtain _ | k1 := gk
  · exact absurd HA.out (by simp [line_Regime.l0])
  have H := HA.out
  clear HA
  simp only [line_Regime.l0] at H
  replace H := qw H
  obtain ⟨t382, A180, H⟩ := H
  have A18 := xA.mk A180
  clear A180
  have hl_ := (HM.out.cell (p := ⟨gb379, 0, none⟩) SL.out).trans FL.out
  have ha_ := (HM.out.cell (p := ⟨w16.heap.size + 1, 0, none⟩) SA.out).trans FA.out
  have hc_ := (HM.out.cell (p := ⟨w16.heap.size, 0, none⟩) SC.out).trans FC.out
  have GL := xA.mk hl_
  have GA := xA.mk ha_
  have GC := xA.mk hc_
  clear hl_ ha_ hc_
  by_cases c19 : t382 = true
  rotate_left
  ·
   replace c19 := Bool.eq_false_iff.mpr c19
   subst c19
   have HX := xA.mk (show line_Regime.l0 k1 t381 (wrap64 (Int.tdiv (wrap64 (t381 * t370)) t371)) (wrap64 (x10 * 2)) t367 t370 t371 t372 t375 = some (r1, r2, r3) by rw [if_neg (by decide)] at H; exact H)
   clear H
   go_wp2_with (go_at_call 55; (with_reducible refine (line_Regime_1.calls k1 x10 Ao10 co10 t367 (wrap64 (Int.tdiv (wrap64 (t381 * t370)) t371)) t381 false _ ?s1 ?s2 A18.out gb379 (w16.heap.size + 1) w16.heap.size ?b1 ?b2 ?b3 ?c1 ?c2 ?c3).mono ?_); (case s1 => exact Kd.xR FV.out HM.out); (case s2 => exact FN.out); (case b1 => exact Nat.lt_of_lt_of_le SL.out (xC HM.out)); (case b2 => exact Nat.lt_of_lt_of_le SA.out (xC HM.out)); (case b3 => exact Nat.lt_of_lt_of_le SC.out (xC HM.out)); (case c1 => exact GL.out); (case c2 => exact GA.out); (case c3 => exact GC.out); rintro e w21 ⟨rfl, hb⟩; have n_ := xA.mk (xE HM.out hb); clear HM hb; have HM := n_; clear n_)
   go_roundg k1
   case measure => have := HK1.out; omega
   case rel => exact ⟨(wrap64 (x10 * 2)), (by first | rfl | (simp; done)), HX, ⟨by have := HK1.out; omega⟩, HM⟩
  subst c19
  have HX := xA.mk (show line_Regime.l1 k1 t381 (wrap64 (Int.tdiv (wrap64 (t381 * t370)) t371)) x10 0 t367 t370 t371 t372 t375 = some (r1, r2, r3) by rw [if_pos rfl] at H; exact H)
  clear H
  go_wp2_with (go_at_call 55; (with_reducible refine (line_Regime_1.calls k1 x10 Ao10 co10 t367 (wrap64 (Int.tdiv (wrap64 (t381 * t370)) t371)) t381 true _ ?s1 ?s2 A18.out gb379 (w16.heap.size + 1) w16.heap.size ?b1 ?b2 ?b3 ?c1 ?c2 ?c3).mono ?_); (case s1 => exact Kd.xR FV.out HM.out); (case s2 => exact FN.out); (case b1 => exact Nat.lt_of_lt_of_le SL.out (xC HM.out)); (case b2 => exact Nat.lt_of_lt_of_le SA.out (xC HM.out)); (case b3 => exact Nat.lt_of_lt_of_le SC.out (xC HM.out)); (case c1 => exact GL.out); (case c2 => exact GA.out); (case c3 => exact GC.out); rintro e w21 ⟨rfl, hb⟩; have n_ := xA.mk (xE HM.out hb); clear HM hb; have HM := n_; clear n_)
  go_loopg [10, 11] k1 (fun kq v10 v11 w' => ∃ (x10 : Int) (x11 : Int), v10 = .int .i64 x10 ∧ v11 = .int .i64 x11 ∧ xA (line_Regime.l1 kq t381 (wrap64 (Int.tdiv (wrap64 (t381 * t370)) t371)) x10 x11 t367 t370 t371 t372 t375 = some (r1, r2, r3)) ∧ xA (kq ≤ k1) ∧ xA (Below wm.heap.size wm w'))
  case atStart => exact ⟨x10, 0, (by first | rfl | (simp; done)), (by first | rfl | (simp; done)), HX, ⟨Nat.le_refl _⟩, HM⟩
  case round =>
   clear HX GL GA GC HM
   obtain ⟨x10, x11, rfl, rfl, HA, HK2, HM⟩ := hrel
   obtain _ | k2 := gk
   · exact absurd HA.out (by simp [line_Regime.l1])
   have H := HA.out
   clear HA
   simp only [line_Regime.l1] at H
   have hl_ := (HM.out.cell (p := ⟨gb379, 0, none⟩) SL.out).trans FL.out
   have ha_ := (HM.out.cell (p := ⟨w16.heap.size + 1, 0, none⟩) SA.out).trans FA.out
   have hc_ := (HM.out.cell (p := ⟨w16.heap.size, 0, none⟩) SC.out).trans FC.out
   have GL := xA.mk hl_
   have GA := xA.mk ha_
   have GC := xA.mk hc_
   clear hl_ ha_
   by_cases c22 : x11 < x10
   rotate_left
   ·
    rw [if_neg c22] at H
    have c22b0 : decide (x11 < x10) = false := qv c22
    clear c22
    simp only [Option.some.injEq, Prod.mk.injEq] at H
    obtain ⟨rfl, rfl, rfl⟩ := H
    go_wp2
    go_ret3
    exact ⟨qf, xE FB.out HM.out⟩
   clear hc_
   rw [if_pos c22] at H
   have c22b0 : decide (x11 < x10) = true := qu c22
   clear c22
   replace H := qw H
   obtain ⟨t383, A230, H⟩ := H
   have A23 := xA.mk A230
   clear A230
   by_cases c24 : t383 = true
   ·
    subst c24
    have HX := xA.mk (show line_Regime.l1 k2 t381 (wrap64 (Int.tdiv (wrap64 (t381 * t370)) t371)) (wrap64 (Int.tdiv (wrap64 (x11 + x10)) 2)) x11 t367 t370 t371 t372 t375 = some (r1, r2, r3) by rw [if_pos rfl] at H; exact H)
    clear H
    go_wp2_with (go_at_call 55; (with_reducible refine (line_Regime_1.calls k2 (wrap64 (Int.tdiv (wrap64 (x11 + x10)) 2)) Ao10 co10 t367 (wrap64 (Int.tdiv (wrap64 (t381 * t370)) t371)) t381 true _ ?s1 ?s2 A23.out gb379 (w16.heap.size + 1) w16.heap.size ?b1 ?b2 ?b3 ?c1 ?c2 ?c3).mono ?_); (case s1 => exact Kd.xR FV.out HM.out); (case s2 => exact FN.out); (case b1 => exact Nat.lt_of_lt_of_le SL.out (xC HM.out)); (case b2 => exact Nat.lt_of_lt_of_le SA.out (xC HM.out)); (case b3 => exact Nat.lt_of_lt_of_le SC.out (xC HM.out)); (case c1 => exact GL.out); (case c2 => exact GA.out); (case c3 => exact GC.out); rintro e w21 ⟨rfl, hb⟩; have n_ := xA.mk (xE HM.out hb); clear HM hb; have HM := n_; clear n_)
    go_roundg k2
    case measure => have := HK2.out; omega
    case rel => exact ⟨(wrap64 (Int.tdiv (wrap64 (x11 + x10)) 2)), x11, (by first | rfl | (simp; done)), (by first | rfl | (simp; done)), HX, ⟨by have := HK2.out; omega⟩, HM⟩
   replace c24 := Bool.eq_false_iff.mpr c24
   subst c24
   have HX := xA.mk (show line_Regime.l1 k2 t381 (wrap64 (Int.tdiv (wrap64 (t381 * t370)) t371)) x10 (wrap64 ((wrap64 (Int.tdiv (wrap64 (x11 + x10)) 2)) + 1)) t367 t370 t371 t372 t375 = some (r1, r2, r3) by rw [if_neg (by decide)] at H; exact H)
   clear H
   go_wp2_with (go_at_call 55; (with_reducible refine (line_Regime_1.calls k2 (wrap64 (Int.tdiv (wrap64 (x11 + x10)) 2)) Ao10 co10 t367 (wrap64 (Int.tdiv (wrap64 (t381 * t370)) t371)) t381 false _ ?s1 ?s2 A23.out gb379 (w16.heap.size + 1) w16.heap.size ?b1 ?b2 ?b3 ?c1 ?c2 ?c3).mono ?_); (case s1 => exact Kd.xR FV.out HM.out); (case s2 => exact FN.out); (case b1 => exact Nat.lt_of_lt_of_le SL.out (xC HM.out)); (case b2 => exact Nat.lt_of_lt_of_le SA.out (xC HM.out)); (case b3 => exact Nat.lt_of_lt_of_le SC.out (xC HM.out)); (case c1 => exact GL.out); (case c2 => exact GA.out); (case c3 => exact GC.out); rintro e w21 ⟨rfl, hb⟩; have n_ := xA.mk (xE HM.out hb); clear HM hb; have HM := n_; clear n_)
   go_roundg k2
   case measure => have := HK2.out; omega
   case rel => exact ⟨x10, (wrap64 ((wrap64 (Int.tdiv (wrap64 (x11 + x10)) 2)) + 1)), (by first | rfl | (simp; done)), (by first | rfl | (simp; done)), HX, ⟨by have := HK2.out; omega⟩, HM⟩
section
attribute [local go_sem high] eqA37
def l5alive.f (k : Nat)  : Option (Bool) := (some (([(([3, 7] : List Int)), (([2, 4] : List Int))] : List (List Int)) : List (List Int))).bind fun y399 => ((line_Speed.f k y399).bind fun bt402 => ((line_Eigen.f k y399).bind fun bt406 => ((line_Regime.f k y399).bind fun bt410 => (if bt402.2.2 = 0 then (if (bt402.1 == 9 && (bt402.2.1 == 2)) = true then (if bt406.2 = 0 then ((l5same.f k bt406.1 (([5, 0] : List Int))).bind fun t416 => (if t416 = true then (if bt410.2.2 = 0 then (some (bt410.1 == 2)) else (some false)) else (some false))) else (some false)) else (some false)) else (some false)))))
theorem l5alive.mono : ∀ k, LeO (l5alive.f k ) (l5alive.f (k + 1) ) := by
 intro  k
 unfold l5alive.f
 repeat' first
   | (with_reducible exact LeO.refl _)
   | (with_reducible exact LeO.none _)
   | (with_reducible refine LeO.ite ?_ ?_)
   | (with_reducible refine LeO.bind ?_ (fun _ => ?_))
   | exact line_Eigen.mono _ _
   | exact line_Regime.mono _ _
   | exact line_Speed.mono _ _
   | exact l5same.mono _ _ _
theorem l5alive.callsT (k : Nat)  (r : Bool) (w : World) (h : l5alive.f k  = some r) (hr_ : xA (r = true)) :
  Calls Try.prog 13 #[] w fun e w' => e = .returned (.bool r) ∧ Below w.heap.size w w' := by
 have hu37 := Try.underlying37
 have HB := xA.mk (Below.refl w.heap.size w)
 have H : ((some (([(([3, 7] : List Int)), (([2, 4] : List Int))] : List (List Int)) : List (List Int))).bind fun y399 => ((line_Speed.f k y399).bind fun bt402 => ((line_Eigen.f k y399).bind fun bt406 => ((line_Regime.f k y399).bind fun bt410 => (if bt402.2.2 = 0 then (if (bt402.1 == 9 && (bt402.2.1 == 2)) = true then (if bt406.2 = 0 then ((l5same.f k bt406.1 (([5, 0] : List Int))).bind fun t416 => (if t416 = true then (if bt410.2.2 = 0 then (some (bt410.1 == 2)) else (some false)) else (some false))) else (some false)) else (some false)) else (some false)))))) = some r := h
 clear h
 obtain ⟨y393, hy393⟩ : ∃ y_ : List Int, y_ = (([3, 7] : List Int)) := ⟨_, rfl⟩
 replace H : ((some (([y393, (([2, 4] : List Int))] : List (List Int)) : List (List Int))).bind fun y399 => ((line_Speed.f k y399).bind fun bt402 => ((line_Eigen.f k y399).bind fun bt406 => ((line_Regime.f k y399).bind fun bt410 => (if bt402.2.2 = 0 then (if (bt402.1 == 9 && (bt402.2.1 == 2)) = true then (if bt406.2 = 0 then ((l5same.f k bt406.1 (([5, 0] : List Int))).bind fun t416 => (if t416 = true then (if bt410.2.2 = 0 then (some (bt410.1 == 2)) else (some false)) else (some false))) else (some false)) else (some false)) else (some false)))))) = some r := by rw [hy393]; exact H
 have Ny393 := xA.mk hy393
 clear hy393
 obtain ⟨y396, hy396⟩ : ∃ y_ : List Int, y_ = (([2, 4] : List Int)) := ⟨_, rfl⟩
 replace H : ((some (([y393, y396] : List (List Int)) : List (List Int))).bind fun y399 => ((line_Speed.f k y399).bind fun bt402 => ((line_Eigen.f k y399).bind fun bt406 => ((line_Regime.f k y399).bind fun bt410 => (if bt402.2.2 = 0 then (if (bt402.1 == 9 && (bt402.2.1 == 2)) = true then (if bt406.2 = 0 then ((l5same.f k bt406.1 (([5, 0] : List Int))).bind fun t416 => (if t416 = true then (if bt410.2.2 = 0 then (some (bt410.1 == 2)) else (some false)) else (some false))) else (some false)) else (some false)) else (some false)))))) = some r := by rw [hy396]; exact H
 have Ny396 := xA.mk hy396
 clear hy396
 obtain ⟨y399, hy399⟩ : ∃ y_ : List (List Int), y_ = (([y393, y396] : List (List Int))) := ⟨_, rfl⟩
 replace H : ((line_Speed.f k y399).bind fun bt402 => ((line_Eigen.f k y399).bind fun bt406 => ((line_Regime.f k y399).bind fun bt410 => (if bt402.2.2 = 0 then (if (bt402.1 == 9 && (bt402.2.1 == 2)) = true then (if bt406.2 = 0 then ((l5same.f k bt406.1 (([5, 0] : List Int))).bind fun t416 => (if t416 = true then (if bt410.2.2 = 0 then (some (bt410.1 == 2)) else (some false)) else (some false))) else (some false)) else (some false)) else (some false))))) = some r := by rw [hy399]; exact H
 have Ny399 := xA.mk hy399
 clear hy399
 replace H := qw H
 obtain ⟨⟨t402, t403, t404⟩, A10, H⟩ := H
 replace H : ((line_Eigen.f k y399).bind fun bt406 => ((line_Regime.f k y399).bind fun bt410 => (if t404 = 0 then (if (t402 == 9 && (t403 == 2)) = true then (if bt406.2 = 0 then ((l5same.f k bt406.1 (([5, 0] : List Int))).bind fun t416 => (if t416 = true then (if bt410.2.2 = 0 then (some (bt410.1 == 2)) else (some false)) else (some false))) else (some false)) else (some false)) else (some false)))) = some r := H
 have A1 := xA.mk A10
 clear A10
 replace H := qw H
 obtain ⟨⟨t406, t407⟩, A20, H⟩ := H
 replace H : ((line_Regime.f k y399).bind fun bt410 => (if t404 = 0 then (if (t402 == 9 && (t403 == 2)) = true then (if t407 = 0 then ((l5same.f k t406 (([5, 0] : List Int))).bind fun t416 => (if t416 = true then (if bt410.2.2 = 0 then (some (bt410.1 == 2)) else (some false)) else (some false))) else (some false)) else (some false)) else (some false))) = some r := H
 have A2 := xA.mk A20
 clear A20
 replace H := qw H
 obtain ⟨⟨t410, t411, t412⟩, A30, H⟩ := H
 replace H : (if t404 = 0 then (if (t402 == 9 && (t403 == 2)) = true then (if t407 = 0 then ((l5same.f k t406 (([5, 0] : List Int))).bind fun t416 => (if t416 = true then (if t412 = 0 then (some (t410 == 2)) else (some false)) else (some false))) else (some false)) else (some false)) else (some false)) = some r := H
 have A3 := xA.mk A30
 clear A30
 by_cases c4 : t404 = 0
 rotate_left
 ·
  rw [if_neg c4] at H
  have c4b0 : (t404 == 0) = false := jg c4
  exact absurd (H.trans (congrArg some hr_.out)) (by simp)
 rw [if_pos c4] at H
 have c4b0 : (t404 == 0) = true := beq_iff_eq.mpr c4
 clear c4
 by_cases c5 : (t402 == 9 && (t403 == 2)) = true
 rotate_left
 ·
  rw [if_neg c5] at H
  have c5b0 : (t402 == 9 && (t403 == 2)) = false := by simpa using c5
  (try (have c5b1 : decide (t402 = 9 && (t403 == 2)) = false := by simpa using c5))
  (try (have c5b2 : (t402 == 9 && (t403 == 2)) = false := by simpa using c5))
  (try (have c5b3 : ¬ (t402 = 9 && (t403 == 2)) := by simpa using c5))
  clear c5
  exact absurd (H.trans (congrArg some hr_.out)) (by simp)
 rw [if_pos c5] at H
 have c5b0 : (t402 == 9 && (t403 == 2)) = true := c5
 (try (have c5b1 : decide (t402 = 9 && (t403 == 2)) = true := by simpa using c5))
 (try (have c5b2 : (t402 == 9 && (t403 == 2)) = true := by simpa using c5))
 clear c5
 by_cases c6 : t407 = 0
 rotate_left
 ·
  rw [if_neg c6] at H
  have c6b0 : (t407 == 0) = false := jg c6
  exact absurd (H.trans (congrArg some hr_.out)) (by simp)
 rw [if_pos c6] at H
 have c6b0 : (t407 == 0) = true := beq_iff_eq.mpr c6
 clear c6
 obtain ⟨y413, hy413⟩ : ∃ y_ : List Int, y_ = (([5, 0] : List Int)) := ⟨_, rfl⟩
 replace H : ((l5same.f k t406 y413).bind fun t416 => (if t416 = true then (if t412 = 0 then (some (t410 == 2)) else (some false)) else (some false))) = some r := by first | (rw [hy413]; with_reducible exact H) | (have H2_ := (Option.bind_some _ _).symm.trans H; rw [hy413]; with_reducible exact H2_) | (have H2_ := (Option.bind_some _ _).symm.trans H; with_reducible exact H2_) | with_reducible exact H | (rw [hy413]; exact H) | exact H
 have Ny413 := xA.mk hy413
 clear hy413
 replace H := qw H
 obtain ⟨t416, A70, H⟩ := H
 replace H : (if t416 = true then (if t412 = 0 then (some (t410 == 2)) else (some false)) else (some false)) = some r := H
 have A7 := xA.mk A70
 clear A70
 by_cases c8 : t416 = true
 rotate_left
 ·
  replace c8 := Bool.eq_false_iff.mpr c8
  subst c8
  have H1 : (some false) = some r := by rw [if_neg (show ¬ (false = true) by decide)] at H; exact H
  clear H
  have H := H1
  clear H1
  exact absurd (H.trans (congrArg some hr_.out)) (by simp)
 subst c8
 have H1 : (if t412 = 0 then (some (t410 == 2)) else (some false)) = some r := by rw [if_pos rfl] at H; exact H
 clear H
 have H := H1
 clear H1
 obtain ⟨⟨c9b0, c9b1⟩, H⟩ | ⟨c9, ⟨c9b0, c9b1⟩, H⟩ := itn_or H
 rotate_left
 ·
  exact absurd (H.trans (congrArg some hr_.out)) (by simp)
 obtain rfl := qx H
 go_enter Try.func13, Try.ntmps13
 go_wp2_with (first | ((with_reducible refine xW (N := 9) rfl ?_); (try (refine gate_guard (by rfl) ?_; dsimp only)); refine Kd.R_lit (Kd.int .i64) _ 3 ?hg (N := 9) ?hd (xs := ([3, 7] : List Int)) (inner := [.int .i64 3, .int .i64 7]) (ok := fun _ => True) (okp := fun _ => True) ?hr ?hp (fun _ hk => hk) trivial (Below.refl _ _) (Nat.le_refl _) (by simp) ?_; (case hd => rfl); (case hg => rfl); (case hr => first | (go_simp; done) | (go_simp; rfl)); (case hp => exact (Reps.one (show Kd.M (Kd.int .i64) _ _ _ 3 [.int .i64 3] from rfl) (Reps.one (show Kd.M (Kd.int .i64) _ _ _ 7 [.int .i64 7] from rfl) (Reps.none _ _)))); intro v394 w10 ho11 hb hg_ hnew_; clear hg_ hnew_; (first | rw [← Ny393.out] at ho11 | (simp only [Int.reduceToNat] at ho11; rw [← Ny393.out] at ho11)); have HO395 := xA.mk (Kd.R_lower ho11 (xC qa)); replace HB := xA.mk (xE qa hb); clear hb ho11) | ((with_reducible refine xW (N := 10) rfl ?_); (try (refine gate_guard (by rfl) ?_; dsimp only)); refine Kd.R_lit (Kd.int .i64) _ 3 ?hg (N := 10) ?hd (xs := ([2, 4] : List Int)) (inner := [.int .i64 2, .int .i64 4]) (ok := fun _ => True) (okp := fun _ => True) ?hr ?hp (fun _ hk => hk) trivial (Below.refl _ _) (Nat.le_refl _) (by simp) ?_; (case hd => rfl); (case hg => rfl); (case hr => first | (go_simp; done) | (go_simp; rfl)); (case hp => exact (Reps.one (show Kd.M (Kd.int .i64) _ _ _ 2 [.int .i64 2] from rfl) (Reps.one (show Kd.M (Kd.int .i64) _ _ _ 4 [.int .i64 4] from rfl) (Reps.none _ _)))); intro v397 w12 ho13 hb hg_ hnew_; clear hg_ hnew_; (first | rw [← Ny396.out] at ho13 | (simp only [Int.reduceToNat] at ho13; rw [← Ny396.out] at ho13)); have HO398 := xA.mk (Kd.R_lower (Kd.R_new' ho13 (Kd.R_lt (qi HO395.out))) (xC qa)); replace HO395 := xA.mk (Kd.R_elder' (qi HO395.out) (Kd.R_base ho13) hb); replace HB := xA.mk (xE qa hb); clear hb ho13; obtain ⟨Ao14, co14, eo14⟩ := Kd.R_slice HO395.out; subst eo14; obtain ⟨Ao15, co15, eo15⟩ := Kd.R_slice HO398.out; subst eo15) | ((with_reducible refine xW (N := 11) rfl ?_); (try (refine gate_guard (by rfl) ?_; dsimp only)); refine Kd.N_lit (Kd.slice 3 (Kd.int .i64)) _ 26 ?hg (N' := 11) ?hd (xs := ([y393, y396] : List (List Int))) (inner := [.slice Ao14 y393.length co14, .slice Ao15 y396.length co15]) (ok := (fun _ => True)) (okp := (fun _ => True)) ?hr ?hp (fun _ hk => hk) ((show ∀ k_, w12.heap.size ≤ k_ → (fun _ => True) k_ from fun k_ hk => trivial) _ (Nat.le_refl _)) (Below.refl _ _) (Nat.le_refl _) (by simp) ?_; (case hd => rfl); (case hg => rfl); (case hr => first | (go_simp; done) | (go_simp; rfl)); (case hp => exact (Reps.one (show Kd.FK (Kd.slice 3 (Kd.int .i64)) _ _ y393 [.slice Ao14 y393.length co14] from (Kd.FK_slice_mk (Kd.yA (Kd.R_mono (ok' := (fun _ => True)) (HO395.out) (fun k_ hk => trivial))).2.1 (Kd.R_F (Kd.R_mono (ok' := (fun _ => True)) (HO395.out) (fun k_ hk => trivial))))) (Reps.one (show Kd.FK (Kd.slice 3 (Kd.int .i64)) _ _ y396 [.slice Ao15 y396.length co15] from (Kd.FK_slice_mk (Kd.yA (Kd.R_mono (ok' := (fun _ => True)) (HO398.out) (fun k_ hk => trivial))).2.1 (Kd.R_F (Kd.R_mono (ok' := (fun _ => True)) (HO398.out) (fun k_ hk => trivial))))) (Reps.none _ _)))); intro v400 w16 ho17 hb hg_ hnew_; clear hg_ hnew_; (first | rw [← Ny399.out] at ho17 | (simp only [Int.reduceToNat] at ho17; rw [← Ny399.out] at ho17)); have n0_ := xA.mk (Kd.N_lower ho17 (xC qa)); have n1_ := xA.mk (xE qa hb); clear HB; clear HO395; clear HO398; have HO401 := n0_; have HB := n1_; clear n0_ n1_; clear hb ho17; obtain ⟨Ao18, co18, eo18⟩ := Kd.N_slice HO401.out; subst eo18) | ((with_reducible refine xF (f := 22) rfl ?_); refine xM (some 14) rfl rfl Try.func22 jk rfl #[.slice Ao18 y399.length co18] rfl qc ?_; (with_reducible refine (line_Speed.calls k _ _ y399 t402 t403 t404 _ ?side1 ?side2 A1.out).mono ?_); (case side1 => exact qm (Kd.yB HO401.out).2.2); (case side2 => exact (Kd.yB HO401.out).2.1); rintro e w19 ⟨rfl, hb⟩; refine ⟨_, rfl, ?_⟩; replace HO401 := xA.mk (Kd.N_below (qk HO401.out) hb); replace HB := xA.mk (xE qa hb); (try clear hb); (try clear hb2); (try clear hk); (try clear hi)) | ((with_reducible refine xW (N := 2) rfl ?_); (try (refine gate_guard (by rfl) ?_; dsimp only)); refine xY ?hg (N := 2) ?hd (cs := #[.int .i64 0, .int .i64 0]) (t := 37) ?hr ?_; (case hd => rfl); (case hg => rfl); (case hr => first | (go_simp; done) | (go_simp; rfl)); intro gb405 hg w20 hbox hb; have n0_ := xA.mk (Kd.N_below (Kd.N_elderB (qk HO401.out) gb405 (Nat.le_of_eq hg.symm)) hb); have n1_ := xA.mk (xE qa hb); have n2_ := xA.mk (hbox); have n3_ := xA.mk ((by rw [hg]; exact (xC qa) : w.heap.size ≤ gb405)); have n4_ := xA.mk ((by rw [hg]; exact (xC qa) : w.heap.size ≤ gb405)); clear HO401; clear HB; have HO401 := n0_; have HB := n1_; have BK405 := n2_; have GW405 := n3_; have GE405 := n4_; clear n0_ n1_ n2_ n3_ n4_; clear hb hbox hg; have hcz21_0 : w20.cell? ⟨gb405, 0, none⟩ = some (.int .i64 0) := (xB BK405.out 0).trans rfl; have hcz21_1 : w20.cell? ⟨gb405, 1, none⟩ = some (.int .i64 0) := (xB BK405.out 1).trans rfl; have hfz21_0 := xD BK405.out 0; have hfz21_1 := xD BK405.out 1) | ((with_reducible refine xF (f := 15) rfl ?_); refine xM (some 19) rfl rfl Try.func15 jk rfl #[.slice Ao18 y399.length co18] rfl qc ?_; (with_reducible refine (line_Eigen.calls k _ _ y399 t406 t407 _ ?side1 ?side2 A2.out).mono ?_); (case side1 => refine (Kd.yB (e := 26) (base := w.heap.size) (ok := fun k_ => (True ∧ k_ ≠ gb405)) (n := y399.length) (c := co18) ?_).2.2; exact (by (with_reducible repeat (first | apply Kd.N_alloc | apply Kd.N_drewN | apply Kd.N_drew)); exact (Kd.N_mono (Kd.N_far (p := ⟨gb405, 1, none⟩) (Kd.N_far (p := ⟨gb405, 0, none⟩) (Kd.N_mono HO401.out (fun k_ hk => (⟨hk, hk.2⟩ : _ ∧ k_ ≠ gb405))) (fun _ hk => hk.2) (.int .i64 t402)) (fun _ hk => hk.2) (.int .i64 t403)) (fun _ h_ => h_.1)))); (case side2 => exact (Kd.yB HO401.out).2.1); rintro e w22 ⟨v408, rfl, ho0, hb⟩; refine ⟨_, rfl, ?_⟩; have n0_ := xA.mk (Kd.N_elder' (by (with_reducible repeat (first | apply Kd.N_alloc | apply Kd.N_drewN | apply Kd.N_drew)); exact (Kd.N_mono (Kd.N_far (p := ⟨gb405, 1, none⟩) (Kd.N_far (p := ⟨gb405, 0, none⟩) (Kd.N_mono HO401.out (fun k_ hk => (⟨hk, hk.2⟩ : _ ∧ k_ ≠ gb405))) (fun _ hk => hk.2) (.int .i64 t402)) (fun _ hk => hk.2) (.int .i64 t403)) (fun _ h_ => h_.1))) (Kd.R_base ho0) hb); have n1_ := xA.mk (Kd.R_lower ho0 (xC (qo GE405.out))); have n2_ := xA.mk (xN (g := gb405) (o := .cells #[.int .i64 t402, .int .i64 t403] 37 (0, 0)) (by (with_reducible repeat (first | refine xJ ?_ _ | refine xI ?_ | refine xH ?_ _)); refine xT (cs := #[.int .i64 t402, .int .i64 0]) ?_ 1 _ rfl; (with_reducible repeat (first | refine xJ ?_ _ | refine xI ?_ | refine xH ?_ _)); refine xT (cs := #[.int .i64 0, .int .i64 0]) ?_ 0 _ rfl; (with_reducible repeat (first | refine xJ ?_ _ | refine xI ?_ | refine xH ?_ _)); exact BK405.out) hb); have n3_ := xA.mk (xE (qo GE405.out) hb); clear HO401; clear BK405; clear HB; have HO401 := n0_; have HO409 := n1_; have BK405 := n2_; have HB := n3_; clear n0_ n1_ n2_ n3_; (try clear hb); (try clear hb2); (try clear hk); (try clear hi); (try clear ho0)) | ((with_reducible refine xF (f := 18) rfl ?_); refine xM (some 24) rfl rfl Try.func18 jk rfl #[.slice Ao18 y399.length co18] rfl qc ?_; (with_reducible refine (line_Regime.calls k _ _ y399 t410 t411 t412 _ ?side1 ?side2 A3.out).mono ?_); (case side1 => exact qm (Kd.yB HO401.out).2.2); (case side2 => exact (Kd.yB HO401.out).2.1); rintro e w23 ⟨rfl, hb⟩; refine ⟨_, rfl, ?_⟩; replace HO401 := xA.mk (Kd.N_below (qk HO401.out) hb); replace HO409 := xA.mk (Kd.R_below (qi HO409.out) hb); replace BK405 := xA.mk (xN (g := gb405) (o := .cells #[.int .i64 t402, .int .i64 t403] 37 (0, 0)) (qn BK405.out) hb); replace HB := xA.mk (xE (qo GE405.out) hb); (try clear hb); (try clear hb2); (try clear hk); (try clear hi); have hcz24_0 : w23.cell? ⟨gb405, 0, none⟩ = some (.int .i64 t402) := (xB BK405.out 0).trans rfl; have hcz24_1 : w23.cell? ⟨gb405, 1, none⟩ = some (.int .i64 t403) := (xB BK405.out 1).trans rfl; have hfz24_0 := xD BK405.out 0; have hfz24_1 := xD BK405.out 1) | ((with_reducible refine xW (N := 41) rfl ?_); (try (refine gate_guard (by rfl) ?_; dsimp only)); refine Kd.R_lit (Kd.int .i64) _ 3 ?hg (N := 41) ?hd (xs := ([5, 0] : List Int)) (inner := [.int .i64 5, .int .i64 0]) (ok := fun _ => True) (okp := fun _ => True) ?hr ?hp (fun _ hk => hk) trivial (Below.refl _ _) (Nat.le_refl _) (by simp) ?_; (case hd => rfl); (case hg => rfl); (case hr => first | (go_simp; done) | (go_simp; rfl)); (case hp => exact (Reps.one (show Kd.M (Kd.int .i64) _ _ _ 5 [.int .i64 5] from rfl) (Reps.one (show Kd.M (Kd.int .i64) _ _ _ 0 [.int .i64 0] from rfl) (Reps.none _ _)))); intro v414 w25 ho26 hb hg_ hnew_; clear hg_ hnew_; (first | rw [← Ny413.out] at ho26 | (simp only [Int.reduceToNat] at ho26; rw [← Ny413.out] at ho26)); replace HO401 := xA.mk (Kd.N_elder' (qk HO401.out) (Kd.R_base ho26) hb); have HO415 := xA.mk (Kd.R_lower (Kd.R_new' ho26 (Kd.R_lt (qi HO409.out))) (xC (qo GE405.out))); replace HO409 := xA.mk (Kd.R_elder' (qi HO409.out) (Kd.R_base ho26) hb); replace BK405 := xA.mk (xN (g := gb405) (o := .cells #[.int .i64 t402, .int .i64 t403] 37 (0, 0)) (qn BK405.out) hb); replace HB := xA.mk (xE (qo GE405.out) hb); clear hb ho26; obtain ⟨Ao27, co27, eo27⟩ := Kd.R_slice HO409.out; subst eo27; obtain ⟨Ao28, co28, eo28⟩ := Kd.R_slice HO415.out; subst eo28) | (go_at_call 17; (with_reducible refine (l5same.calls k _ _ t406 _ _ y413 true _ ?side1 ?side2 ?side3 ?side4 A7.out).mono ?_); (case side1 => exact qm (Kd.yA HO409.out).2.2); (case side2 => exact (Kd.yA HO409.out).2.1); (case side3 => exact qm (Kd.yA HO415.out).2.2); (case side4 => exact (Kd.yA HO415.out).2.1); rintro e w' ⟨rfl, ⟨nd, rfl⟩⟩))
 go_ret
 exact ⟨qg, qo GE405.out⟩
set_option maxRecDepth 100000 in
theorem l5alive.yes : ∀ k r, l5alive.f k = some r → r = true := by
 intro k r h
 have h1 : l5alive.f 100 = some true := by decide +kernel
 have h2 := at_rounds l5alive.mono (Nat.le_max_left k 100) h
 have h3 := at_rounds l5alive.mono (Nat.le_max_right k 100) h1
 exact qx (h2.symm.trans h3)
theorem l5alive.calls (k : Nat)  (r : Bool) (w : World) (h : l5alive.f k  = some r) :
  Calls Try.prog 13 #[] w fun e w' => e = .returned (.bool r) ∧ Below w.heap.size w w' := l5alive.callsT k r w h ⟨l5alive.yes k r h⟩
end
def l5copied.l0 : Nat → List (List Int) → List (List Int) → Int → Option ((List (List Int)))
 | 0, _, _, _ => none
 | k + 1, x0, x3, x4 => if x4 < (x0.length : Int) then ((some (([] : List Int) : List Int)).bind fun y417 => (if 0 ≤ x4 then (if y417.length + (rd_L1 x0 x4).length < 17592186044416 then (if x3.length < 5864062014805 then (l5copied.l0 k x0 (x3 ++ [(y417 ++ (rd_L1 x0 x4))]) (wrap64 (x4 + 1))) else (none)) else (none)) else (none))) else (some x3)
def l5copied.f (k : Nat) (l0 : List (List Int)) : Option ((List (List Int))) := l5copied.l0 k l0 ([] : List (List Int)) 0
theorem l5copied.calls (k : Nat) (A0 : Option Addr) (c0 : Nat) (l0 : List (List Int)) (r : List (List Int)) (w : World) (hr0 : Kd.C (Kd.slice 3 (Kd.int .i64)) w A0 l0.length l0) (hc0 : l0.length ≤ c0) (h : l5copied.f k l0 = some r) :
  Calls Try.prog 14 #[.slice A0 l0.length c0] w fun e w' => ∃ v0_ : Value, e = .returned (v0_) ∧ Kd.S (Kd.slice 3 (Kd.int .i64)) 26 w' w.heap.size (fun _ => True) v0_ r ∧ Below w.heap.size w w' := by
 have HR0 := xA.mk hr0
 have HC0 := xA.mk hc0
 clear hr0 hc0
 have HB := xA.mk (Below.refl w.heap.size w)
 have H : (l5copied.l0 k l0 ([] : List (List Int)) 0) = some r := h
 clear h
 have H' := xA.mk H
 clear H
 go_enter Try.func14, Try.ntmps14
 go_wp2
 go_loopg [3, 4] k (fun kq v3 v4 w' => ∃ (x3_1 : List (List Int)) (x4_1 : Int), v4 = .int .i64 x4_1 ∧ xA (l5copied.l0 kq l0 x3_1 x4_1 = some r) ∧ xA (kq ≤ k) ∧ xA (Kd.S (Kd.slice 3 (Kd.int .i64)) 26 w' w.heap.size (fun _ => True) v3 x3_1) ∧ xA (Below w.heap.size w w'))
 case atStart => exact ⟨(([] : List (List Int))), (0), rfl, H', ⟨Nat.le_refl _⟩, ⟨by first | exact Kd.S_nil _ _ _ _ _ | exact Kd.N_nil _ _ _ _ _ | exact Kd.V_nil _ _ _ _ _ | exact Kd.Q_nil _ _ _ _ _ | exact Kd.R_nil _ _ _ _ _⟩, ⟨HB.out⟩⟩
 case round =>
  clear H'
  obtain ⟨x3_1, x4_1, rfl, HA, HK1, HO_3, HB⟩ := hrel
  obtain _ | k1 := gk
  · exact absurd HA.out (by simp [l5copied.l0])
  have H := HA.out
  clear HA
  simp only [l5copied.l0] at H
  obtain ⟨c2b0, H⟩ | ⟨c2b0, H⟩ := itd_or H
  rotate_left
  ·
   obtain rfl := qx H
   go_wp2
   go_ret
   exact ⟨_, rfl, by exact HO_3.out, HB.out⟩
  obtain ⟨y417, hy417⟩ : ∃ y_ : List Int, y_ = (([] : List Int)) := ⟨_, rfl⟩
  replace H : (if 0 ≤ x4_1 then (if y417.length + (rd_L1 l0 x4_1).length < 17592186044416 then (if x3_1.length < 5864062014805 then (l5copied.l0 k1 l0 (x3_1 ++ [(y417 ++ (rd_L1 l0 x4_1))]) (wrap64 (x4_1 + 1))) else (none)) else (none)) else (none)) = some r := by rw [hy417]; exact H
  have Ny417 := xA.mk hy417
  clear hy417
  obtain ⟨c3b0, H⟩ := xK H
  obtain ⟨c4, H⟩ := ite_some H
  have LMc4 := xA.mk c4
  clear c4
  obtain ⟨y421, hy421⟩ : ∃ y_ : List Int, y_ = (y417 ++ (rd_L1 l0 x4_1)) := ⟨_, rfl⟩
  replace H : (if x3_1.length < 5864062014805 then (l5copied.l0 k1 l0 (x3_1 ++ [y421]) (wrap64 (x4_1 + 1))) else (none)) = some r := by rw [hy421]; exact H
  have Ny421 := xA.mk hy421
  clear hy421
  obtain ⟨c5, H⟩ := ite_some H
  have LMc5 := xA.mk c5
  clear c5
  obtain ⟨y424, hy424⟩ : ∃ y_ : List (List Int), y_ = (x3_1 ++ [y421]) := ⟨_, rfl⟩
  replace H : (l5copied.l0 k1 l0 y424 (wrap64 (x4_1 + 1))) = some r := by rw [hy424]; exact H
  have Ny424 := xA.mk hy424
  clear hy424
  have H' := xA.mk H
  clear H
  go_wp2_with (first | ((with_reducible refine xW (N := 12) rfl ?_); refine Kd.R_lit (Kd.int .i64) _ 3 ?hg (N := 12) ?hd (xs := ([] : List Int)) (inner := []) (ok := fun _ => True) (okp := fun _ => True) ?hr ?hp (fun _ hk => hk) trivial (Below.refl _ _) (Nat.le_refl _) (by simp) ?_; (case hd => rfl); (case hg => rfl); (case hr => go_simp); (case hp => exact (Reps.none _ _)); intro v418 w6 ho7 hb hg_ hnew_; clear hg_ hnew_; (first | rw [← Ny417.out] at ho7 | (simp only [Int.reduceToNat] at ho7; rw [← Ny417.out] at ho7)); replace HO_3 := xA.mk (Kd.S_elder' (by exact HO_3.out) (Kd.R_base ho7) hb); have HO419 := xA.mk (Kd.R_lower ho7 (xC (HB.out))); replace HB := xA.mk (xE (HB.out) hb); clear hb ho7; have p420 : 0 ≤ (x4_1 : Int) := qq; have q420 : x4_1 < (l0.length : Int) := qq; obtain ⟨ad420, A420_0, c420_0, e420, hx420_0, hl420_0, hi420_0⟩ := at_L1 HR0.out x4_1 p420 q420; cases e420; replace hx420_0 := (HB.out.cell (World.block_lt_of_cell? w _ hx420_0)).trans hx420_0; have HR420_0 := xA.mk hi420_0; have HC420_0 := xA.mk hl420_0; clear hi420_0 hl420_0; replace p420 := eq_true p420; replace q420 := eq_true q420) | ((with_reducible refine gate_builtin (b := .append) (xs := #[.tmp 12, .tmp 16]) rfl ?_); at_builtin; refine Kd.R_append_rows (Kd.int .i64) (w0 := w) w.heap.size rfl (.tmp 12) (.tmp 16) 26 3 (.int .i64 0) 8 rfl Try.underlying26 info3 rfl (by decide) jj v418 y417 (rd_L1 l0 x4_1) _ _ _ (fun _ => True) (fun _ => False) rfl rfl ?aO ?aR (fun _ _ h => h) (fun _ h => h.elim) ?aF ?aB ?aS ?aL ?_; (case aR => repeat (first | exact (Kd.xR HR420_0.out HB.out))); (case aB => exact (HB.out)); (case aF => exact (fun _ _ => trivial)); (case aO => exact (by exact HO419.out)); (case aS => exact (xC (HB.out))); (case aL => have := LMc4.out; omega); intro v422 w8 ho hb hg hat; rw [← Ny421.out] at ho; have n0_ := xA.mk (Kd.S_after (ok := (fun _ => True)) (by exact HO_3.out) hg hat); have n1_ := xA.mk (hb); have n2_ := xA.mk (ho); clear HO_3; clear HB; clear HO419; have HO_3 := n0_; have HB := n1_; have HO423 := n2_; clear n0_ n1_ n2_; clear ho hb hg hat; obtain ⟨Ao10, co10, eo10⟩ := Kd.R_slice HO423.out; subst eo10) | ((with_reducible refine gate_builtin (b := .append) (xs := #[.tmp 11, .tmp 18]) rfl ?_); at_builtin; refine Kd.S_append (Kd.slice 3 (Kd.int .i64)) (w0 := w) w.heap.size rfl (.tmp 11) (.tmp 18) 22 26 (.slice none 0 0) 24 rfl Try.underlying22 info26 rfl (by decide) jj u3 x3_1 y421 [.slice Ao10 y421.length co10] (fun _ => True) (fun k_ => some k_ = (.slice Ao10 y421.length co10 : Value).ownBlock) rfl rfl ?aP (fun k_ hk_ => ((Kd.R_mono (ok' := fun k_ => ((fun _ => True)) k_ ∧ some k_ ≠ (u3 : Value).ownBlock) (Kd.R_apart' (HO423.out) (Kd.S_typed HO_3.out) (by decide)) (fun k_ hk => ⟨trivial, hk.2⟩))).1 k_ hk_.symm) ?aF ?aO ?aB ?aS ?aL ?_; (case aP => exact Kd.M_row (Kd.R_mono (Kd.R_tight rfl (Kd.R_mono (ok' := fun k_ => ((fun _ => True)) k_ ∧ some k_ ≠ (u3 : Value).ownBlock) (Kd.R_apart' (HO423.out) (Kd.S_typed HO_3.out) (by decide)) (fun k_ hk => ⟨trivial, hk.2⟩))) (fun _ h_ => h_))); (case aB => exact (HB.out)); (case aF => exact (fun _ _ => trivial)); (case aO => exact (by exact Kd.xU HO_3.out (fun k_ hk => ⟨trivial, fun e_ => hk.2 e_⟩))); (case aS => exact (xC (HB.out))); (case aL => have := LMc5.out; omega); intro v425 w9 ho hb hg hat; rw [← Ny424.out] at ho; have n0_ := xA.mk (hb); have n1_ := xA.mk (ho); clear HB; clear HO_3; clear HO423; have HB := n0_; have HO426 := n1_; clear n0_ n1_; clear ho hb hg hat))
  go_roundg k1
  case measure => have := HK1.out; omega
  case rel => exact ⟨(y424), (wrap64 (x4_1 + 1)), rfl, H', ⟨by have := HK1.out; omega⟩, ⟨by exact HO426.out⟩, ⟨HB.out⟩⟩
mutual
def r5Matrix.j0 : Nat → List (List Int) → Int → Bool → Option (Bool)
 | 0, _, _, _ => none
 | k + 1, x0, x3, x13 => if x13 = true then (some false) else (r5Matrix.l0 k x0 x3 0)
def r5Matrix.l0 : Nat → List (List Int) → Int → Int → Option (Bool)
 | 0, _, _, _ => none
 | k + 1, x0, x3, x4 => if x4 < x3 then (if 0 ≤ x4 then (if x4 < (x0.length : Int) then (if ((rd_L1 x0 x4).length : Int) = x3 then (r5Matrix.l1 k x0 x3 x4 0) else (some false)) else (none)) else (none)) else (some true)
def r5Matrix.l1 : Nat → List (List Int) → Int → Int → Int → Option (Bool)
 | 0, _, _, _, _ => none
 | k + 1, x0, x3, x4, x5 => if x5 < x3 then (if 0 ≤ x4 then (if x4 < (x0.length : Int) then (if 0 ≤ x5 then (if x5 < ((rd_L1 x0 x4).length : Int) then (if (rd (rd_L1 x0 x4) x5) = (-1152921504606846976) then (r5Matrix.l1 k x0 x3 x4 (wrap64 (x5 + 1))) else (if (rd (rd_L1 x0 x4) x5) < (-1000) then (some false) else (if (rd (rd_L1 x0 x4) x5) > 1000 then (some false) else (r5Matrix.l1 k x0 x3 x4 (wrap64 (x5 + 1)))))) else (none)) else (none)) else (none)) else (none)) else (r5Matrix.l0 k x0 x3 (wrap64 (x4 + 1)))
end
def r5Matrix.f (k : Nat) (l0 : List (List Int)) : Option (Bool) := if (l0.length : Int) < 1 then (r5Matrix.j0 k l0 (l0.length : Int) true) else (r5Matrix.j0 k l0 (l0.length : Int) (decide ((l0.length : Int) > 6)))
theorem r5Matrix.calls (k : Nat) (A0 : Option Addr) (c0 : Nat) (l0 : List (List Int)) (r : Bool) (w : World) (hr0 : Kd.C (Kd.slice 3 (Kd.int .i64)) w A0 l0.length l0) (hc0 : l0.length ≤ c0) (h : r5Matrix.f k l0 = some r) :
  Calls Try.prog 49 #[.slice A0 l0.length c0] w fun e w' => e = .returned (.bool r) ∧ Drawn0 w w' := by
 have HR0 := xA.mk hr0
 have HC0 := xA.mk hc0
 clear hr0 hc0
 have H : (if (l0.length : Int) < 1 then (r5Matrix.j0 k l0 (l0.length : Int) true) else (r5Matrix.j0 k l0 (l0.length : Int) (decide ((l0.length : Int) > 6)))) = some r := h
 clear h
 have HC2 := xA.mk H
 clear H
 go_enter Try.func49, Try.ntmps49
 go_upto_region 2 with (fail)
 go_cut [13] (fun v13 wc => ∃ (kq : Nat) (x13_1 : Bool), v13 = .bool x13_1 ∧ xA (r5Matrix.j0 kq l0 (l0.length : Int) x13_1 = some r) ∧ xA (kq ≤ k) ∧ Drawn0 w wc)
 case first =>
  have H := HC2.out
  clear HC2
  obtain ⟨c3b0, H⟩ | ⟨c3b0, H⟩ := itd_or H
  rotate_left
  ·
   (first | rw [c3b0] | skip)
   have H' := xA.mk H
   clear H
   go_wp2
   go_meet
   case rel => exact ⟨_, (decide ((l0.length : Int) > 6)), rfl, H', ⟨by first | omega | exact Nat.le_refl _⟩, qe⟩
  (first | rw [c3b0] | skip)
  have H' := xA.mk H
  clear H
  go_wp2
  go_meet
  case rel => exact ⟨_, (true), rfl, H', ⟨by first | omega | exact Nat.le_refl _⟩, qe⟩
 case rest =>
  clear HC2
  obtain ⟨kq, x13_1, rfl, HA, HJ1, ⟨mc1, rfl⟩⟩ := hcut
  obtain _ | kj1 := kq
  · exact absurd HA.out (by simp [r5Matrix.j0])
  have H := HA.out
  clear HA
  simp only [r5Matrix.j0] at H
  by_cases c4 : x13_1 = true
  ·
   subst c4
   have H1 : (some false) = some r := by rw [if_pos rfl] at H; exact H
   clear H
   have H := H1
   clear H1
   obtain rfl := qx H
   go_wp2
   go_ret
   exact ⟨qf, qe⟩
  replace c4 := Bool.eq_false_iff.mpr c4
  subst c4
  have H1 : (r5Matrix.l0 kj1 l0 (l0.length : Int) 0) = some r := by rw [if_neg (show ¬ (false = true) by decide)] at H; exact H
  clear H
  have H := H1
  clear H1
  have H' := xA.mk H
  clear H
  go_wp2
  go_loopg [4] kj1 (fun kq v4 w' => ∃ (x4_2 : Int), v4 = .int .i64 x4_2 ∧ xA (r5Matrix.l0 kq l0 (l0.length : Int) x4_2 = some r) ∧ xA (kq ≤ kj1) ∧ Drawn0 w w')
  case atStart => exact ⟨(0), rfl, H', ⟨Nat.le_refl _⟩, qe⟩
  case round =>
   clear H'
   obtain ⟨x4_2, rfl, HA, HK2, ⟨m2, rfl⟩⟩ := hrel
   obtain _ | k2 := gk
   · exact absurd HA.out (by simp [r5Matrix.l0])
   have H := HA.out
   clear HA
   simp only [r5Matrix.l0] at H
   obtain ⟨c5b0, H⟩ | ⟨c5b0, H⟩ := itd_or H
   rotate_left
   ·
    obtain rfl := qx H
    go_wp2
    go_ret
    exact ⟨qf, qe⟩
   obtain ⟨c6b0, H⟩ := xK H
   obtain ⟨c7b0, H⟩ := xK H
   by_cases c8 : ((rd_L1 l0 x4_2).length : Int) = (l0.length : Int)
   rotate_left
   ·
    rw [if_neg c8] at H
    have c8b0 : (((rd_L1 l0 x4_2).length : Int) == (l0.length : Int)) = false := jg c8
    have c8b2 : ((rd_L1 l0 x4_2).length == l0.length) = false := by first | simpa using c8 | (simp at c8 ⊢; omega)
    obtain rfl := qx H
    have p427 : 0 ≤ (x4_2 : Int) := qq
    have q427 : x4_2 < (l0.length : Int) := qq
    obtain ⟨ad427, A427_0, c427_0, e427, hx427_0, hl427_0, hi427_0⟩ := at_L1 HR0.out x4_2 p427 q427
    cases e427
    have HR427_0 := xA.mk hi427_0
    have HC427_0 := xA.mk hl427_0
    clear hi427_0 hl427_0
    replace p427 := eq_true p427
    replace q427 := eq_true q427
    go_wp2
    go_ret
    exact ⟨qf, qe⟩
   rw [if_pos c8] at H
   have c8b0 : (((rd_L1 l0 x4_2).length : Int) == (l0.length : Int)) = true := beq_iff_eq.mpr c8
   have c8b1 : (((rd_L1 l0 x4_2).length : Int) != (l0.length : Int)) = false := bne_eq_false_iff_eq.mpr c8
   have c8b2 : ((rd_L1 l0 x4_2).length == l0.length) = true := by first | simpa using c8 | (simp at c8 ⊢; omega)
   clear c8
   have H' := xA.mk H
   clear H
   have p427 : 0 ≤ (x4_2 : Int) := qr
   have q427 : x4_2 < (l0.length : Int) := qr
   obtain ⟨ad427, A427_0, c427_0, e427, hx427_0, hl427_0, hi427_0⟩ := at_L1 HR0.out x4_2 p427 q427
   cases e427
   have HR427_0 := xA.mk hi427_0
   have HC427_0 := xA.mk hl427_0
   clear hi427_0 hl427_0
   replace p427 := eq_true p427
   replace q427 := eq_true q427
   go_wp2
   go_loopg [5] k2 (fun kq v5 w' => ∃ (x5_3 : Int), v5 = .int .i64 x5_3 ∧ xA (r5Matrix.l1 kq l0 (l0.length : Int) x4_2 x5_3 = some r) ∧ xA (kq ≤ k2) ∧ Drawn0 w w')
   case atStart => exact ⟨(0), qf, H', ⟨Nat.le_refl _⟩, qe⟩
   case round =>
    clear H'
    try clear c1
    try clear p2
    try clear c3
    try clear c3b0
    try clear c3b1
    try clear c4
    try clear p4
    try clear q4
    try clear hx4
    try clear c5
    try clear c5b0
    try clear c6
    try clear c6b0
    try clear c7
    try clear c7b0
    try clear c8
    try clear c8b0
    try clear c8b1
    try clear c8b2
    try clear hx427_0
    try clear p2
    try clear p427
    try clear q427
    obtain ⟨x5_3, rfl, HA, HK3, ⟨m3, rfl⟩⟩ := hrel
    obtain _ | k3 := gk
    · exact absurd HA.out (by simp [r5Matrix.l1])
    have H := HA.out
    clear HA
    simp only [r5Matrix.l1] at H
    obtain ⟨c9b0, H⟩ | ⟨c9b0, H⟩ := itd_or H
    rotate_left
    ·
     have H' := xA.mk H
     clear H
     go_wp2
     go_roundg k3
     case measure => have := HJ1.out; have := HK2.out; have := HK3.out; omega
     case rel => exact ⟨(wrap64 (x4_2 + 1)), rfl, H', ⟨by have := HJ1.out; have := HK2.out; have := HK3.out; omega⟩, qe⟩
    obtain ⟨c10b0, H⟩ := xK H
    obtain ⟨c11b0, H⟩ := xK H
    obtain ⟨c12b0, H⟩ := xK H
    obtain ⟨c13b0, H⟩ := xK H
    obtain ⟨⟨c14b0, c14b1⟩, H⟩ | ⟨c14, ⟨c14b0, c14b1⟩, H⟩ := itn_or H
    ·
     have H' := xA.mk H
     clear H
     have p428 : 0 ≤ (x4_2 : Int) := qr
     have q428 : x4_2 < (l0.length : Int) := qr
     obtain ⟨ad428, A428_0, c428_0, e428, hx428_0, hl428_0, hi428_0⟩ := at_L1 HR0.out x4_2 p428 q428
     obtain rfl : ad427 = ad428 := (by injection e428)
     have HR428_0 := xA.mk hi428_0
     have HC428_0 := xA.mk hl428_0
     clear hi428_0 hl428_0
     replace p428 := eq_true p428
     replace q428 := eq_true q428
     have p429 : 0 ≤ (x5_3 : Int) := qr
     have q429 : x5_3 < ((rd_L1 l0 x4_2).length : Int) := qr
     obtain ⟨ad429, e429, hx429_0⟩ := Kd.xX HR428_0.out x5_3 p429 q429
     cases e429
     replace p429 := eq_true p429
     replace q429 := eq_true q429
     go_wp2
     go_roundg k3
     case measure => have := HJ1.out; have := HK2.out; have := HK3.out; omega
     case rel => exact ⟨(wrap64 (x5_3 + 1)), qf, H', ⟨by have := HJ1.out; have := HK2.out; have := HK3.out; omega⟩, qe⟩
    obtain ⟨c15b0, H⟩ | ⟨c15b0, H⟩ := itd_or H
    ·
     obtain rfl := qx H
     have p428 : 0 ≤ (x4_2 : Int) := qr
     have q428 : x4_2 < (l0.length : Int) := qr
     obtain ⟨ad428, A428_0, c428_0, e428, hx428_0, hl428_0, hi428_0⟩ := at_L1 HR0.out x4_2 p428 q428
     obtain rfl : ad427 = ad428 := (by injection e428)
     have HR428_0 := xA.mk hi428_0
     have HC428_0 := xA.mk hl428_0
     clear hi428_0 hl428_0
     replace p428 := eq_true p428
     replace q428 := eq_true q428
     have p429 : 0 ≤ (x5_3 : Int) := qr
     have q429 : x5_3 < ((rd_L1 l0 x4_2).length : Int) := qr
     obtain ⟨ad429, e429, hx429_0⟩ := Kd.xX HR428_0.out x5_3 p429 q429
     cases e429
     replace p429 := eq_true p429
     replace q429 := eq_true q429
     have p430 : 0 ≤ (x4_2 : Int) := qr
     have q430 : x4_2 < (l0.length : Int) := qr
     obtain ⟨ad430, A430_0, c430_0, e430, hx430_0, hl430_0, hi430_0⟩ := at_L1 HR0.out x4_2 p430 q430
     obtain rfl : ad427 = ad430 := (by injection e430)
     have HR430_0 := xA.mk hi430_0
     have HC430_0 := xA.mk hl430_0
     clear hi430_0 hl430_0
     replace p430 := eq_true p430
     replace q430 := eq_true q430
     have ea_ := qx (hx428_0.symm.trans hx430_0)
     injection ea_ with ea_ en_ ec_
     subst ea_
     subst ec_
     clear en_
     have p431 : 0 ≤ (x5_3 : Int) := qr
     have q431 : x5_3 < ((rd_L1 l0 x4_2).length : Int) := qr
     obtain ⟨ad431, e431, hx431_0⟩ := Kd.xX HR430_0.out x5_3 p431 q431
     cases e431
     replace p431 := eq_true p431
     replace q431 := eq_true q431
     go_wp2
     go_ret
     exact ⟨qf, qe⟩
    by_cases c16 : (rd (rd_L1 l0 x4_2) x5_3) > 1000
    ·
     rw [if_pos c16] at H
     have c16b0 : decide (1000 < (rd (rd_L1 l0 x4_2) x5_3)) = true := qu c16
     clear c16
     obtain rfl := qx H
     have p428 : 0 ≤ (x4_2 : Int) := qr
     have q428 : x4_2 < (l0.length : Int) := qr
     obtain ⟨ad428, A428_0, c428_0, e428, hx428_0, hl428_0, hi428_0⟩ := at_L1 HR0.out x4_2 p428 q428
     obtain rfl : ad427 = ad428 := (by injection e428)
     have HR428_0 := xA.mk hi428_0
     have HC428_0 := xA.mk hl428_0
     clear hi428_0 hl428_0
     replace p428 := eq_true p428
     replace q428 := eq_true q428
     have p429 : 0 ≤ (x5_3 : Int) := qr
     have q429 : x5_3 < ((rd_L1 l0 x4_2).length : Int) := qr
     obtain ⟨ad429, e429, hx429_0⟩ := Kd.xX HR428_0.out x5_3 p429 q429
     cases e429
     replace p429 := eq_true p429
     replace q429 := eq_true q429
     have p430 : 0 ≤ (x4_2 : Int) := qr
     have q430 : x4_2 < (l0.length : Int) := qr
     obtain ⟨ad430, A430_0, c430_0, e430, hx430_0, hl430_0, hi430_0⟩ := at_L1 HR0.out x4_2 p430 q430
     obtain rfl : ad427 = ad430 := (by injection e430)
     have HR430_0 := xA.mk hi430_0
     have HC430_0 := xA.mk hl430_0
     clear hi430_0 hl430_0
     replace p430 := eq_true p430
     replace q430 := eq_true q430
     have ea_ := qx (hx428_0.symm.trans hx430_0)
     injection ea_ with ea_ en_ ec_
     subst ea_
     subst ec_
     clear en_
     have p431 : 0 ≤ (x5_3 : Int) := qr
     have q431 : x5_3 < ((rd_L1 l0 x4_2).length : Int) := qr
     obtain ⟨ad431, e431, hx431_0⟩ := Kd.xX HR430_0.out x5_3 p431 q431
     cases e431
     replace p431 := eq_true p431
     replace q431 := eq_true q431
     have p432 : 0 ≤ (x4_2 : Int) := qr
     have q432 : x4_2 < (l0.length : Int) := qr
     obtain ⟨ad432, A432_0, c432_0, e432, hx432_0, hl432_0, hi432_0⟩ := at_L1 HR0.out x4_2 p432 q432
     obtain rfl : ad427 = ad432 := (by injection e432)
     have HR432_0 := xA.mk hi432_0
     have HC432_0 := xA.mk hl432_0
     clear hi432_0 hl432_0
     replace p432 := eq_true p432
     replace q432 := eq_true q432
     have ea_ := qx (hx428_0.symm.trans hx432_0)
     injection ea_ with ea_ en_ ec_
     subst ea_
     subst ec_
     clear en_
     have p433 : 0 ≤ (x5_3 : Int) := qr
     have q433 : x5_3 < ((rd_L1 l0 x4_2).length : Int) := qr
     obtain ⟨ad433, e433, hx433_0⟩ := Kd.xX HR432_0.out x5_3 p433 q433
     cases e433
     replace p433 := eq_true p433
     replace q433 := eq_true q433
     go_wp2
     go_ret
     exact ⟨qf, qe⟩
    rw [if_neg c16] at H
    have c16b0 : decide (1000 < (rd (rd_L1 l0 x4_2) x5_3)) = false := qv c16
    clear c16
    have H' := xA.mk H
    clear H
    have p428 : 0 ≤ (x4_2 : Int) := qr
    have q428 : x4_2 < (l0.length : Int) := qr
    obtain ⟨ad428, A428_0, c428_0, e428, hx428_0, hl428_0, hi428_0⟩ := at_L1 HR0.out x4_2 p428 q428
    obtain rfl : ad427 = ad428 := (by injection e428)
    have HR428_0 := xA.mk hi428_0
    have HC428_0 := xA.mk hl428_0
    clear hi428_0 hl428_0
    replace p428 := eq_true p428
    replace q428 := eq_true q428
    have p429 : 0 ≤ (x5_3 : Int) := qr
    have q429 : x5_3 < ((rd_L1 l0 x4_2).length : Int) := qr
    obtain ⟨ad429, e429, hx429_0⟩ := Kd.xX HR428_0.out x5_3 p429 q429
    cases e429
    replace p429 := eq_true p429
    replace q429 := eq_true q429
    have p430 : 0 ≤ (x4_2 : Int) := qr
    have q430 : x4_2 < (l0.length : Int) := qr
    obtain ⟨ad430, A430_0, c430_0, e430, hx430_0, hl430_0, hi430_0⟩ := at_L1 HR0.out x4_2 p430 q430
    obtain rfl : ad427 = ad430 := (by injection e430)
    have HR430_0 := xA.mk hi430_0
    have HC430_0 := xA.mk hl430_0
    clear hi430_0 hl430_0
    replace p430 := eq_true p430
    replace q430 := eq_true q430
    have ea_ := qx (hx428_0.symm.trans hx430_0)
    injection ea_ with ea_ en_ ec_
    subst ea_
    subst ec_
    clear en_
    have p431 : 0 ≤ (x5_3 : Int) := qr
    have q431 : x5_3 < ((rd_L1 l0 x4_2).length : Int) := qr
    obtain ⟨ad431, e431, hx431_0⟩ := Kd.xX HR430_0.out x5_3 p431 q431
    cases e431
    replace p431 := eq_true p431
    replace q431 := eq_true q431
    have p432 : 0 ≤ (x4_2 : Int) := qr
    have q432 : x4_2 < (l0.length : Int) := qr
    obtain ⟨ad432, A432_0, c432_0, e432, hx432_0, hl432_0, hi432_0⟩ := at_L1 HR0.out x4_2 p432 q432
    obtain rfl : ad427 = ad432 := (by injection e432)
    have HR432_0 := xA.mk hi432_0
    have HC432_0 := xA.mk hl432_0
    clear hi432_0 hl432_0
    replace p432 := eq_true p432
    replace q432 := eq_true q432
    have ea_ := qx (hx428_0.symm.trans hx432_0)
    injection ea_ with ea_ en_ ec_
    subst ea_
    subst ec_
    clear en_
    have p433 : 0 ≤ (x5_3 : Int) := qr
    have q433 : x5_3 < ((rd_L1 l0 x4_2).length : Int) := qr
    obtain ⟨ad433, e433, hx433_0⟩ := Kd.xX HR432_0.out x5_3 p433 q433
    cases e433
    replace p433 := eq_true p433
    replace q433 := eq_true q433
    go_wp2
    go_roundg k3
    case measure => have := HJ1.out; have := HK2.out; have := HK3.out; omega
    case rel => exact ⟨(wrap64 (x5_3 + 1)), qf, H', ⟨by have := HJ1.out; have := HK2.out; have := HK3.out; omega⟩, qe⟩
def r5has.l0 : Nat → List Int → Int → Int → Option (Bool)
 | 0, _, _, _ => none
 | k + 1, x0, x1, x5 => if x5 < (x0.length : Int) then (if 0 ≤ x5 then (if (rd x0 x5) = x1 then (some true) else (r5has.l0 k x0 x1 (wrap64 (x5 + 1)))) else (none)) else (some false)
def r5has.f (k : Nat) (l0 : List Int) (a1 : Int) : Option (Bool) := r5has.l0 k l0 a1 0
theorem r5has.calls (k : Nat) (A0 : Option Addr) (c0 : Nat) (l0 : List Int) (a1 : Int) (r : Bool) (w : World) (hr0 : Kd.C (Kd.int .i64) w A0 l0.length l0) (hc0 : l0.length ≤ c0) (h : r5has.f k l0 a1 = some r) :
  Calls Try.prog 85 #[.slice A0 l0.length c0, .int .i64 a1] w fun e w' => e = .returned (.bool r) ∧ Drawn0 w w' := by
 have HR0 := xA.mk hr0
 have HC0 := xA.mk hc0
 clear hr0 hc0
 have H : (r5has.l0 k l0 a1 0) = some r := h
 clear h
 have H' := xA.mk H
 clear H
 go_enter Try.func85, Try.ntmps85
 go_wp2
 go_loopg [5] k (fun kq v5 w' => ∃ (x5_1 : Int), v5 = .int .i64 x5_1 ∧ xA (r5has.l0 kq l0 a1 x5_1 = some r) ∧ xA (kq ≤ k) ∧ Drawn0 w w')
 case atStart => exact ⟨(0), rfl, H', ⟨Nat.le_refl _⟩, qe⟩
 case round =>
  clear H'
  obtain ⟨x5_1, rfl, HA, HK1, ⟨m1, rfl⟩⟩ := hrel
  obtain _ | k1 := gk
  · exact absurd HA.out (by simp [r5has.l0])
  have H := HA.out
  clear HA
  simp only [r5has.l0] at H
  obtain ⟨c3b0, H⟩ | ⟨c3b0, H⟩ := itd_or H
  rotate_left
  ·
   obtain rfl := qx H
   go_wp2
   go_ret
   exact ⟨qf, qe⟩
  obtain ⟨c4b0, H⟩ := xK H
  by_cases c5 : (rd l0 x5_1) = a1
  ·
   rw [if_pos c5] at H
   have c5b0 : ((rd l0 x5_1) == a1) = true := beq_iff_eq.mpr c5
   clear c5
   obtain rfl := qx H
   have p438 : 0 ≤ (x5_1 : Int) := qq
   have q438 : x5_1 < (l0.length : Int) := qq
   obtain ⟨ad438, e438, hx438_0⟩ := Kd.xX HR0.out x5_1 p438 q438
   cases e438
   replace p438 := eq_true p438
   replace q438 := eq_true q438
   go_wp2
   go_ret
   exact ⟨qf, qe⟩
  rw [if_neg c5] at H
  have c5b0 : ((rd l0 x5_1) == a1) = false := jg c5
  have H' := xA.mk H
  clear H
  have p438 : 0 ≤ (x5_1 : Int) := qq
  have q438 : x5_1 < (l0.length : Int) := qq
  obtain ⟨ad438, e438, hx438_0⟩ := Kd.xX HR0.out x5_1 p438 q438
  cases e438
  replace p438 := eq_true p438
  replace q438 := eq_true q438
  go_wp2
  go_roundg k1
  case measure => have := HK1.out; omega
  case rel => exact ⟨(wrap64 (x5_1 + 1)), rfl, H', ⟨by have := HK1.out; omega⟩, qe⟩
mutual
def r5cyclesFrom.l0 : Nat → List (List Int) → List Int → List (List Int) → Int → Int → Option ((List (List Int)))
 | 0, _, _, _, _, _ => none
 | k + 1, x0, x1, x5, x6, x7 => if x7 < (x0.length : Int) then (if 0 ≤ x7 then (if 0 ≤ x6 then (if x6 < ((rd_L1 x0 x7).length : Int) then (if (rd (rd_L1 x0 x7) x6) = (-1152921504606846976) then (r5cyclesFrom.l0 k x0 x1 x5 x6 (wrap64 (x7 + 1))) else (if ([] : List Int).length + x1.length < 17592186044416 then ((some (([] : List Int) ++ x1 : List Int)).bind fun y443 => (if 0 < (x1.length : Int) then (if x7 = (rd x1 0) then (if x5.length < 5864062014805 then (r5cyclesFrom.l0 k x0 x1 (x5 ++ [y443]) x6 (wrap64 (x7 + 1))) else (none)) else ((r5has.f k x1 x7).bind fun t450 => (if t450 = true then (r5cyclesFrom.l0 k x0 x1 x5 x6 (wrap64 (x7 + 1))) else (if y443.length < 17592186044416 then ((r5cyclesFrom.f k x0 (y443 ++ [x7])).bind fun t454 => (if x5.length + t454.length < 5864062014805 then (r5cyclesFrom.l0 k x0 x1 (x5 ++ t454) x6 (wrap64 (x7 + 1))) else (none))) else (none))))) else (none))) else (none))) else (none)) else (none)) else (none)) else (some x5)
def r5cyclesFrom.f : Nat → List (List Int) → List Int → Option ((List (List Int)))
 | 0, _, _ => none
 | k + 1, l0, l1 => if 0 ≤ (wrap64 ((l1.length : Int) - 1)) then (if (wrap64 ((l1.length : Int) - 1)) < (l1.length : Int) then (if 0 < (l1.length : Int) then (r5cyclesFrom.l0 k l0 l1 ([] : List (List Int)) (rd l1 (wrap64 ((l1.length : Int) - 1))) (rd l1 0)) else (none)) else (none)) else (none)
end
theorem r5cyclesFrom.calls (k : Nat) : ∀ (A0 : Option Addr) (c0 : Nat) (l0 : List (List Int)) (A1 : Option Addr) (c1 : Nat) (l1 : List Int) (r : List (List Int)) (w : World) (hr0 : Kd.C (Kd.slice 3 (Kd.int .i64)) w A0 l0.length l0) (hc0 : l0.length ≤ c0) (hr1 : Kd.C (Kd.int .i64) w A1 l1.length l1) (hc1 : l1.length ≤ c1) (h : r5cyclesFrom.f k l0 l1 = some r),
  Calls Try.prog 100 #[.slice A0 l0.length c0, .slice A1 l1.length c1] w fun e w' => ∃ v0_ : Value, e = .returned (v0_) ∧ Kd.N (Kd.slice 3 (Kd.int .i64)) 26 w' w.heap.size (fun k_ => (w.heap.size ≤ k_)) v0_ r ∧ Below w.heap.size w w' := by
 induction k using Nat.strongRecOn with
 | _ k ih =>
 intro A0 c0 l0 A1 c1 l1 r w hr0 hc0 hr1 hc1 h
 cases k with
 | zero => exact absurd h (by simp [r5cyclesFrom.f])
 | succ k =>
 simp only [r5cyclesFrom.f] at h
 have HR0 := xA.mk hr0
 have HC0 := xA.mk hc0
 clear hr0 hc0
 have HR1 := xA.mk hr1
 have HC1 := xA.mk hc1
 clear hr1 hc1
 have HB := xA.mk (Below.refl w.heap.size w)
 have H : (if 0 ≤ (wrap64 ((l1.length : Int) - 1)) then (if (wrap64 ((l1.length : Int) - 1)) < (l1.length : Int) then (if 0 < (l1.length : Int) then (r5cyclesFrom.l0 k l0 l1 ([] : List (List Int)) (rd l1 (wrap64 ((l1.length : Int) - 1))) (rd l1 0)) else (none)) else (none)) else (none)) = some r := h
 clear h
 obtain ⟨ji3, hji3⟩ : ∃ j_ : Int, (wrap64 ((l1.length : Int) - 1)) = j_ := ⟨_, rfl⟩
 replace H : (if 0 ≤ (ji3) then (if (ji3) < (l1.length : Int) then (if 0 < (l1.length : Int) then (r5cyclesFrom.l0 k l0 l1 ([] : List (List Int)) (rd l1 (ji3)) (rd l1 0)) else (none)) else (none)) else (none)) = some r := by first | (rw [hji3] at H; exact H) | (simp only [hji3] at H ⊢; exact H)
 have hji3w : (IntKind.i64.wrap ((l1.length : Int) - 1)) = ji3 := (i64_w _).trans hji3
 obtain ⟨c4b0, H⟩ := xK H
 obtain ⟨c5b0, H⟩ := xK H
 obtain ⟨c6b0, H⟩ := xK H
 have H' := xA.mk H
 clear H
 have p439 : 0 ≤ ((ji3) : Int) := qq
 have q439 : (ji3) < (l1.length : Int) := qq
 obtain ⟨ad439, e439, hx439_0⟩ := Kd.xX HR1.out (ji3) p439 q439
 cases e439
 replace p439 := eq_true p439
 replace q439 := eq_true q439
 have p440 : 0 ≤ (0 : Int) := jj
 have q440 : 0 < (l1.length : Int) := qq
 obtain ⟨ad440, e440, hx440_0⟩ := Kd.xX HR1.out 0 p440 q440
 obtain rfl : ad439 = ad440 := (by injection e440)
 have qi440 : (0 < l1.length) = True := eq_true jj
 (try rw [show ((0 : Int)).toNat = 0 from rfl] at hx440_0)
 (try rw [Addr.add_zero'] at hx440_0)
 replace p440 := eq_true p440
 replace q440 := eq_true q440
 go_enter Try.func100, Try.ntmps100
 go_wp2
 go_loopg [5, 7] k (fun kq v5 v7 w' => ∃ (x5_1 : List (List Int)) (x7_1 : Int), v7 = .int .i64 x7_1 ∧ xA (r5cyclesFrom.l0 kq l0 l1 x5_1 (rd l1 (ji3)) x7_1 = some r) ∧ xA (kq ≤ k) ∧ xA (Kd.N (Kd.slice 3 (Kd.int .i64)) 26 w' w.heap.size (fun k_ => (w.heap.size ≤ k_)) v5 x5_1) ∧ xA (Below w.heap.size w w'))
 case atStart => exact ⟨(([] : List (List Int))), (rd l1 0), rfl, H', ⟨Nat.le_refl _⟩, ⟨by first | exact Kd.S_nil _ _ _ _ _ | exact Kd.N_nil _ _ _ _ _ | exact Kd.V_nil _ _ _ _ _ | exact Kd.Q_nil _ _ _ _ _ | exact Kd.R_nil _ _ _ _ _⟩, ⟨HB.out⟩⟩
 case round =>
  clear H'
  obtain ⟨x5_1, x7_1, rfl, HA, HK1, HO_5, HB⟩ := hrel
  obtain _ | k1 := gk
  · exact absurd HA.out (by simp [r5cyclesFrom.l0])
  have H := HA.out
  clear HA
  simp only [r5cyclesFrom.l0] at H
  obtain ⟨c7b0, H⟩ | ⟨c7b0, H⟩ := itd_or H
  rotate_left
  ·
   obtain rfl := qx H
   go_wp2
   go_ret
   exact ⟨_, by first | rfl | (simp [errW_none, errW_some] <;> rfl) | (simp only [← hji3]; first | rfl | (simp [errW_none, errW_some] <;> rfl)) | (simp [*, errW_none, errW_some] <;> rfl), by exact HO_5.out, HB.out⟩
  obtain ⟨c8b0, H⟩ := xK H
  obtain ⟨c9b0, H⟩ := xK H
  obtain ⟨c10b0, H⟩ := xK H
  by_cases c11 : (rd (rd_L1 l0 x7_1) (rd l1 (ji3))) = (-1152921504606846976)
  ·
   rw [if_pos c11] at H
   have c11b0 : ((rd (rd_L1 l0 x7_1) (rd l1 (ji3))) == (-1152921504606846976)) = true := beq_iff_eq.mpr c11
   clear c11
   have H' := xA.mk H
   clear H
   have p441 : 0 ≤ (x7_1 : Int) := qq
   have q441 : x7_1 < (l0.length : Int) := qq
   obtain ⟨ad441, A441_0, c441_0, e441, hx441_0, hl441_0, hi441_0⟩ := at_L1 HR0.out x7_1 p441 q441
   cases e441
   replace hx441_0 := (HB.out.cell (World.block_lt_of_cell? w _ hx441_0)).trans hx441_0
   have HR441_0 := xA.mk hi441_0
   have HC441_0 := xA.mk hl441_0
   clear hi441_0 hl441_0
   replace p441 := eq_true p441
   replace q441 := eq_true q441
   have p442 : 0 ≤ ((rd l1 (ji3)) : Int) := qq
   have q442 : (rd l1 (ji3)) < ((rd_L1 l0 x7_1).length : Int) := qq
   obtain ⟨ad442, e442, hx442_0⟩ := Kd.xX HR441_0.out (rd l1 (ji3)) p442 q442
   cases e442
   replace hx442_0 := (HB.out.cell (World.block_lt_of_cell? w _ hx442_0)).trans hx442_0
   replace p442 := eq_true p442
   replace q442 := eq_true q442
   go_wp2
   go_roundg k1
   case measure => have := HK1.out; omega
   case rel => exact ⟨(x5_1), (wrap64 (x7_1 + 1)), rfl, H', ⟨by have := HK1.out; omega⟩, ⟨by exact HO_5.out⟩, ⟨HB.out⟩⟩
  rw [if_neg c11] at H
  have c11b0 : ((rd (rd_L1 l0 x7_1) (rd l1 (ji3))) == (-1152921504606846976)) = false := jg c11
  obtain ⟨c12, H⟩ := ite_some H
  have LMc12 := xA.mk c12
  clear c12
  obtain ⟨y443, hy443⟩ : ∃ y_ : List Int, y_ = (([] : List Int) ++ l1) := ⟨_, rfl⟩
  replace H : (if 0 < (l1.length : Int) then (if x7_1 = (rd l1 0) then (if x5_1.length < 5864062014805 then (r5cyclesFrom.l0 k1 l0 l1 (x5_1 ++ [y443]) (rd l1 (ji3)) (wrap64 (x7_1 + 1))) else (none)) else ((r5has.f k1 l1 x7_1).bind fun t450 => (if t450 = true then (r5cyclesFrom.l0 k1 l0 l1 x5_1 (rd l1 (ji3)) (wrap64 (x7_1 + 1))) else (if y443.length < 17592186044416 then ((r5cyclesFrom.f k1 l0 (y443 ++ [x7_1])).bind fun t454 => (if x5_1.length + t454.length < 5864062014805 then (r5cyclesFrom.l0 k1 l0 l1 (x5_1 ++ t454) (rd l1 (ji3)) (wrap64 (x7_1 + 1))) else (none))) else (none))))) else (none)) = some r := by rw [hy443]; exact H
  have Ny443 := xA.mk hy443
  clear hy443
  obtain ⟨c13b0, H⟩ := xK H
  by_cases c14 : x7_1 = (rd l1 0)
  ·
   rw [if_pos c14] at H
   have c14b0 : (x7_1 == (rd l1 0)) = true := beq_iff_eq.mpr c14
   clear c14
   obtain ⟨c15, H⟩ := ite_some H
   have LMc15 := xA.mk c15
   clear c15
   obtain ⟨y447, hy447⟩ : ∃ y_ : List (List Int), y_ = (x5_1 ++ [y443]) := ⟨_, rfl⟩
   replace H : (r5cyclesFrom.l0 k1 l0 l1 y447 (rd l1 (ji3)) (wrap64 (x7_1 + 1))) = some r := by rw [hy447]; exact H
   have Ny447 := xA.mk hy447
   clear hy447
   have H' := xA.mk H
   clear H
   have p441 : 0 ≤ (x7_1 : Int) := qq
   have q441 : x7_1 < (l0.length : Int) := qq
   obtain ⟨ad441, A441_0, c441_0, e441, hx441_0, hl441_0, hi441_0⟩ := at_L1 HR0.out x7_1 p441 q441
   cases e441
   replace hx441_0 := (HB.out.cell (World.block_lt_of_cell? w _ hx441_0)).trans hx441_0
   have HR441_0 := xA.mk hi441_0
   have HC441_0 := xA.mk hl441_0
   clear hi441_0 hl441_0
   replace p441 := eq_true p441
   replace q441 := eq_true q441
   have p442 : 0 ≤ ((rd l1 (ji3)) : Int) := qq
   have q442 : (rd l1 (ji3)) < ((rd_L1 l0 x7_1).length : Int) := qq
   obtain ⟨ad442, e442, hx442_0⟩ := Kd.xX HR441_0.out (rd l1 (ji3)) p442 q442
   cases e442
   replace hx442_0 := (HB.out.cell (World.block_lt_of_cell? w _ hx442_0)).trans hx442_0
   replace p442 := eq_true p442
   replace q442 := eq_true q442
   go_wp2_with (first | ((with_reducible refine gate_builtin (b := .append) (xs := #[.tmp 32, .tmp 33]) rfl ?_); at_builtin; refine Kd.R_append_rows (Kd.int .i64) (w0 := w) w.heap.size rfl (.tmp 32) (.tmp 33) 26 3 (.int .i64 0) 8 rfl Try.underlying26 info3 rfl (by decide) jj (.slice none 0 0) ([] : List Int) l1 _ _ _ (fun k_ => (w.heap.size ≤ k_)) (fun _ => False) rfl rfl ?aO ?aR (fun _ _ h => h) (fun _ h => h.elim) ?aF ?aB ?aS ?aL ?_; (case aR => repeat (first | exact (Kd.xR HR1.out HB.out))); (case aB => exact (HB.out)); (case aF => exact (fun k_ hk => (Nat.le_trans (xC (HB.out)) hk))); (case aO => exact ((Kd.R_nil _ _ _ _ (fun k_ => (w.heap.size ≤ k_))))); (case aS => exact (xC (HB.out))); (case aL => have := LMc12.out; omega); intro v444 w16 ho hb hg hat; rw [← Ny443.out] at ho; replace HO_5 := xA.mk (Kd.N_afterv (Kd.N_apart_nil (by exact HO_5.out)) hg hat); replace HB := xA.mk (hb); have HO445 := xA.mk (ho); clear ho hb hg hat; have p446 : 0 ≤ (0 : Int) := jj; have q446 : 0 < (l1.length : Int) := qq; obtain ⟨ad446, e446, hx446_0⟩ := Kd.xX HR1.out 0 p446 q446; obtain rfl : ad439 = ad446 := (by injection e446); have qi446 : (0 < l1.length) = True := eq_true jj; (try rw [show ((0 : Int)).toNat = 0 from rfl] at hx446_0); (try rw [Addr.add_zero'] at hx446_0); replace hx446_0 := (HB.out.cell (World.block_lt_of_cell? w _ hx446_0)).trans hx446_0; replace p446 := eq_true p446; replace q446 := eq_true q446; obtain ⟨Ao18, co18, eo18⟩ := Kd.R_slice HO445.out; subst eo18) | ((with_reducible refine gate_builtin (b := .append) (xs := #[.tmp 40, .tmp 42]) rfl ?_); at_builtin; refine Kd.N_append (Kd.slice 3 (Kd.int .i64)) (w0 := w) w.heap.size rfl (.tmp 40) (.tmp 42) 22 26 (.slice none 0 0) 24 rfl Try.underlying22 info26 rfl (by decide) jj u5 x5_1 y443 [.slice Ao18 y443.length co18] (fun k_ => (w.heap.size ≤ k_)) (fun k_ => ((fun k_ => (w.heap.size ≤ k_))) k_ ∧ some k_ ≠ (u5 : Value).ownBlock) rfl rfl ?aP (fun _ hk => hk) ?aF ?aO ?aB ?aS ?aL ?_; (case aP => exact (Kd.FK_slice_mk (Kd.yA (Kd.R_mono (ok' := (fun k_ => ((fun k_ => (w.heap.size ≤ k_))) k_ ∧ some k_ ≠ (u5 : Value).ownBlock)) (Kd.R_apart' (HO445.out) (Kd.N_typed HO_5.out) (by decide)) (fun k_ hk => ⟨hk.1, hk.2⟩))).2.1 (Kd.R_F (Kd.R_mono (ok' := (fun k_ => ((fun k_ => (w.heap.size ≤ k_))) k_ ∧ some k_ ≠ (u5 : Value).ownBlock)) (Kd.R_apart' (HO445.out) (Kd.N_typed HO_5.out) (by decide)) (fun k_ hk => ⟨hk.1, hk.2⟩))))); (case aB => exact (HB.out)); (case aF => exact (fun k_ hk => (Nat.le_trans (xC (HB.out)) hk))); (case aO => exact (by exact Kd.N_mono HO_5.out (fun _ hk => hk.1))); (case aS => exact (xC (HB.out))); (case aL => have := LMc15.out; omega); intro v448 w17 ho hb hg hat; rw [← Ny447.out] at ho; have n0_ := xA.mk (hb); have n1_ := xA.mk (ho); clear HB; clear HO_5; clear HO445; have HB := n0_; have HO449 := n1_; clear n0_ n1_; clear ho hb hg hat))
   go_roundg k1
   case measure => have := HK1.out; omega
   case rel => exact ⟨(y447), (wrap64 (x7_1 + 1)), rfl, H', ⟨by have := HK1.out; omega⟩, ⟨by exact HO449.out⟩, ⟨HB.out⟩⟩
  rw [if_neg c14] at H
  have c14b0 : (x7_1 == (rd l1 0)) = false := jg c14
  replace H := qw H
  obtain ⟨t450, A190, H⟩ := H
  replace H : (if t450 = true then (r5cyclesFrom.l0 k1 l0 l1 x5_1 (rd l1 (ji3)) (wrap64 (x7_1 + 1))) else (if y443.length < 17592186044416 then ((r5cyclesFrom.f k1 l0 (y443 ++ [x7_1])).bind fun t454 => (if x5_1.length + t454.length < 5864062014805 then (r5cyclesFrom.l0 k1 l0 l1 (x5_1 ++ t454) (rd l1 (ji3)) (wrap64 (x7_1 + 1))) else (none))) else (none))) = some r := H
  have A19 := xA.mk A190
  clear A190
  by_cases c20 : t450 = true
  ·
   subst c20
   have H1 : (r5cyclesFrom.l0 k1 l0 l1 x5_1 (rd l1 (ji3)) (wrap64 (x7_1 + 1))) = some r := by rw [if_pos rfl] at H; exact H
   clear H
   have H := H1
   clear H1
   have H' := xA.mk H
   clear H
   have p441 : 0 ≤ (x7_1 : Int) := qq
   have q441 : x7_1 < (l0.length : Int) := qq
   obtain ⟨ad441, A441_0, c441_0, e441, hx441_0, hl441_0, hi441_0⟩ := at_L1 HR0.out x7_1 p441 q441
   cases e441
   replace hx441_0 := (HB.out.cell (World.block_lt_of_cell? w _ hx441_0)).trans hx441_0
   have HR441_0 := xA.mk hi441_0
   have HC441_0 := xA.mk hl441_0
   clear hi441_0 hl441_0
   replace p441 := eq_true p441
   replace q441 := eq_true q441
   have p442 : 0 ≤ ((rd l1 (ji3)) : Int) := qq
   have q442 : (rd l1 (ji3)) < ((rd_L1 l0 x7_1).length : Int) := qq
   obtain ⟨ad442, e442, hx442_0⟩ := Kd.xX HR441_0.out (rd l1 (ji3)) p442 q442
   cases e442
   replace hx442_0 := (HB.out.cell (World.block_lt_of_cell? w _ hx442_0)).trans hx442_0
   replace p442 := eq_true p442
   replace q442 := eq_true q442
   go_wp2_with (first | ((with_reducible refine gate_builtin (b := .append) (xs := #[.tmp 32, .tmp 33]) rfl ?_); at_builtin; refine Kd.R_append_rows (Kd.int .i64) (w0 := w) w.heap.size rfl (.tmp 32) (.tmp 33) 26 3 (.int .i64 0) 8 rfl Try.underlying26 info3 rfl (by decide) jj (.slice none 0 0) ([] : List Int) l1 _ _ _ (fun k_ => (w.heap.size ≤ k_)) (fun _ => False) rfl rfl ?aO ?aR (fun _ _ h => h) (fun _ h => h.elim) ?aF ?aB ?aS ?aL ?_; (case aR => repeat (first | exact (Kd.xR HR1.out HB.out))); (case aB => exact (HB.out)); (case aF => exact (fun k_ hk => (Nat.le_trans (xC (HB.out)) hk))); (case aO => exact ((Kd.R_nil _ _ _ _ (fun k_ => (w.heap.size ≤ k_))))); (case aS => exact (xC (HB.out))); (case aL => have := LMc12.out; omega); intro v444 w21 ho hb hg hat; rw [← Ny443.out] at ho; replace HO_5 := xA.mk (Kd.N_afterv (Kd.N_apart_nil (by exact HO_5.out)) hg hat); replace HB := xA.mk (hb); have HO445 := xA.mk (ho); clear ho hb hg hat; have p446 : 0 ≤ (0 : Int) := jj; have q446 : 0 < (l1.length : Int) := qq; obtain ⟨ad446, e446, hx446_0⟩ := Kd.xX HR1.out 0 p446 q446; obtain rfl : ad439 = ad446 := (by injection e446); have qi446 : (0 < l1.length) = True := eq_true jj; (try rw [show ((0 : Int)).toNat = 0 from rfl] at hx446_0); (try rw [Addr.add_zero'] at hx446_0); replace hx446_0 := (HB.out.cell (World.block_lt_of_cell? w _ hx446_0)).trans hx446_0; replace p446 := eq_true p446; replace q446 := eq_true q446) | ((with_reducible refine xF (f := 85) rfl ?_); refine xM (some 46) rfl rfl Try.func85 jk rfl #[.slice (some ad439) l1.length c1, .int .i64 x7_1] rfl qd ?_; (with_reducible refine (r5has.calls k1 _ _ l1 x7_1 true _ ?side1 ?side2 A19.out).mono ?_); (case side1 => repeat (first | exact (Kd.xR HR1.out HB.out))); (case side2 => exact HC1.out); rintro e w' ⟨rfl, ⟨nd, rfl⟩⟩; refine ⟨_, rfl, ?_⟩))
   go_roundg k1
   case measure => have := HK1.out; omega
   case rel => exact ⟨(x5_1), (wrap64 (x7_1 + 1)), rfl, H', ⟨by have := HK1.out; omega⟩, ⟨by (with_reducible repeat (first | apply Kd.N_alloc | apply Kd.N_drewN | apply Kd.N_drew)); exact Kd.N_mono HO_5.out (fun _ hk => hk.1)⟩, ⟨qb⟩⟩
  replace c20 := Bool.eq_false_iff.mpr c20
  subst c20
  have H1 : (if y443.length < 17592186044416 then ((r5cyclesFrom.f k1 l0 (y443 ++ [x7_1])).bind fun t454 => (if x5_1.length + t454.length < 5864062014805 then (r5cyclesFrom.l0 k1 l0 l1 (x5_1 ++ t454) (rd l1 (ji3)) (wrap64 (x7_1 + 1))) else (none))) else (none)) = some r := by rw [if_neg (show ¬ (false = true) by decide)] at H; exact H
  clear H
  have H := H1
  clear H1
  obtain ⟨c22, H⟩ := ite_some H
  have LMc22 := xA.mk c22
  clear c22
  obtain ⟨y451, hy451⟩ : ∃ y_ : List Int, y_ = (y443 ++ [x7_1]) := ⟨_, rfl⟩
  replace H : ((r5cyclesFrom.f k1 l0 y451).bind fun t454 => (if x5_1.length + t454.length < 5864062014805 then (r5cyclesFrom.l0 k1 l0 l1 (x5_1 ++ t454) (rd l1 (ji3)) (wrap64 (x7_1 + 1))) else (none))) = some r := by rw [hy451]; exact H
  have Ny451 := xA.mk hy451
  clear hy451
  replace H := qw H
  obtain ⟨t454, A230, H⟩ := H
  replace H : (if x5_1.length + t454.length < 5864062014805 then (r5cyclesFrom.l0 k1 l0 l1 (x5_1 ++ t454) (rd l1 (ji3)) (wrap64 (x7_1 + 1))) else (none)) = some r := H
  have A23 := xA.mk A230
  clear A230
  obtain ⟨c24, H⟩ := ite_some H
  have LMc24 := xA.mk c24
  clear c24
  obtain ⟨y457, hy457⟩ : ∃ y_ : List (List Int), y_ = (x5_1 ++ t454) := ⟨_, rfl⟩
  replace H : (r5cyclesFrom.l0 k1 l0 l1 y457 (rd l1 (ji3)) (wrap64 (x7_1 + 1))) = some r := by first | (rw [hy457]; with_reducible exact H) | (have H2_ := (Option.bind_some _ _).symm.trans H; rw [hy457]; with_reducible exact H2_) | (have H2_ := (Option.bind_some _ _).symm.trans H; with_reducible exact H2_) | with_reducible exact H | (rw [hy457]; exact H) | exact H
  have Ny457 := xA.mk hy457
  clear hy457
  have H' := xA.mk H
  clear H
  have p441 : 0 ≤ (x7_1 : Int) := qr
  have q441 : x7_1 < (l0.length : Int) := qr
  obtain ⟨ad441, A441_0, c441_0, e441, hx441_0, hl441_0, hi441_0⟩ := at_L1 HR0.out x7_1 p441 q441
  cases e441
  replace hx441_0 := (HB.out.cell (World.block_lt_of_cell? w _ hx441_0)).trans hx441_0
  have HR441_0 := xA.mk hi441_0
  have HC441_0 := xA.mk hl441_0
  clear hi441_0 hl441_0
  replace p441 := eq_true p441
  replace q441 := eq_true q441
  have p442 : 0 ≤ ((rd l1 (ji3)) : Int) := qr
  have q442 : (rd l1 (ji3)) < ((rd_L1 l0 x7_1).length : Int) := qr
  obtain ⟨ad442, e442, hx442_0⟩ := Kd.xX HR441_0.out (rd l1 (ji3)) p442 q442
  cases e442
  replace hx442_0 := (HB.out.cell (World.block_lt_of_cell? w _ hx442_0)).trans hx442_0
  replace p442 := eq_true p442
  replace q442 := eq_true q442
  go_wp2_with (first | ((with_reducible refine gate_builtin (b := .append) (xs := #[.tmp 32, .tmp 33]) rfl ?_); at_builtin; refine Kd.R_append_rows (Kd.int .i64) (w0 := w) w.heap.size rfl (.tmp 32) (.tmp 33) 26 3 (.int .i64 0) 8 rfl Try.underlying26 info3 rfl (by decide) jj (.slice none 0 0) ([] : List Int) l1 _ _ _ (fun k_ => (w.heap.size ≤ k_)) (fun _ => False) rfl rfl ?aO ?aR (fun _ _ h => h) (fun _ h => h.elim) ?aF ?aB ?aS ?aL ?_; (case aR => exact qm (Kd.xR HR1.out HB.out)); (case aB => exact qa); (case aF => exact (fun k_ hk => (Nat.le_trans (xC qa) hk))); (case aO => exact ((Kd.R_nil _ _ _ _ (fun k_ => (w.heap.size ≤ k_))))); (case aS => exact (xC qa)); (case aL => have := LMc12.out; omega); intro v444 w25 ho hb hg hat; rw [← Ny443.out] at ho; replace HO_5 := xA.mk (Kd.N_afterv (Kd.N_apart_nil (qk HO_5.out)) hg hat); replace HB := xA.mk (hb); have HO445 := xA.mk (ho); clear ho hb hg hat; have p446 : 0 ≤ (0 : Int) := jj; have q446 : 0 < (l1.length : Int) := qr; obtain ⟨ad446, e446, hx446_0⟩ := Kd.xX HR1.out 0 p446 q446; obtain rfl : ad439 = ad446 := (by injection e446); have qi446 : (0 < l1.length) = True := eq_true jj; (try rw [show ((0 : Int)).toNat = 0 from rfl] at hx446_0); (try rw [Addr.add_zero'] at hx446_0); replace hx446_0 := (HB.out.cell (World.block_lt_of_cell? w _ hx446_0)).trans hx446_0; replace p446 := eq_true p446; replace q446 := eq_true q446) | ((with_reducible refine xF (f := 85) rfl ?_); refine xM (some 46) rfl rfl Try.func85 jk rfl #[.slice (some ad439) l1.length c1, .int .i64 x7_1] rfl qc ?_; (with_reducible refine (r5has.calls k1 _ _ l1 x7_1 false _ ?side1 ?side2 A19.out).mono ?_); (case side1 => exact qm (Kd.xR HR1.out HB.out)); (case side2 => exact HC1.out); rintro e w' ⟨rfl, ⟨nd, rfl⟩⟩; refine ⟨_, rfl, ?_⟩) | ((with_reducible refine gate_builtin (b := .append) (xs := #[.tmp 50, .tmp 52]) rfl ?_); at_builtin; refine Kd.R_append (Kd.int .i64) (w0 := w) w.heap.size rfl (.tmp 50) (.tmp 52) 26 3 (.int .i64 0) 8 rfl Try.underlying26 info3 rfl (by decide) jj v444 y443 x7_1 [.int .i64 x7_1] (fun k_ => (w.heap.size ≤ k_)) (fun _ => False) rfl rfl ?aP (fun _ hk => hk.elim) ?aF ?aO ?aB ?aS ?aL ?_; (case aP => exact rfl); (case aB => exact qa); (case aF => exact (fun k_ hk => (Nat.le_trans (xC qa) hk))); (case aO => exact (qi HO445.out)); (case aS => exact (xC qa)); (case aL => have := LMc22.out; omega); intro v452 w26 ho hb hg hat; rw [← Ny451.out] at ho; have n0_ := xA.mk (Kd.N_afterv (ok := (fun k_ => (w.heap.size ≤ k_))) (qk HO_5.out) hg hat); have n1_ := xA.mk (hb); have n2_ := xA.mk (ho); clear HO_5; clear HB; clear HO445; have HO_5 := n0_; have HB := n1_; have HO453 := n2_; clear n0_ n1_ n2_; clear ho hb hg hat; obtain ⟨Ao27, co27, eo27⟩ := Kd.R_slice HO453.out; subst eo27) | ((with_reducible refine xF (f := 100) rfl ?_); refine xM (some 54) rfl rfl Try.func100 jk rfl #[.slice (some ad441) l0.length c0, .slice Ao27 y451.length co27] rfl qc ?_; (with_reducible refine (ih k1 (by have := HK1.out; omega) _ _ l0 _ _ y451 t454 _ ?side1 ?side2 ?side3 ?side4 A23.out).mono ?_); (case side1 => exact qm (Kd.xR HR0.out HB.out)); (case side2 => exact HC0.out); (case side3 => exact qm (Kd.yA HO453.out).2.2); (case side4 => exact (Kd.yA HO453.out).2.1); rintro e w28 ⟨v455, rfl, ho0, hb⟩; refine ⟨_, rfl, ?_⟩; have HO456 := xA.mk (Kd.N_lower (Kd.N_mono (ok' := fun k_ => (w.heap.size ≤ k_) ∧ some k_ ≠ (u5 : Value).ownBlock ∧ some k_ ≠ (.slice Ao27 y451.length co27 : Value).ownBlock) ho0 (fun k_ hk_ => ⟨(Nat.le_trans (xC qa) hk_), (Kd.fresh' (Kd.N_lt (qk HO_5.out)) k_ hk_), (Kd.fresh' (Kd.R_lt (qi HO453.out)) k_ hk_)⟩)) (xC qa)); replace HO_5 := xA.mk (Kd.N_elder' (qk HO_5.out) (Kd.N_base ho0) hb); replace HO453 := xA.mk (Kd.R_below (qi HO453.out) hb); replace HB := xA.mk (xE qa hb); (try clear hb); (try clear hb2); (try clear hk); (try clear hi); (try clear ho0); obtain ⟨Ao30, co30, eo30⟩ := Kd.N_slice HO456.out; subst eo30) | ((with_reducible refine gate_builtin (b := .append) (xs := #[.tmp 48, .tmp 54]) rfl ?_); at_builtin; refine Kd.N_append_rows (Kd.slice 3 (Kd.int .i64)) (w0 := w) w.heap.size rfl (.tmp 48) (.tmp 54) 22 26 (.slice none 0 0) 24 rfl Try.underlying22 info26 rfl (by decide) jj u5 x5_1 t454 _ _ _ (fun k_ => (w.heap.size ≤ k_) ∧ some k_ ≠ (.slice Ao27 y451.length co27 : Value).ownBlock) (fun k_ => ((fun k_ => (w.heap.size ≤ k_) ∧ some k_ ≠ (.slice Ao27 y451.length co27 : Value).ownBlock)) k_ ∧ some k_ ≠ (u5 : Value).ownBlock) rfl rfl ?aO ?aR (fun _ hk => hk) ?aF ?aB ?aS ?aL ?_; (case aR => exact (by skip; exact Kd.N_F (Kd.N_mono (ok' := (fun k_ => ((fun k_ => (w.heap.size ≤ k_) ∧ some k_ ≠ (.slice Ao27 y451.length co27 : Value).ownBlock)) k_ ∧ some k_ ≠ (u5 : Value).ownBlock)) (HO456.out) (fun k_ hk => ⟨⟨hk.1, hk.2.2⟩, hk.2.1⟩)))); (case aB => exact qa); (case aF => exact (fun k_ hk => ⟨(Nat.le_trans (xC qa) hk), Kd.fresh' (Kd.R_lt (qi HO453.out)) k_ hk⟩)); (case aO => exact (by (with_reducible repeat (first | apply Kd.N_alloc | apply Kd.N_drewN | apply Kd.N_drew)); exact Kd.N_mono HO_5.out (fun _ hk => ⟨hk.1.1, hk.1.2⟩))); (case aS => exact (xC qa)); (case aL => have := LMc24.out; omega); intro v458 w29 ho hb hg hat; rw [← Ny457.out] at ho; have n0_ := xA.mk (Kd.R_over' (qi HO453.out) (Kd.N_typed (qk HO_5.out)) (by decide) hg); have n1_ := xA.mk (Kd.N_afterv (ok := (fun k_ => (w.heap.size ≤ k_) ∧ some k_ ≠ (.slice Ao27 y451.length co27 : Value).ownBlock)) (by (with_reducible repeat (first | apply Kd.N_alloc | apply Kd.N_drewN | apply Kd.N_drew)); exact Kd.N_mono HO456.out (fun _ hk => ⟨⟨hk.1, hk.2.2⟩, hk.2.1⟩)) hg hat); have n2_ := xA.mk (hb); have n3_ := xA.mk (ho); clear HO453; clear HO456; clear HB; clear HO_5; have HO453 := n0_; have HO456 := n1_; have HB := n2_; have HO459 := n3_; clear n0_ n1_ n2_ n3_; clear ho hb hg hat))
  go_roundg k1
  case measure => have := HK1.out; omega
  case rel => exact ⟨(y457), (wrap64 (x7_1 + 1)), qf, H', ⟨by have := HK1.out; omega⟩, ⟨by (with_reducible repeat (first | apply Kd.N_alloc | apply Kd.N_drewN | apply Kd.N_drew)); exact Kd.N_mono HO459.out (fun _ hk => hk.1)⟩, ⟨qa⟩⟩
def r5Cycles.l0 : Nat → List (List Int) → List (List Int) → Int → Option ((List (List Int)))
 | 0, _, _, _ => none
 | k + 1, x0, x3, x4 => if x4 < (x0.length : Int) then ((r5cyclesFrom.f k x0 (([x4] : List Int))).bind fun t463 => (if x3.length + t463.length < 5864062014805 then (r5Cycles.l0 k x0 (x3 ++ t463) (wrap64 (x4 + 1))) else (none))) else (some x3)
def r5Cycles.f (k : Nat) (l0 : List (List Int)) : Option ((List (List Int))) := r5Cycles.l0 k l0 ([] : List (List Int)) 0
theorem r5Cycles.calls (k : Nat) (A0 : Option Addr) (c0 : Nat) (l0 : List (List Int)) (r : List (List Int)) (w : World) (hr0 : Kd.C (Kd.slice 3 (Kd.int .i64)) w A0 l0.length l0) (hc0 : l0.length ≤ c0) (h : r5Cycles.f k l0 = some r) :
  Calls Try.prog 86 #[.slice A0 l0.length c0] w fun e w' => ∃ v0_ : Value, e = .returned (v0_) ∧ Kd.N (Kd.slice 3 (Kd.int .i64)) 26 w' w.heap.size (fun k_ => (w.heap.size ≤ k_)) v0_ r ∧ Below w.heap.size w w' := by
 have HR0 := xA.mk hr0
 have HC0 := xA.mk hc0
 clear hr0 hc0
 have HB := xA.mk (Below.refl w.heap.size w)
 have H : (r5Cycles.l0 k l0 ([] : List (List Int)) 0) = some r := h
 clear h
 have H' := xA.mk H
 clear H
 go_enter Try.func86, Try.ntmps86
 go_wp2
 go_loopg [3, 4] k (fun kq v3 v4 w' => ∃ (x3_1 : List (List Int)) (x4_1 : Int), v4 = .int .i64 x4_1 ∧ xA (r5Cycles.l0 kq l0 x3_1 x4_1 = some r) ∧ xA (kq ≤ k) ∧ xA (Kd.N (Kd.slice 3 (Kd.int .i64)) 26 w' w.heap.size (fun k_ => (w.heap.size ≤ k_)) v3 x3_1) ∧ xA (Below w.heap.size w w'))
 case atStart => exact ⟨(([] : List (List Int))), (0), rfl, H', ⟨Nat.le_refl _⟩, ⟨by first | exact Kd.S_nil _ _ _ _ _ | exact Kd.N_nil _ _ _ _ _ | exact Kd.V_nil _ _ _ _ _ | exact Kd.Q_nil _ _ _ _ _ | exact Kd.R_nil _ _ _ _ _⟩, ⟨HB.out⟩⟩
 case round =>
  clear H'
  obtain ⟨x3_1, x4_1, rfl, HA, HK1, HO_3, HB⟩ := hrel
  obtain _ | k1 := gk
  · exact absurd HA.out (by simp [r5Cycles.l0])
  have H := HA.out
  clear HA
  simp only [r5Cycles.l0] at H
  obtain ⟨c2b0, H⟩ | ⟨c2b0, H⟩ := itd_or H
  rotate_left
  ·
   obtain rfl := qx H
   go_wp2
   go_ret
   exact ⟨_, rfl, by exact HO_3.out, HB.out⟩
  obtain ⟨y460, hy460⟩ : ∃ y_ : List Int, y_ = (([x4_1] : List Int)) := ⟨_, rfl⟩
  replace H : ((r5cyclesFrom.f k1 l0 y460).bind fun t463 => (if x3_1.length + t463.length < 5864062014805 then (r5Cycles.l0 k1 l0 (x3_1 ++ t463) (wrap64 (x4_1 + 1))) else (none))) = some r := by rw [hy460]; exact H
  have Ny460 := xA.mk hy460
  clear hy460
  replace H := qw H
  obtain ⟨t463, A30, H⟩ := H
  replace H : (if x3_1.length + t463.length < 5864062014805 then (r5Cycles.l0 k1 l0 (x3_1 ++ t463) (wrap64 (x4_1 + 1))) else (none)) = some r := H
  have A3 := xA.mk A30
  clear A30
  obtain ⟨c4, H⟩ := ite_some H
  have LMc4 := xA.mk c4
  clear c4
  obtain ⟨y466, hy466⟩ : ∃ y_ : List (List Int), y_ = (x3_1 ++ t463) := ⟨_, rfl⟩
  replace H : (r5Cycles.l0 k1 l0 y466 (wrap64 (x4_1 + 1))) = some r := by rw [hy466]; exact H
  have Ny466 := xA.mk hy466
  clear hy466
  have H' := xA.mk H
  clear H
  go_wp2_with (first | ((with_reducible refine xW (N := 14) rfl ?_); refine Kd.R_lit (Kd.int .i64) _ 3 ?hg (N := 14) ?hd (xs := ([x4_1] : List Int)) (inner := [.int .i64 x4_1]) (ok := fun _ => True) (okp := fun _ => True) ?hr ?hp (fun _ hk => hk) trivial (Below.refl _ _) (Nat.le_refl _) (by simp) ?_; (case hd => rfl); (case hg => rfl); (case hr => go_simp); (case hp => exact (Reps.one (show Kd.M (Kd.int .i64) _ _ _ x4_1 [.int .i64 x4_1] from rfl) (Reps.none _ _))); intro v461 w5 ho6 hb hg_ hnew_; clear hg_ hnew_; (first | rw [← Ny460.out] at ho6 | (simp only [Int.reduceToNat] at ho6; rw [← Ny460.out] at ho6)); replace HO_3 := xA.mk (Kd.N_elder' (by exact HO_3.out) (Kd.R_base ho6) hb); have HO462 := xA.mk (Kd.R_lower (Kd.R_newM (M := fun k_ => (w.heap.size ≤ k_)) ho6 (xC (HB.out)) (fun k_ h_ => h_)) (xC (HB.out))); replace HB := xA.mk (xE (HB.out) hb); clear hb ho6; obtain ⟨Ao7, co7, eo7⟩ := Kd.R_slice HO462.out; subst eo7) | ((with_reducible refine xF (f := 100) rfl ?_); refine xM (some 15) rfl rfl Try.func100 jk rfl #[.slice A0 l0.length c0, .slice Ao7 y460.length co7] rfl qd ?_; (with_reducible refine (r5cyclesFrom.calls k1 _ _ l0 _ _ y460 t463 _ ?side1 ?side2 ?side3 ?side4 A3.out).mono ?_); (case side1 => repeat (first | exact (Kd.xR HR0.out HB.out))); (case side2 => exact HC0.out); (case side3 => repeat (first | exact (Kd.yA HO462.out).2.2)); (case side4 => exact (Kd.yA HO462.out).2.1); rintro e w8 ⟨v464, rfl, ho0, hb⟩; refine ⟨_, rfl, ?_⟩; have HO465 := xA.mk (Kd.N_lower (Kd.N_mono (ok' := fun k_ => (w.heap.size ≤ k_) ∧ some k_ ≠ (u3 : Value).ownBlock ∧ some k_ ≠ (.slice Ao7 y460.length co7 : Value).ownBlock) ho0 (fun k_ hk_ => ⟨(Nat.le_trans (xC (HB.out)) hk_), (Kd.fresh' (Kd.N_lt (by exact HO_3.out)) k_ hk_), (Kd.fresh' (Kd.R_lt (by exact HO462.out)) k_ hk_)⟩)) (xC (HB.out))); replace HO_3 := xA.mk (Kd.N_elder' (by exact HO_3.out) (Kd.N_base ho0) hb); replace HO462 := xA.mk (Kd.R_below (by exact HO462.out) hb); replace HB := xA.mk (xE (HB.out) hb); obtain ⟨Ao10, co10, eo10⟩ := Kd.N_slice HO465.out; subst eo10) | ((with_reducible refine gate_builtin (b := .append) (xs := #[.tmp 11, .tmp 15]) rfl ?_); at_builtin; refine Kd.N_append_rows (Kd.slice 3 (Kd.int .i64)) (w0 := w) w.heap.size rfl (.tmp 11) (.tmp 15) 22 26 (.slice none 0 0) 24 rfl Try.underlying22 info26 rfl (by decide) jj u3 x3_1 t463 _ _ _ (fun k_ => (w.heap.size ≤ k_) ∧ some k_ ≠ (.slice Ao7 y460.length co7 : Value).ownBlock) (fun k_ => ((fun k_ => (w.heap.size ≤ k_) ∧ some k_ ≠ (.slice Ao7 y460.length co7 : Value).ownBlock)) k_ ∧ some k_ ≠ (u3 : Value).ownBlock) rfl rfl ?aO ?aR (fun _ hk => hk) ?aF ?aB ?aS ?aL ?_; (case aR => exact (by skip; exact Kd.N_F (Kd.N_mono (ok' := (fun k_ => ((fun k_ => (w.heap.size ≤ k_) ∧ some k_ ≠ (.slice Ao7 y460.length co7 : Value).ownBlock)) k_ ∧ some k_ ≠ (u3 : Value).ownBlock)) (HO465.out) (fun k_ hk => ⟨⟨hk.1, hk.2.2⟩, hk.2.1⟩)))); (case aB => exact (HB.out)); (case aF => exact (fun k_ hk => ⟨(Nat.le_trans (xC (HB.out)) hk), Kd.fresh' (Kd.R_lt (by exact HO462.out)) k_ hk⟩)); (case aO => exact (by exact Kd.N_mono HO_3.out (fun _ hk => ⟨hk.1.1, hk.1.2⟩))); (case aS => exact (xC (HB.out))); (case aL => have := LMc4.out; omega); intro v467 w9 ho hb hg hat; rw [← Ny466.out] at ho; have n0_ := xA.mk (Kd.R_over' (by exact HO462.out) (Kd.N_typed (by exact HO_3.out)) (by decide) hg); have n1_ := xA.mk (Kd.N_afterv (ok := (fun k_ => (w.heap.size ≤ k_) ∧ some k_ ≠ (.slice Ao7 y460.length co7 : Value).ownBlock)) (by exact Kd.N_mono HO465.out (fun _ hk => ⟨⟨hk.1, hk.2.2⟩, hk.2.1⟩)) hg hat); have n2_ := xA.mk (hb); have n3_ := xA.mk (ho); clear HO462; clear HO465; clear HB; clear HO_3; have HO462 := n0_; have HO465 := n1_; have HB := n2_; have HO468 := n3_; clear n0_ n1_ n2_ n3_; clear ho hb hg hat))
  go_roundg k1
  case measure => have := HK1.out; omega
  case rel => exact ⟨(y466), (wrap64 (x4_1 + 1)), rfl, H', ⟨by have := HK1.out; omega⟩, ⟨by exact Kd.N_mono HO468.out (fun _ hk => hk.1)⟩, ⟨HB.out⟩⟩
theorem cyclesFrom_some : ∀ k, (∀ l0 l1 r, r5cyclesFrom.f k l0 l1 = some r → ∀ x ∈ r, x ≠ []) ∧ (∀ x0 x1 x5 x6 x7 r, x1 ≠ [] → (∀ x ∈ x5, x ≠ []) → r5cyclesFrom.l0 k x0 x1 x5 x6 x7 = some r → ∀ x ∈ r, x ≠ [])
 | 0 => ⟨fun _ _ _ h => by simp [r5cyclesFrom.f] at h, fun _ _ _ _ _ _ _ _ h => by simp [r5cyclesFrom.l0] at h⟩
 | k + 1 => by
  obtain ⟨ih1, ih2⟩ := cyclesFrom_some k
  have app : ∀ {a b : List (List Int)}, (∀ x ∈ a, x ≠ []) → (∀ x ∈ b, x ≠ []) → ∀ x ∈ a ++ b, x ≠ [] := by
   intro a b ha hb x hx
   rcases List.mem_append.1 hx with h | h
   ·
    exact ha x h
   ·
    exact hb x h
  refine ⟨fun l0 l1 r h => ?_, fun x0 x1 x5 x6 x7 r h1 h5 h => ?_⟩
  ·
   rw [r5cyclesFrom.f] at h
   split at h
   ·
    split at h
    ·
     split at h
     ·
      rename_i hp
      exact ih2 _ _ _ _ _ _ (fun e => by rw [e] at hp; simp at hp) (fun x hx => by cases hx) h
     ·
      cases h
    ·
     cases h
   ·
    cases h
  ·
   rw [r5cyclesFrom.l0] at h
   by_cases c1 : x7 < (x0.length : Int)
   ·
    rw [if_pos c1] at h
    by_cases c2 : 0 ≤ x7
    ·
     rw [if_pos c2] at h
     by_cases c3 : 0 ≤ x6
     ·
      rw [if_pos c3] at h
      by_cases c4 : x6 < ((rd_L1 x0 x7).length : Int)
      ·
       rw [if_pos c4] at h
       by_cases c5 : (rd (rd_L1 x0 x7) x6) = (-1152921504606846976)
       ·
        rw [if_pos c5] at h
        exact ih2 _ _ _ _ _ _ h1 h5 h
       ·
        rw [if_neg c5] at h
        by_cases c6 : ([] : List Int).length + x1.length < 17592186044416
        ·
         rw [if_pos c6, Option.bind_some] at h
         by_cases c7 : 0 < (x1.length : Int)
         ·
          rw [if_pos c7] at h
          by_cases c8 : x7 = (rd x1 0)
          ·
           rw [if_pos c8] at h
           by_cases c9 : x5.length < 5864062014805
           ·
            rw [if_pos c9] at h
            exact ih2 _ _ _ _ _ _ h1 (app h5 (fun x hx => by rw [List.mem_singleton.1 hx]; exact h1)) h
           ·
            rw [if_neg c9] at h; cases h
          ·
           rw [if_neg c8] at h
           obtain ⟨t, _, h⟩ := Option.bind_eq_some_iff.1 h
           by_cases c9 : t = true
           ·
            rw [if_pos c9] at h
            exact ih2 _ _ _ _ _ _ h1 h5 h
           ·
            rw [if_neg c9] at h
            by_cases c10 : (([] : List Int) ++ x1).length < 17592186044416
            ·
             rw [if_pos c10] at h
             obtain ⟨u, hu, h⟩ := Option.bind_eq_some_iff.1 h
             by_cases c11 : x5.length + u.length < 5864062014805
             ·
              rw [if_pos c11] at h
              exact ih2 _ _ _ _ _ _ h1 (app h5 (ih1 _ _ _ hu)) h
             ·
              rw [if_neg c11] at h; cases h
            ·
             rw [if_neg c10] at h; cases h
         ·
          rw [if_neg c7] at h; cases h
        ·
         rw [if_neg c6] at h; cases h
      ·
       rw [if_neg c4] at h; cases h
     ·
      rw [if_neg c3] at h; cases h
    ·
     rw [if_neg c2] at h; cases h
   ·
    rw [if_neg c1] at h
    obtain rfl := qx h
    exact h5
theorem Cycles_l0_some : ∀ k x0 x3 x4 r, (∀ x ∈ x3, x ≠ []) → r5Cycles.l0 k x0 x3 x4 = some r → ∀ x ∈ r, x ≠ []
 | 0, _, _, _, _, _, h => by simp [r5Cycles.l0] at h
 | k + 1, x0, x3, x4, r, h3, h => by
  simp only [r5Cycles.l0] at h
  split at h
  ·
   obtain ⟨t, ht, h⟩ := Option.bind_eq_some_iff.1 h
   split at h
   ·
    refine Cycles_l0_some k _ _ _ _ (fun x hx => ?_) h
    rcases List.mem_append.1 hx with h' | h'
    ·
     exact h3 x h'
    ·
     exact (cyclesFrom_some k).1 _ _ _ ht x h'
   ·
    cases h
  ·
   obtain rfl := qx h
   exact h3
theorem Cycles_row {k : Nat} {l r : List (List Int)} (h : r5Cycles.f k l = some r) (i : Int) (h0 : (0 ≤ i) = True) (h1 : (i < (r.length : Int)) = True) : ¬ rd_L1 r i = [] := by
 replace h0 := of_eq_true h0
 replace h1 := of_eq_true h1
 have hi : i.toNat < r.length := by omega
 have e : rd_L1 r i = r[i.toNat] := by
  show r.getD i.toNat [] = _
  rw [List.getD_eq_getElem?_getD, List.getElem?_eq_getElem hi]
  rfl
 rw [e]
 exact Cycles_l0_some k _ _ _ _ (fun x hx => by cases hx) h _ (List.getElem_mem hi)
def r5weight.l0 : Nat → List (List Int) → List Int → Int → Int → Option (Int)
 | 0, _, _, _, _ => none
 | k + 1, x0, x1, x5, x6 => if x6 < (x1.length : Int) then (if (x1.length : Int) = 0 then (none) else (if 0 ≤ (Int.tmod (wrap64 (x6 + 1)) (x1.length : Int)) then (if (Int.tmod (wrap64 (x6 + 1)) (x1.length : Int)) < (x1.length : Int) then (if 0 ≤ (rd x1 (Int.tmod (wrap64 (x6 + 1)) (x1.length : Int))) then (if (rd x1 (Int.tmod (wrap64 (x6 + 1)) (x1.length : Int))) < (x0.length : Int) then (if 0 ≤ x6 then (if 0 ≤ (rd x1 x6) then (if (rd x1 x6) < ((rd_L1 x0 (rd x1 (Int.tmod (wrap64 (x6 + 1)) (x1.length : Int)))).length : Int) then (r5weight.l0 k x0 x1 (wrap64 (x5 + (rd (rd_L1 x0 (rd x1 (Int.tmod (wrap64 (x6 + 1)) (x1.length : Int)))) (rd x1 x6)))) (wrap64 (x6 + 1))) else (none)) else (none)) else (none)) else (none)) else (none)) else (none)) else (none))) else (some x5)
def r5weight.f (k : Nat) (l0 : List (List Int)) (l1 : List Int) : Option (Int) := r5weight.l0 k l0 l1 0 0
theorem r5weight.calls (k : Nat) (A0 : Option Addr) (c0 : Nat) (l0 : List (List Int)) (A1 : Option Addr) (c1 : Nat) (l1 : List Int) (r : Int) (w : World) (hr0 : Kd.C (Kd.slice 3 (Kd.int .i64)) w A0 l0.length l0) (hc0 : l0.length ≤ c0) (hr1 : Kd.C (Kd.int .i64) w A1 l1.length l1) (hc1 : l1.length ≤ c1) (h : r5weight.f k l0 l1 = some r) :
  Calls Try.prog 73 #[.slice A0 l0.length c0, .slice A1 l1.length c1] w fun e w' => e = .returned (.int .i64 r) ∧ Drawn0 w w' := by
 have HR0 := xA.mk hr0
 have HC0 := xA.mk hc0
 clear hr0 hc0
 have HR1 := xA.mk hr1
 have HC1 := xA.mk hc1
 clear hr1 hc1
 have H : (r5weight.l0 k l0 l1 0 0) = some r := h
 clear h
 have H' := xA.mk H
 clear H
 go_enter Try.func73, Try.ntmps73
 go_wp2
 go_loopg [5, 6] k (fun kq v5 v6 w' => ∃ (x5_1 : Int) (x6_1 : Int), v5 = .int .i64 x5_1 ∧ v6 = .int .i64 x6_1 ∧ xA (r5weight.l0 kq l0 l1 x5_1 x6_1 = some r) ∧ xA (kq ≤ k) ∧ Drawn0 w w')
 case atStart => exact ⟨(0), (0), rfl, rfl, H', ⟨Nat.le_refl _⟩, qe⟩
 case round =>
  clear H'
  obtain ⟨x5_1, x6_1, rfl, rfl, HA, HK1, ⟨m1, rfl⟩⟩ := hrel
  obtain _ | k1 := gk
  · exact absurd HA.out (by simp [r5weight.l0])
  have H := HA.out
  clear HA
  simp only [r5weight.l0] at H
  obtain ⟨c3b0, H⟩ | ⟨c3b0, H⟩ := itd_or H
  rotate_left
  ·
   obtain rfl := qx H
   go_wp2
   go_ret
   exact ⟨qf, qe⟩
  by_cases c4 : (l1.length : Int) = 0
  ·
   rw [if_pos c4] at H
   exact absurd H (by simp)
  rw [if_neg c4] at H
  have c4b0 : ((l1.length : Int) == 0) = false := jg c4
  have c4b2 : ¬ (l1 = []) := fun h_ => c4 (by rw [h_]; rfl)
  obtain ⟨ji5, hji5⟩ : ∃ j_ : Int, (Int.tmod (wrap64 (x6_1 + 1)) (l1.length : Int)) = j_ := ⟨_, rfl⟩
  replace H : (if 0 ≤ (ji5) then (if (ji5) < (l1.length : Int) then (if 0 ≤ (rd l1 (ji5)) then (if (rd l1 (ji5)) < (l0.length : Int) then (if 0 ≤ x6_1 then (if 0 ≤ (rd l1 x6_1) then (if (rd l1 x6_1) < ((rd_L1 l0 (rd l1 (ji5))).length : Int) then (r5weight.l0 k1 l0 l1 (wrap64 (x5_1 + (rd (rd_L1 l0 (rd l1 (ji5))) (rd l1 x6_1)))) (wrap64 (x6_1 + 1))) else (none)) else (none)) else (none)) else (none)) else (none)) else (none)) else (none)) = some r := by first | (rw [hji5] at H; exact H) | (simp only [hji5] at H ⊢; exact H)
  obtain ⟨c6b0, H⟩ := xK H
  obtain ⟨c7b0, H⟩ := xK H
  obtain ⟨c8b0, H⟩ := xK H
  obtain ⟨c9b0, H⟩ := xK H
  obtain ⟨c10b0, H⟩ := xK H
  obtain ⟨c11b0, H⟩ := xK H
  obtain ⟨c12b0, H⟩ := xK H
  have H' := xA.mk H
  clear H
  have p434 : 0 ≤ ((ji5) : Int) := qq
  have q434 : (ji5) < (l1.length : Int) := qq
  obtain ⟨ad434, e434, hx434_0⟩ := Kd.xX HR1.out (ji5) p434 q434
  cases e434
  replace p434 := eq_true p434
  replace q434 := eq_true q434
  have p435 : 0 ≤ ((rd l1 (ji5)) : Int) := qq
  have q435 : (rd l1 (ji5)) < (l0.length : Int) := qq
  obtain ⟨ad435, A435_0, c435_0, e435, hx435_0, hl435_0, hi435_0⟩ := at_L1 HR0.out (rd l1 (ji5)) p435 q435
  cases e435
  have HR435_0 := xA.mk hi435_0
  have HC435_0 := xA.mk hl435_0
  clear hi435_0 hl435_0
  replace p435 := eq_true p435
  replace q435 := eq_true q435
  have p436 : 0 ≤ (x6_1 : Int) := qq
  have q436 : x6_1 < (l1.length : Int) := qq
  obtain ⟨ad436, e436, hx436_0⟩ := Kd.xX HR1.out x6_1 p436 q436
  obtain rfl : ad434 = ad436 := (by injection e436)
  replace p436 := eq_true p436
  replace q436 := eq_true q436
  have p437 : 0 ≤ ((rd l1 x6_1) : Int) := qq
  have q437 : (rd l1 x6_1) < ((rd_L1 l0 (rd l1 (ji5))).length : Int) := qq
  obtain ⟨ad437, e437, hx437_0⟩ := Kd.xX HR435_0.out (rd l1 x6_1) p437 q437
  cases e437
  replace p437 := eq_true p437
  replace q437 := eq_true q437
  go_wp2
  repeat (go_quiet (fail); try go_wp2)
  go_roundg k1
  case measure => have := HK1.out; omega
  case rel => exact ⟨(wrap64 (x5_1 + (rd (rd_L1 l0 (rd l1 (ji5))) (rd l1 x6_1)))), (wrap64 (x6_1 + 1)), (by first | rfl | (simp; done) | (simp only [← hji5] <;> (first | rfl | simp)) | (simp [*]; done)), rfl, H', ⟨by have := HK1.out; omega⟩, qe⟩
mutual
def r5less.l0 : Nat → List Int → List Int → Int → Option (Bool)
 | 0, _, _, _ => none
 | k + 1, x0, x1, x5 => if x5 < (x0.length : Int) then (r5less.j1 k x0 x1 x5 (decide (x5 < (x1.length : Int)))) else (r5less.j1 k x0 x1 x5 false)
def r5less.j1 : Nat → List Int → List Int → Int → Bool → Option (Bool)
 | 0, _, _, _, _ => none
 | k + 1, x0, x1, x5, x15 => if x15 = true then (if 0 ≤ x5 then (if x5 < (x0.length : Int) then (if x5 < (x1.length : Int) then (if (rd x0 x5) = (rd x1 x5) then (r5less.l0 k x0 x1 (wrap64 (x5 + 1))) else (some (decide ((rd x0 x5) < (rd x1 x5))))) else (none)) else (none)) else (none)) else (some (decide ((x0.length : Int) < (x1.length : Int))))
end
def r5less.f (k : Nat) (l0 : List Int) (l1 : List Int) : Option (Bool) := r5less.l0 k l0 l1 0
theorem r5less.calls (k : Nat) (A0 : Option Addr) (c0 : Nat) (l0 : List Int) (A1 : Option Addr) (c1 : Nat) (l1 : List Int) (r : Bool) (w : World) (hr0 : Kd.C (Kd.int .i64) w A0 l0.length l0) (hc0 : l0.length ≤ c0) (hr1 : Kd.C (Kd.int .i64) w A1 l1.length l1) (hc1 : l1.length ≤ c1) (h : r5less.f k l0 l1 = some r) :
  Calls Try.prog 94 #[.slice A0 l0.length c0, .slice A1 l1.length c1] w fun e w' => e = .returned (.bool r) ∧ Drawn0 w w' := by
 have HR0 := xA.mk hr0
 have HC0 := xA.mk hc0
 clear hr0 hc0
 have HR1 := xA.mk hr1
 have HC1 := xA.mk hc1
 clear hr1 hc1
 have H : (r5less.l0 k l0 l1 0) = some r := h
 clear h
 have H' := xA.mk H
 clear H
 go_enter Try.func94, Try.ntmps94
 go_wp2
 go_loopg [5] k (fun kq v5 w' => ∃ (x5_1 : Int), v5 = .int .i64 x5_1 ∧ xA (r5less.l0 kq l0 l1 x5_1 = some r) ∧ xA (kq ≤ k) ∧ Drawn0 w w')
 case atStart => exact ⟨(0), rfl, H', ⟨Nat.le_refl _⟩, qe⟩
 case round =>
  clear H'
  obtain ⟨x5_1, rfl, HA, HK1, ⟨m1, rfl⟩⟩ := hrel
  obtain _ | k1 := gk
  · exact absurd HA.out (by simp [r5less.l0])
  have H := HA.out
  clear HA
  simp only [r5less.l0] at H
  have HC3 := xA.mk H
  clear H
  go_upto_region 2 with (fail)
  go_cut [15] (fun v15 wc => ∃ (kq : Nat) (x15_2 : Bool), v15 = .bool x15_2 ∧ xA (r5less.j1 kq l0 l1 x5_1 x15_2 = some r) ∧ xA (kq ≤ k1) ∧ Drawn0 w wc)
  case first =>
   have H := HC3.out
   clear HC3
   obtain ⟨c4b0, H⟩ | ⟨c4b0, H⟩ := itd_or H
   rotate_left
   ·
    (first | rw [c4b0] | skip)
    have H' := xA.mk H
    clear H
    go_wp2
    go_meet
    case rel => exact ⟨_, (false), rfl, H', ⟨by have := HK1.out; first | omega | exact Nat.le_refl _⟩, qe⟩
   (first | rw [c4b0] | skip)
   have H' := xA.mk H
   clear H
   go_wp2
   go_meet
   case rel => exact ⟨_, (decide (x5_1 < (l1.length : Int))), rfl, H', ⟨by have := HK1.out; first | omega | exact Nat.le_refl _⟩, qe⟩
  case rest =>
   clear HC3
   obtain ⟨kq, x15_2, rfl, HA, HJ2, ⟨mc2, rfl⟩⟩ := hcut
   obtain _ | kj2 := kq
   · exact absurd HA.out (by simp [r5less.j1])
   have H := HA.out
   clear HA
   simp only [r5less.j1] at H
   by_cases c5 : x15_2 = true
   rotate_left
   ·
    replace c5 := Bool.eq_false_iff.mpr c5
    subst c5
    have H1 : (some (decide ((l0.length : Int) < (l1.length : Int)))) = some r := by rw [if_neg (show ¬ (false = true) by decide)] at H; exact H
    clear H
    have H := H1
    clear H1
    obtain rfl := qx H
    go_wp2
    go_ret
    exact ⟨qf, qe⟩
   subst c5
   have H1 : (if 0 ≤ x5_1 then (if x5_1 < (l0.length : Int) then (if x5_1 < (l1.length : Int) then (if (rd l0 x5_1) = (rd l1 x5_1) then (r5less.l0 kj2 l0 l1 (wrap64 (x5_1 + 1))) else (some (decide ((rd l0 x5_1) < (rd l1 x5_1))))) else (none)) else (none)) else (none)) = some r := by rw [if_pos rfl] at H; exact H
   clear H
   have H := H1
   clear H1
   obtain ⟨c6b0, H⟩ := xK H
   obtain ⟨c7b0, H⟩ := xK H
   obtain ⟨c8b0, H⟩ := xK H
   by_cases c9 : (rd l0 x5_1) = (rd l1 x5_1)
   ·
    rw [if_pos c9] at H
    have c9b0 : ((rd l0 x5_1) == (rd l1 x5_1)) = true := beq_iff_eq.mpr c9
    clear c9
    have H' := xA.mk H
    clear H
    have p469 : 0 ≤ (x5_1 : Int) := qq
    have q469 : x5_1 < (l0.length : Int) := qq
    obtain ⟨ad469, e469, hx469_0⟩ := Kd.xX HR0.out x5_1 p469 q469
    cases e469
    replace p469 := eq_true p469
    replace q469 := eq_true q469
    have p470 : 0 ≤ (x5_1 : Int) := qq
    have q470 : x5_1 < (l1.length : Int) := qq
    obtain ⟨ad470, e470, hx470_0⟩ := Kd.xX HR1.out x5_1 p470 q470
    cases e470
    replace p470 := eq_true p470
    replace q470 := eq_true q470
    go_wp2
    repeat (go_quiet (fail); try go_wp2)
    go_roundg kj2
    case measure => have := HK1.out; have := HJ2.out; omega
    case rel => exact ⟨(wrap64 (x5_1 + 1)), rfl, H', ⟨by have := HK1.out; have := HJ2.out; omega⟩, qe⟩
   rw [if_neg c9] at H
   have c9b0 : ((rd l0 x5_1) == (rd l1 x5_1)) = false := jg c9
   obtain rfl := qx H
   have p469 : 0 ≤ (x5_1 : Int) := qq
   have q469 : x5_1 < (l0.length : Int) := qq
   obtain ⟨ad469, e469, hx469_0⟩ := Kd.xX HR0.out x5_1 p469 q469
   cases e469
   replace p469 := eq_true p469
   replace q469 := eq_true q469
   have p470 : 0 ≤ (x5_1 : Int) := qq
   have q470 : x5_1 < (l1.length : Int) := qq
   obtain ⟨ad470, e470, hx470_0⟩ := Kd.xX HR1.out x5_1 p470 q470
   cases e470
   replace p470 := eq_true p470
   replace q470 := eq_true q470
   have p471 : 0 ≤ (x5_1 : Int) := qq
   have q471 : x5_1 < (l0.length : Int) := qq
   obtain ⟨ad471, e471, hx471_0⟩ := Kd.xX HR0.out x5_1 p471 q471
   obtain rfl : ad469 = ad471 := (by injection e471)
   replace p471 := eq_true p471
   replace q471 := eq_true q471
   have p472 : 0 ≤ (x5_1 : Int) := qq
   have q472 : x5_1 < (l1.length : Int) := qq
   obtain ⟨ad472, e472, hx472_0⟩ := Kd.xX HR1.out x5_1 p472 q472
   obtain rfl : ad470 = ad472 := (by injection e472)
   replace p472 := eq_true p472
   replace q472 := eq_true q472
   go_wp2
   repeat (go_quiet (fail); try go_wp2)
   go_ret
   exact ⟨qf, qe⟩
end Go.Proofs.Ythjmfbmffchicaa.V
