/- Walks of functions that the law LineStar reaches: each theorem '.calls' says that the call comes to what its printed plain function says, under the conditions that stand in it. -/
import Derived.Test.YthjmfbmffchicaaProg
import Derived.Below
import Derived.Deep.Draws
import Derived.Deep.AppendLies
import Derived.Maps.AppendAt
import Derived.OwnWalk
import Derived.Laws.BytesArg
import Derived.Laws.MakeOwn
import Derived.Laws.OwnMore
import Derived.Deep.OwnRows
import Derived.Tactics
import Derived.Lib.ConvBytes
import Derived.Laws.Slices
import Derived.WalkKit
import Derived.KernelRfl
import Derived.RowKit3
import Derived.Deep.LoopGhost
import Derived.Deep.QuietTactic
import Derived.BigQuiet
import Derived.WideLaws
import Derived.Deep.DeepCutAuto
import Derived.Deep.CutBlock
import Derived.Deep.RegionHeld3
import Derived.Laws.Rows
import Derived.Lib.AppendStr
import Derived.ArgAppend
import Derived.Laws.IdiomCopy
import Derived.OrdersHeld
import Derived.Laws.BitsLemmas
import Derived.RowKit
import Derived.Test.YthjmfbmffchicaaKSAid
import Derived.Test.YthjmfbmffchicaaKSWWords
import Derived.Test.YthjmfbmffchicaaKSWLast
import Derived.Test.YthjmfbmffchicaaKSWTab
import Derived.Test.YthjmfbmffchicaaKSWFour
import Derived.Test.YthjmfbmffchicaaKSWQPut
import Derived.Test.YthjmfbmffchicaaKSWApart
import Derived.Test.YthjmfbmffchicaaKSWArr
import Derived.Test.YthjmfbmffchicaaKSWZeros
import Derived.Test.YthjmfbmffchicaaKSWFoot
import Derived.Test.YthjmfbmffchicaaKSWKept
import Derived.Test.YthjmfbmffchicaaKSWShare
import Derived.Test.YthjmfbmffchicaaKSWN
import Derived.Test.YthjmfbmffchicaaKSWFootNe
import Derived.Test.YthjmfbmffchicaaKSWAt
import Derived.Test.YthjmfbmffchicaaKSWEqStruct
import Derived.Test.YthjmfbmffchicaaKSWRepsOne
import Derived.Test.YthjmfbmffchicaaKSWInv
import Derived.Test.YthjmfbmffchicaaKSWInvWords
import Derived.Test.YthjmfbmffchicaaKSWGuard
import Derived.Test.YthjmfbmffchicaaKSWNEv
import Derived.Test.YthjmfbmffchicaaKSWMore
import Derived.Test.YthjmfbmffchicaaKSf0
import Derived.Test.YthjmfbmffchicaaKSf1
import Derived.Test.YthjmfbmffchicaaKSf2
import Derived.Test.YthjmfbmffchicaaKSf3
import Derived.Test.YthjmfbmffchicaaKSf4
import Derived.Test.YthjmfbmffchicaaKSf5
namespace Go.Proofs.Ythjmfbmffchicaa.V
open Go.RowKit Go.Proofs.YthjmfbmffchicaaW.PrintWords Go.Proofs.YthjmfbmffchicaaW.PrintLast Go.Proofs.YthjmfbmffchicaaW.PrintMore
attribute [local go_sem] max2_int min2_int max_two min_two max_three min_three max_four min_four
set_option linter.unusedVariables false
set_option linter.unusedSimpArgs false
mutual
def line_Regime.l0 : Nat → Int → Int → Int → List (List Int) → Int → Int → List (List Int) → List (List Int) → Option (Int × Int × Int)
 | 0, _, _, _, _, _, _, _, _ => none
 | k + 1, x7, x8, x10, x380000, x380001, x380002, x380003, x380004 => (line_Regime_1.f k x10 x380000 x8 x7).bind fun t382 => (if t382 = true then (line_Regime.l1 k x7 x8 x10 0 x380000 x380001 x380002 x380003 x380004) else (line_Regime.l0 k x7 x8 (wrap64 (x10 * 2)) x380000 x380001 x380002 x380003 x380004))
def line_Regime.l1 : Nat → Int → Int → Int → Int → List (List Int) → Int → Int → List (List Int) → List (List Int) → Option (Int × Int × Int)
 | 0, _, _, _, _, _, _, _, _, _ => none
 | k + 1, x7, x8, x10, x11, x380000, x380001, x380002, x380003, x380004 => if x11 < x10 then ((line_Regime_1.f k (wrap64 (Int.tdiv (wrap64 (x11 + x10)) 2)) x380000 x8 x7).bind fun t383 => (if t383 = true then (line_Regime.l1 k x7 x8 (wrap64 (Int.tdiv (wrap64 (x11 + x10)) 2)) x11 x380000 x380001 x380002 x380003 x380004) else (line_Regime.l1 k x7 x8 x10 (wrap64 ((wrap64 (Int.tdiv (wrap64 (x11 + x10)) 2)) + 1)) x380000 x380001 x380002 x380003 x380004))) else (some (x7, x11, 0))
end
def line_Regime.f (k : Nat) (l0 : List (List Int)) : Option (Int × Int × Int) := (line_looked.f k l0).bind fun bt367 => (if bt367.2.2.2.2.2 = 0 then ((lgconnected.f k bt367.1).bind fun t380 => (if t380 = true then ((llperiod.f k bt367.1 bt367.2.1 bt367.2.2.1 bt367.2.2.2.1 bt367.2.2.2.2.1).bind fun t381 => (if bt367.2.2.1 = 0 then (none) else (line_Regime.l0 k t381 (wrap64 (Int.tdiv (wrap64 (t381 * bt367.2.1)) bt367.2.2.1)) 1 bt367.1 bt367.2.1 bt367.2.2.1 bt367.2.2.2.1 bt367.2.2.2.2.1))) else (some (0, 0, 10)))) else (some (0, 0, bt367.2.2.2.2.2)))
theorem line_Regime.mono_l : ∀ k, (∀ y0 y1 y2 y3 y4 y5 y6 y7, LeO (line_Regime.l0 k y0 y1 y2 y3 y4 y5 y6 y7) (line_Regime.l0 (k + 1) y0 y1 y2 y3 y4 y5 y6 y7)) ∧ (∀ y0 y1 y2 y3 y4 y5 y6 y7 y8, LeO (line_Regime.l1 k y0 y1 y2 y3 y4 y5 y6 y7 y8) (line_Regime.l1 (k + 1) y0 y1 y2 y3 y4 y5 y6 y7 y8))
 | 0 => ⟨fun _ _ _ _ _ _ _ _ r h => by simp [line_Regime.l0] at h, fun _ _ _ _ _ _ _ _ _ r h => by simp [line_Regime.l1] at h⟩
 | k + 1 => by
  obtain ⟨ih0, ih1⟩ := line_Regime.mono_l k
  refine ⟨?_, ?_⟩
  ·
   intro y0 y1 y2 y3 y4 y5 y6 y7
   unfold line_Regime.l0
   repeat' first
   | (with_reducible exact LeO.refl _)
   | (with_reducible exact LeO.none _)
   | (with_reducible refine LeO.ite ?_ ?_)
   | (with_reducible refine LeO.bind ?_ (fun _ => ?_))
   | exact ih0 _ _ _ _ _ _ _ _
   | exact ih1 _ _ _ _ _ _ _ _ _
   | exact line_Regime_1.mono _ _ _ _ _
   | exact lgconnected.mono _ _
   | exact llperiod.mono _ _ _ _ _ _
   | exact line_looked.mono _ _
   | exact LeO.none _
   | refine LeO.ite ?_ ?_
   | refine LeO.bind ?_ (fun _ => ?_)
  ·
   intro y0 y1 y2 y3 y4 y5 y6 y7 y8
   unfold line_Regime.l1
   repeat' first
   | (with_reducible exact LeO.refl _)
   | (with_reducible exact LeO.none _)
   | (with_reducible refine LeO.ite ?_ ?_)
   | (with_reducible refine LeO.bind ?_ (fun _ => ?_))
   | exact ih0 _ _ _ _ _ _ _ _
   | exact ih1 _ _ _ _ _ _ _ _ _
   | exact line_Regime_1.mono _ _ _ _ _
   | exact lgconnected.mono _ _
   | exact llperiod.mono _ _ _ _ _ _
   | exact line_looked.mono _ _
   | exact LeO.none _
   | refine LeO.ite ?_ ?_
   | refine LeO.bind ?_ (fun _ => ?_)
theorem line_Regime.mono : ∀ a0 k, LeO (line_Regime.f k a0) (line_Regime.f (k + 1) a0) := by
 intro a0 k
 obtain ⟨ih0, ih1⟩ := line_Regime.mono_l k
 unfold line_Regime.f
 repeat' first
   | (with_reducible exact LeO.refl _)
   | (with_reducible exact LeO.none _)
   | (with_reducible refine LeO.ite ?_ ?_)
   | (with_reducible refine LeO.bind ?_ (fun _ => ?_))
   | exact ih0 _ _ _ _ _ _ _ _
   | exact ih1 _ _ _ _ _ _ _ _ _
   | exact line_Regime_1.mono _ _ _ _ _
   | exact lgconnected.mono _ _
   | exact llperiod.mono _ _ _ _ _ _
   | exact line_looked.mono _ _
   | exact LeO.none _
   | refine LeO.ite ?_ ?_
   | refine LeO.bind ?_ (fun _ => ?_)
set_option maxHeartbeats 8000000 in
set_option maxRecDepth 100000 in
theorem line_Regime.calls (k : Nat) (A0 : Option Addr) (c0 : Nat) (l0 : List (List Int)) (r1 : Int) (r2 : Int) (r3 : Int) (w : World) (hr0 : Kd.C (Kd.slice 3 (Kd.int .i64)) w A0 l0.length l0) (hc0 : l0.length ≤ c0) (h : line_Regime.f k l0 = some (r1, r2, r3)) :
  Calls Try.prog 18 #[.slice A0 l0.length c0] w fun e w' => e = .returned (.tuple #[.int .i64 r1, .int .i64 r2, .int .i64 r3]) ∧ Below w.heap.size w w' := by
 have hu58 := Try.underlying58
 have HR0 := Aside0.mk hr0
 have HC0 := Aside0.mk hc0
 clear hr0 hc0
 have HB := Aside0.mk (Below.refl w.heap.size w)
 have H : ((line_looked.f k l0).bind fun bt367 => (if bt367.2.2.2.2.2 = 0 then ((lgconnected.f k bt367.1).bind fun t380 => (if t380 = true then ((llperiod.f k bt367.1 bt367.2.1 bt367.2.2.1 bt367.2.2.2.1 bt367.2.2.2.2.1).bind fun t381 => (if bt367.2.2.1 = 0 then (none) else (line_Regime.l0 k t381 (wrap64 (Int.tdiv (wrap64 (t381 * bt367.2.1)) bt367.2.2.1)) 1 bt367.1 bt367.2.1 bt367.2.2.1 bt367.2.2.2.1 bt367.2.2.2.2.1))) else (some (0, 0, 10)))) else (some (0, 0, bt367.2.2.2.2.2)))) = some (r1, r2, r3) := h
 clear h
 replace H := Option.bind_eq_some_iff.mp H
 obtain ⟨⟨t367, t370, t371, t372, t375, t378⟩, A20, H⟩ := H
 replace H : (if t378 = 0 then ((lgconnected.f k t367).bind fun t380 => (if t380 = true then ((llperiod.f k t367 t370 t371 t372 t375).bind fun t381 => (if t371 = 0 then (none) else (line_Regime.l0 k t381 (wrap64 (Int.tdiv (wrap64 (t381 * t370)) t371)) 1 t367 t370 t371 t372 t375))) else (some (0, 0, 10)))) else (some (0, 0, t378))) = some (r1, r2, r3) := H
 have A2 := Aside0.mk A20
 clear A20
 by_cases c3 : t378 = 0
 ·
  rw [if_pos c3] at H
  have c3b0 : (t378 == 0) = true := beq_iff_eq.mpr c3
  clear c3
  replace H := Option.bind_eq_some_iff.mp H
  obtain ⟨t380, A40, H⟩ := H
  replace H : (if t380 = true then ((llperiod.f k t367 t370 t371 t372 t375).bind fun t381 => (if t371 = 0 then (none) else (line_Regime.l0 k t381 (wrap64 (Int.tdiv (wrap64 (t381 * t370)) t371)) 1 t367 t370 t371 t372 t375))) else (some (0, 0, 10))) = some (r1, r2, r3) := H
  have A4 := Aside0.mk A40
  clear A40
  by_cases c5 : t380 = true
  ·
   subst c5
   have H1 : ((llperiod.f k t367 t370 t371 t372 t375).bind fun t381 => (if t371 = 0 then (none) else (line_Regime.l0 k t381 (wrap64 (Int.tdiv (wrap64 (t381 * t370)) t371)) 1 t367 t370 t371 t372 t375))) = some (r1, r2, r3) := by rw [if_pos rfl] at H; exact H
   clear H
   have H := H1
   clear H1
   replace H := Option.bind_eq_some_iff.mp H
   obtain ⟨t381, A60, H⟩ := H
   replace H : (if t371 = 0 then (none) else (line_Regime.l0 k t381 (wrap64 (Int.tdiv (wrap64 (t381 * t370)) t371)) 1 t367 t370 t371 t372 t375)) = some (r1, r2, r3) := H
   have A6 := Aside0.mk A60
   clear A60
   by_cases c7 : t371 = 0
   ·
    rw [if_pos c7] at H
    exact absurd H (by simp)
   ·
    rw [if_neg c7] at H
    have c7b0 : (t371 == 0) = false := beq_eq_false_iff_ne.mpr c7
    have c7b1 : (t371 != 0) = true := bne_iff_ne.mpr c7
    have H' := Aside0.mk H
    clear H
    go_enter Try.func18, Try.ntmps18
    go_wp2_with (first | ((with_reducible refine gate_callee (f := 45) rfl ?_); refine goesL_ (some 15) rfl rfl Try.func45 (by kernel_rfl) rfl #[.slice A0 l0.length c0] rfl (by (try simp only [List.map_toArray, List.map_cons, List.map_nil]); first | done | rfl | (simp only [List.length_drop, List.length_take]; rfl)) ?_; (with_reducible refine (line_looked.calls k (fun k_ => k_ < w.heap.size) _ _ l0 t367 t370 t371 t372 t375 t378 _ ?side1 A2.out).mono ?_); (case side1 => exact Kd.V_mk HC0.out (Kd.F_below (Kd.C_F (Kd.heap_slice 3 (Kd.heap_int .i64)) HR0.out) (by repeat (first | (with_reducible first | exact HB.out | apply below_alloc | apply pw_below_drewN | apply below_drew1) | exact HB.out)))); rintro e w8 ⟨v368, v373, v376, rfl, ho0, ho1, ho2, hb⟩; refine ⟨_, rfl, ?_⟩; have n0_ := Aside0.mk (Kd.V_lower (Kd.V_mono (ok' := fun k_ => some k_ ≠ (v373 : Value).ownBlock ∧ some k_ ≠ (v376 : Value).ownBlock) ho0 (fun k_ hk_ => ⟨hk_.2.1, hk_.2.2⟩)) (below_size (by repeat (first | (with_reducible first | exact HB.out | apply below_alloc | apply pw_below_drewN | apply below_drew1) | exact HB.out)))); have n1_ := Aside0.mk (Kd.S_lower (Kd.S_mono (ok' := fun k_ => some k_ ≠ (v376 : Value).ownBlock) ho1 (fun _ hk_ => hk_.2)) (below_size (by repeat (first | (with_reducible first | exact HB.out | apply below_alloc | apply pw_below_drewN | apply below_drew1) | exact HB.out)))); have n2_ := Aside0.mk (Kd.S_lower (Kd.S_mono (ok' := fun k_ => some k_ ≠ (v373 : Value).ownBlock) ho2 (fun _ hk_ => hk_.2)) (below_size (by repeat (first | (with_reducible first | exact HB.out | apply below_alloc | apply pw_below_drewN | apply below_drew1) | exact HB.out)))); have n3_ := Aside0.mk (below_step (by repeat (first | (with_reducible first | exact HB.out | apply below_alloc | apply pw_below_drewN | apply below_drew1) | exact HB.out)) hb); clear HB; have HO369 := n0_; have HO374 := n1_; have HO377 := n2_; have HB := n3_; clear n0_ n1_ n2_ n3_; (try clear hb); (try clear hb2); (try clear hk); (try clear hi); (try clear ho0); (try clear ho1); (try clear ho2)) | ((with_reducible refine gate_dst (N := 5) rfl ?_); refine box_event ?hg (N := 5) ?hd (cs := #[.slice none 0 0, .int .i64 0, .int .i64 0, .slice none 0 0, .slice none 0 0]) (t := 58) ?hr ?_; (case hd => rfl); (case hg => rfl); (case hr => first | (go_simp; done) | (go_simp; rfl)); intro gb379 hg w9 hbox hb; have n0_ := Aside0.mk (Kd.V_below (Kd.V_elderB (by (with_reducible repeat (first | apply Kd.V_alloc | apply Kd.V_drewN | apply Kd.V_drew)); exact HO369.out) gb379 (Nat.le_of_eq hg.symm)) hb); have n1_ := Aside0.mk (Kd.S_below (by (with_reducible repeat (first | apply Kd.S_alloc | apply Kd.S_drewN | apply Kd.S_drew)); exact HO374.out) hb); have n2_ := Aside0.mk (Kd.S_below (by (with_reducible repeat (first | apply Kd.S_alloc | apply Kd.S_drewN | apply Kd.S_drew)); exact HO377.out) hb); have n3_ := Aside0.mk (below_step (by repeat (first | (with_reducible first | exact HB.out | apply below_alloc | apply pw_below_drewN | apply below_drew1) | exact HB.out)) hb); have n4_ := Aside0.mk (hbox); have n5_ := Aside0.mk ((by rw [hg]; exact (below_size (by repeat (first | (with_reducible first | exact HB.out | apply below_alloc | apply pw_below_drewN | apply below_drew1) | exact HB.out))) : w.heap.size ≤ gb379)); have n6_ := Aside0.mk ((by rw [hg]; exact (below_size (by repeat (first | (with_reducible first | exact HB.out | apply below_alloc | apply pw_below_drewN | apply below_drew1) | exact HB.out))) : w.heap.size ≤ gb379)); clear HO369; clear HO374; clear HO377; clear HB; have HO369 := n0_; have HO374 := n1_; have HO377 := n2_; have HB := n3_; have BK379 := n4_; have GW379 := n5_; have GE379 := n6_; clear n0_ n1_ n2_ n3_ n4_ n5_ n6_; clear hb hbox hg; obtain ⟨Ao10, co10, eo10⟩ := Kd.V_slice HO369.out; subst eo10; have hcz11_0 : w9.cell? ⟨gb379, 0, none⟩ = some (.slice none 0 0) := (blk_cell BK379.out 0).trans rfl; have hcz11_1 : w9.cell? ⟨gb379, 1, none⟩ = some (.int .i64 0) := (blk_cell BK379.out 1).trans rfl; have hcz11_2 : w9.cell? ⟨gb379, 2, none⟩ = some (.int .i64 0) := (blk_cell BK379.out 2).trans rfl; have hcz11_3 : w9.cell? ⟨gb379, 3, none⟩ = some (.slice none 0 0) := (blk_cell BK379.out 3).trans rfl; have hcz11_4 : w9.cell? ⟨gb379, 4, none⟩ = some (.slice none 0 0) := (blk_cell BK379.out 4).trans rfl; have hfz11_0 := blk_frozen BK379.out 0; have hfz11_1 := blk_frozen BK379.out 1; have hfz11_2 := blk_frozen BK379.out 2; have hfz11_3 := blk_frozen BK379.out 3; have hfz11_4 := blk_frozen BK379.out 4; obtain ⟨Ao12, co12, eo12⟩ := Kd.S_slice HO374.out; subst eo12; obtain ⟨Ao13, co13, eo13⟩ := Kd.S_slice HO377.out; subst eo13) | ((with_reducible refine gate_callee (f := 46) rfl ?_); refine goesL_ (some 25) rfl rfl Try.func46 (by kernel_rfl) rfl #[.slice Ao10 t367.length co10] rfl (by (try simp only [List.map_toArray, List.map_cons, List.map_nil]); first | done | rfl | (simp only [List.length_drop, List.length_take]; rfl)) ?_; (with_reducible refine (lgconnected.calls k _ _ t367 true _ ?side1 ?side2 A4.out).mono ?_); (case side1 => refine (Kd.V_reads' (e := 26) (base := w.heap.size) (ok := fun k_ => ((some k_ ≠ (.slice Ao12 t372.length co12 : Value).ownBlock ∧ some k_ ≠ (.slice Ao13 t375.length co13 : Value).ownBlock) ∧ k_ ≠ gb379)) (n := t367.length) (c := co10) ?_).2.2; exact (by (with_reducible repeat (first | apply Kd.V_alloc | apply Kd.V_drewN | apply Kd.V_drew)); exact (Kd.V_mono (Kd.V_far (p := ⟨gb379, 4, none⟩) (Kd.V_far (p := ⟨gb379, 3, none⟩) (Kd.V_far (p := ⟨gb379, 2, none⟩) (Kd.V_far (p := ⟨gb379, 1, none⟩) (Kd.V_far (p := ⟨gb379, 0, none⟩) (Kd.V_mono HO369.out (fun k_ hk => (⟨hk, hk.2⟩ : _ ∧ k_ ≠ gb379))) (fun _ hk => hk.2) (.slice Ao10 t367.length co10)) (fun _ hk => hk.2) (.int .i64 t370)) (fun _ hk => hk.2) (.int .i64 t371)) (fun _ hk => hk.2) (.slice Ao12 t372.length co12)) (fun _ hk => hk.2) (.slice Ao13 t375.length co13)) (fun _ h_ => h_.1)))); (case side2 => exact (Kd.V_reads' HO369.out).2.1); rintro e w14 ⟨rfl, hb⟩; refine ⟨_, rfl, ?_⟩; have n0_ := Aside0.mk (Kd.V_below (by (with_reducible repeat (first | apply Kd.V_alloc | apply Kd.V_drewN | apply Kd.V_drew)); exact (Kd.V_mono (Kd.V_far (p := ⟨gb379, 4, none⟩) (Kd.V_far (p := ⟨gb379, 3, none⟩) (Kd.V_far (p := ⟨gb379, 2, none⟩) (Kd.V_far (p := ⟨gb379, 1, none⟩) (Kd.V_far (p := ⟨gb379, 0, none⟩) (Kd.V_mono HO369.out (fun k_ hk => (⟨hk, hk.2⟩ : _ ∧ k_ ≠ gb379))) (fun _ hk => hk.2) (.slice Ao10 t367.length co10)) (fun _ hk => hk.2) (.int .i64 t370)) (fun _ hk => hk.2) (.int .i64 t371)) (fun _ hk => hk.2) (.slice Ao12 t372.length co12)) (fun _ hk => hk.2) (.slice Ao13 t375.length co13)) (fun _ h_ => h_.1))) hb); have n1_ := Aside0.mk (Kd.S_below (by (with_reducible repeat (first | apply Kd.S_alloc | apply Kd.S_drewN | apply Kd.S_drew)); exact (Kd.S_mono (Kd.S_far (p := ⟨gb379, 4, none⟩) (Kd.S_far (p := ⟨gb379, 3, none⟩) (Kd.S_far (p := ⟨gb379, 2, none⟩) (Kd.S_far (p := ⟨gb379, 1, none⟩) (Kd.S_far (p := ⟨gb379, 0, none⟩) (Kd.S_types HO374.out BK379.out (by decide)) (fun _ hk => hk.2) (.slice Ao10 t367.length co10)) (fun _ hk => hk.2) (.int .i64 t370)) (fun _ hk => hk.2) (.int .i64 t371)) (fun _ hk => hk.2) (.slice Ao12 t372.length co12)) (fun _ hk => hk.2) (.slice Ao13 t375.length co13)) (fun _ h_ => h_.1))) hb); have n2_ := Aside0.mk (Kd.S_below (by (with_reducible repeat (first | apply Kd.S_alloc | apply Kd.S_drewN | apply Kd.S_drew)); exact (Kd.S_mono (Kd.S_far (p := ⟨gb379, 4, none⟩) (Kd.S_far (p := ⟨gb379, 3, none⟩) (Kd.S_far (p := ⟨gb379, 2, none⟩) (Kd.S_far (p := ⟨gb379, 1, none⟩) (Kd.S_far (p := ⟨gb379, 0, none⟩) (Kd.S_types HO377.out BK379.out (by decide)) (fun _ hk => hk.2) (.slice Ao10 t367.length co10)) (fun _ hk => hk.2) (.int .i64 t370)) (fun _ hk => hk.2) (.int .i64 t371)) (fun _ hk => hk.2) (.slice Ao12 t372.length co12)) (fun _ hk => hk.2) (.slice Ao13 t375.length co13)) (fun _ h_ => h_.1))) hb); have n3_ := Aside0.mk (blk_below (g := gb379) (o := .cells #[.slice Ao10 t367.length co10, .int .i64 t370, .int .i64 t371, .slice Ao12 t372.length co12, .slice Ao13 t375.length co13] 58 (0, 0)) (by (with_reducible repeat (first | refine blk_drewN ?_ _ | refine blk_drew ?_ | refine blk_alloc ?_ _)); refine blk_put (cs := #[.slice Ao10 t367.length co10, .int .i64 t370, .int .i64 t371, .slice Ao12 t372.length co12, .slice none 0 0]) ?_ 4 _ rfl; (with_reducible repeat (first | refine blk_drewN ?_ _ | refine blk_drew ?_ | refine blk_alloc ?_ _)); refine blk_put (cs := #[.slice Ao10 t367.length co10, .int .i64 t370, .int .i64 t371, .slice none 0 0, .slice none 0 0]) ?_ 3 _ rfl; (with_reducible repeat (first | refine blk_drewN ?_ _ | refine blk_drew ?_ | refine blk_alloc ?_ _)); refine blk_put (cs := #[.slice Ao10 t367.length co10, .int .i64 t370, .int .i64 0, .slice none 0 0, .slice none 0 0]) ?_ 2 _ rfl; (with_reducible repeat (first | refine blk_drewN ?_ _ | refine blk_drew ?_ | refine blk_alloc ?_ _)); refine blk_put (cs := #[.slice Ao10 t367.length co10, .int .i64 0, .int .i64 0, .slice none 0 0, .slice none 0 0]) ?_ 1 _ rfl; (with_reducible repeat (first | refine blk_drewN ?_ _ | refine blk_drew ?_ | refine blk_alloc ?_ _)); refine blk_put (cs := #[.slice none 0 0, .int .i64 0, .int .i64 0, .slice none 0 0, .slice none 0 0]) ?_ 0 _ rfl; (with_reducible repeat (first | refine blk_drewN ?_ _ | refine blk_drew ?_ | refine blk_alloc ?_ _)); exact BK379.out) hb); have n4_ := Aside0.mk (below_step (by repeat (first | (with_reducible first | exact HB.out | apply below_alloc | apply pw_below_drewN | apply below_drew1 | refine below_set ?_ GE379.out) | exact HB.out)) hb); clear HO369; clear HO374; clear HO377; clear BK379; clear HB; have HO369 := n0_; have HO374 := n1_; have HO377 := n2_; have BK379 := n3_; have HB := n4_; clear n0_ n1_ n2_ n3_ n4_; (try clear hb); (try clear hb2); (try clear hk); (try clear hi); have hcz15_0 : w14.cell? ⟨gb379, 0, none⟩ = some (.slice Ao10 t367.length co10) := (blk_cell BK379.out 0).trans rfl; have hcz15_1 : w14.cell? ⟨gb379, 1, none⟩ = some (.int .i64 t370) := (blk_cell BK379.out 1).trans rfl; have hcz15_2 : w14.cell? ⟨gb379, 2, none⟩ = some (.int .i64 t371) := (blk_cell BK379.out 2).trans rfl; have hcz15_3 : w14.cell? ⟨gb379, 3, none⟩ = some (.slice Ao12 t372.length co12) := (blk_cell BK379.out 3).trans rfl; have hcz15_4 : w14.cell? ⟨gb379, 4, none⟩ = some (.slice Ao13 t375.length co13) := (blk_cell BK379.out 4).trans rfl; have hfz15_0 := blk_frozen BK379.out 0; have hfz15_1 := blk_frozen BK379.out 1; have hfz15_2 := blk_frozen BK379.out 2; have hfz15_3 := blk_frozen BK379.out 3; have hfz15_4 := blk_frozen BK379.out 4) | ((with_reducible refine gate_callee (f := 54) rfl ?_); refine goesL_ (some 28) rfl rfl Try.func54 (by kernel_rfl) rfl #[.agg #[.slice Ao10 t367.length co10, .int .i64 t370, .int .i64 t371, .slice Ao12 t372.length co12, .slice Ao13 t375.length co13]] rfl (by (try simp only [List.map_toArray, List.map_cons, List.map_nil]); first | done | rfl | (simp only [List.length_drop, List.length_take]; rfl)) ?_; (with_reducible refine (llperiod.calls k _ _ t367 t370 t371 _ _ t372 _ _ t375 t381 _ ?side1 ?side2 ?side3 ?side4 ?side5 ?side6 A6.out).mono ?_); (case side1 => repeat (first | exact (Kd.V_reads' HO369.out).2.2 | (with_reducible refine Kd.C_alloc ?_ _) | (with_reducible refine Kd.C_drewN ?_ _) | (with_reducible refine Kd.C_drew ?_))); (case side2 => exact (Kd.V_reads' HO369.out).2.1); (case side3 => repeat (first | exact (Kd.S_reads' HO374.out).2.2 | (with_reducible refine Kd.C_alloc ?_ _) | (with_reducible refine Kd.C_drewN ?_ _) | (with_reducible refine Kd.C_drew ?_))); (case side4 => exact (Kd.S_reads' HO374.out).2.1); (case side5 => repeat (first | exact (Kd.S_reads' HO377.out).2.2 | (with_reducible refine Kd.C_alloc ?_ _) | (with_reducible refine Kd.C_drewN ?_ _) | (with_reducible refine Kd.C_drew ?_))); (case side6 => exact (Kd.S_reads' HO377.out).2.1); rintro e w16 ⟨rfl, hb⟩; refine ⟨_, rfl, ?_⟩; have n0_ := Aside0.mk (Kd.V_below (by (with_reducible repeat (first | apply Kd.V_alloc | apply Kd.V_drewN | apply Kd.V_drew)); exact HO369.out) hb); have n1_ := Aside0.mk (Kd.S_below (by (with_reducible repeat (first | apply Kd.S_alloc | apply Kd.S_drewN | apply Kd.S_drew)); exact HO374.out) hb); have n2_ := Aside0.mk (Kd.S_below (by (with_reducible repeat (first | apply Kd.S_alloc | apply Kd.S_drewN | apply Kd.S_drew)); exact HO377.out) hb); have n3_ := Aside0.mk (blk_below (g := gb379) (o := .cells #[.slice Ao10 t367.length co10, .int .i64 t370, .int .i64 t371, .slice Ao12 t372.length co12, .slice Ao13 t375.length co13] 58 (0, 0)) (by (with_reducible repeat (first | refine blk_drewN ?_ _ | refine blk_drew ?_ | refine blk_alloc ?_ _)); exact BK379.out) hb); have n4_ := Aside0.mk (below_step (by repeat (first | (with_reducible first | exact HB.out | apply below_alloc | apply pw_below_drewN | apply below_drew1 | refine below_set ?_ GE379.out) | exact HB.out)) hb); clear HO369; clear HO374; clear HO377; clear BK379; clear HB; have HO369 := n0_; have HO374 := n1_; have HO377 := n2_; have BK379 := n3_; have HB := n4_; clear n0_ n1_ n2_ n3_ n4_; (try clear hb); (try clear hb2); (try clear hk); (try clear hi); have hcz17_0 : w16.cell? ⟨gb379, 0, none⟩ = some (.slice Ao10 t367.length co10) := (blk_cell BK379.out 0).trans rfl; have hcz17_1 : w16.cell? ⟨gb379, 1, none⟩ = some (.int .i64 t370) := (blk_cell BK379.out 1).trans rfl; have hcz17_2 : w16.cell? ⟨gb379, 2, none⟩ = some (.int .i64 t371) := (blk_cell BK379.out 2).trans rfl; have hcz17_3 : w16.cell? ⟨gb379, 3, none⟩ = some (.slice Ao12 t372.length co12) := (blk_cell BK379.out 3).trans rfl; have hcz17_4 : w16.cell? ⟨gb379, 4, none⟩ = some (.slice Ao13 t375.length co13) := (blk_cell BK379.out 4).trans rfl; have hfz17_0 := blk_frozen BK379.out 0; have hfz17_1 := blk_frozen BK379.out 1; have hfz17_2 := blk_frozen BK379.out 2; have hfz17_3 := blk_frozen BK379.out 3; have hfz17_4 := blk_frozen BK379.out 4; have HGB := Aside0.mk (World.block_lt_of_cell? w16 _ hcz17_0); have hal1 := fun o i => cell_alloc_old w16 gb379 HGB.out o i; have hal2 := fun o o2 i => cell_alloc_old2 w16 gb379 HGB.out o o2 i))
    have hgbm := HGB.out
    generalize hwm : (World.alloc (World.alloc w16 _) _) = wm
    have FB := Aside0.mk (show Below w.heap.size w wm by rw [← hwm]; exact below_alloc (below_alloc HB.out _) _)
    have FM := Aside0.mk (show Below w16.heap.size w16 wm by rw [← hwm]; exact below_alloc (below_alloc (Below.refl _ _) _) _)
    have FS := Aside0.mk (show wm.heap.size = w16.heap.size + 2 by rw [← hwm]; simp)
    have FC := Aside0.mk (show wm.cell? ⟨w16.heap.size, 0, none⟩ = some (.int .i64 t381) by rw [← hwm]; simp)
    have FA := Aside0.mk (show wm.cell? ⟨w16.heap.size + 1, 0, none⟩ = some (.int .i64 (wrap64 (Int.tdiv (wrap64 (t381 * t370)) t371))) by rw [← hwm]; simp)
    have FL := Aside0.mk ((FM.out.cell (p := ⟨gb379, 0, none⟩) HGB.out).trans hcz17_0)
    have FV := Aside0.mk (Kd.C_below (Kd.V_reads' HO369.out).2.2 FM.out)
    have FN := Aside0.mk (Kd.V_reads' HO369.out).2.1
    have SL := Aside0.mk (show gb379 < wm.heap.size by rw [FS.out]; have := HGB.out; omega)
    have SA := Aside0.mk (show w16.heap.size + 1 < wm.heap.size by rw [FS.out]; omega)
    have SC := Aside0.mk (show w16.heap.size < wm.heap.size by rw [FS.out]; omega)
    clear hwm hgbm hal1 hal2
    go_loopg [10] k (fun kq v10 w' => ∃ (x10 : Int), v10 = .int .i64 x10 ∧ Aside0 (line_Regime.l0 kq t381 (wrap64 (Int.tdiv (wrap64 (t381 * t370)) t371)) x10 t367 t370 t371 t372 t375 = some (r1, r2, r3)) ∧ Aside0 (kq ≤ k) ∧ Aside0 (Below wm.heap.size wm w'))
    case atStart => exact ⟨1, (by first | rfl | (simp; done)), H', ⟨Nat.le_refl _⟩, ⟨Below.refl _ _⟩⟩
    case round =>
     clear H'
     obtain ⟨x10, rfl, HA, HK1, HM⟩ := hrel
     cases gk with
     | zero => exact absurd HA.out (by simp [line_Regime.l0])
     | succ k1 =>
      have H := HA.out
      clear HA
      simp only [line_Regime.l0] at H
      replace H := Option.bind_eq_some_iff.mp H
      obtain ⟨t382, A180, H⟩ := H
      have A18 := Aside0.mk A180
      clear A180
      have hl_ := (HM.out.cell (p := ⟨gb379, 0, none⟩) SL.out).trans FL.out
      have ha_ := (HM.out.cell (p := ⟨w16.heap.size + 1, 0, none⟩) SA.out).trans FA.out
      have hc_ := (HM.out.cell (p := ⟨w16.heap.size, 0, none⟩) SC.out).trans FC.out
      have GL := Aside0.mk hl_
      have GA := Aside0.mk ha_
      have GC := Aside0.mk hc_
      clear hl_ ha_ hc_
      by_cases c19 : t382 = true
      ·
       subst c19
       have HX := Aside0.mk (show line_Regime.l1 k1 t381 (wrap64 (Int.tdiv (wrap64 (t381 * t370)) t371)) x10 0 t367 t370 t371 t372 t375 = some (r1, r2, r3) by rw [if_pos rfl] at H; exact H)
       clear H
       go_wp2_with (go_at_call 55; (with_reducible refine (line_Regime_1.calls k1 x10 Ao10 co10 t367 (wrap64 (Int.tdiv (wrap64 (t381 * t370)) t371)) t381 true _ ?s1 ?s2 A18.out gb379 (w16.heap.size + 1) w16.heap.size ?b1 ?b2 ?b3 ?c1 ?c2 ?c3).mono ?_); (case s1 => exact Kd.C_below FV.out HM.out); (case s2 => exact FN.out); (case b1 => exact Nat.lt_of_lt_of_le SL.out (below_size HM.out)); (case b2 => exact Nat.lt_of_lt_of_le SA.out (below_size HM.out)); (case b3 => exact Nat.lt_of_lt_of_le SC.out (below_size HM.out)); (case c1 => exact GL.out); (case c2 => exact GA.out); (case c3 => exact GC.out); rintro e w21 ⟨rfl, hb⟩; have n_ := Aside0.mk (below_step HM.out hb); clear HM hb; have HM := n_; clear n_)
       go_loopg [10, 11] k1 (fun kq v10 v11 w' => ∃ (x10 : Int) (x11 : Int), v10 = .int .i64 x10 ∧ v11 = .int .i64 x11 ∧ Aside0 (line_Regime.l1 kq t381 (wrap64 (Int.tdiv (wrap64 (t381 * t370)) t371)) x10 x11 t367 t370 t371 t372 t375 = some (r1, r2, r3)) ∧ Aside0 (kq ≤ k1) ∧ Aside0 (Below wm.heap.size wm w'))
       case atStart => exact ⟨x10, 0, (by first | rfl | (simp; done)), (by first | rfl | (simp; done)), HX, ⟨Nat.le_refl _⟩, HM⟩
       case round =>
        clear HX GL GA GC HM
        obtain ⟨x10, x11, rfl, rfl, HA, HK2, HM⟩ := hrel
        cases gk with
        | zero => exact absurd HA.out (by simp [line_Regime.l1])
        | succ k2 =>
         have H := HA.out
         clear HA
         simp only [line_Regime.l1] at H
         have hl_ := (HM.out.cell (p := ⟨gb379, 0, none⟩) SL.out).trans FL.out
         have ha_ := (HM.out.cell (p := ⟨w16.heap.size + 1, 0, none⟩) SA.out).trans FA.out
         have hc_ := (HM.out.cell (p := ⟨w16.heap.size, 0, none⟩) SC.out).trans FC.out
         have GL := Aside0.mk hl_
         have GA := Aside0.mk ha_
         have GC := Aside0.mk hc_
         clear hl_ ha_
         by_cases c22 : x11 < x10
         ·
          clear hc_
          rw [if_pos c22] at H
          have c22b0 : decide (x11 < x10) = true := decide_eq_true c22
          clear c22
          replace H := Option.bind_eq_some_iff.mp H
          obtain ⟨t383, A230, H⟩ := H
          have A23 := Aside0.mk A230
          clear A230
          by_cases c24 : t383 = true
          ·
           subst c24
           have HX := Aside0.mk (show line_Regime.l1 k2 t381 (wrap64 (Int.tdiv (wrap64 (t381 * t370)) t371)) (wrap64 (Int.tdiv (wrap64 (x11 + x10)) 2)) x11 t367 t370 t371 t372 t375 = some (r1, r2, r3) by rw [if_pos rfl] at H; exact H)
           clear H
           go_wp2_with (go_at_call 55; (with_reducible refine (line_Regime_1.calls k2 (wrap64 (Int.tdiv (wrap64 (x11 + x10)) 2)) Ao10 co10 t367 (wrap64 (Int.tdiv (wrap64 (t381 * t370)) t371)) t381 true _ ?s1 ?s2 A23.out gb379 (w16.heap.size + 1) w16.heap.size ?b1 ?b2 ?b3 ?c1 ?c2 ?c3).mono ?_); (case s1 => exact Kd.C_below FV.out HM.out); (case s2 => exact FN.out); (case b1 => exact Nat.lt_of_lt_of_le SL.out (below_size HM.out)); (case b2 => exact Nat.lt_of_lt_of_le SA.out (below_size HM.out)); (case b3 => exact Nat.lt_of_lt_of_le SC.out (below_size HM.out)); (case c1 => exact GL.out); (case c2 => exact GA.out); (case c3 => exact GC.out); rintro e w21 ⟨rfl, hb⟩; have n_ := Aside0.mk (below_step HM.out hb); clear HM hb; have HM := n_; clear n_)
           go_roundg k2
           case measure => have := HK2.out; omega
           case rel => exact ⟨(wrap64 (Int.tdiv (wrap64 (x11 + x10)) 2)), x11, (by first | rfl | (simp; done)), (by first | rfl | (simp; done)), HX, ⟨by have := HK2.out; omega⟩, HM⟩
          ·
           replace c24 := Bool.eq_false_iff.mpr c24
           subst c24
           have HX := Aside0.mk (show line_Regime.l1 k2 t381 (wrap64 (Int.tdiv (wrap64 (t381 * t370)) t371)) x10 (wrap64 ((wrap64 (Int.tdiv (wrap64 (x11 + x10)) 2)) + 1)) t367 t370 t371 t372 t375 = some (r1, r2, r3) by rw [if_neg (by decide)] at H; exact H)
           clear H
           go_wp2_with (go_at_call 55; (with_reducible refine (line_Regime_1.calls k2 (wrap64 (Int.tdiv (wrap64 (x11 + x10)) 2)) Ao10 co10 t367 (wrap64 (Int.tdiv (wrap64 (t381 * t370)) t371)) t381 false _ ?s1 ?s2 A23.out gb379 (w16.heap.size + 1) w16.heap.size ?b1 ?b2 ?b3 ?c1 ?c2 ?c3).mono ?_); (case s1 => exact Kd.C_below FV.out HM.out); (case s2 => exact FN.out); (case b1 => exact Nat.lt_of_lt_of_le SL.out (below_size HM.out)); (case b2 => exact Nat.lt_of_lt_of_le SA.out (below_size HM.out)); (case b3 => exact Nat.lt_of_lt_of_le SC.out (below_size HM.out)); (case c1 => exact GL.out); (case c2 => exact GA.out); (case c3 => exact GC.out); rintro e w21 ⟨rfl, hb⟩; have n_ := Aside0.mk (below_step HM.out hb); clear HM hb; have HM := n_; clear n_)
           go_roundg k2
           case measure => have := HK2.out; omega
           case rel => exact ⟨x10, (wrap64 ((wrap64 (Int.tdiv (wrap64 (x11 + x10)) 2)) + 1)), (by first | rfl | (simp; done)), (by first | rfl | (simp; done)), HX, ⟨by have := HK2.out; omega⟩, HM⟩
         ·
          rw [if_neg c22] at H
          have c22b0 : decide (x11 < x10) = false := decide_eq_false c22
          clear c22
          simp only [Option.some.injEq, Prod.mk.injEq] at H
          obtain ⟨rfl, rfl, rfl⟩ := H
          go_wp2
          go_ret3
          exact ⟨by first | rfl | (simp; done) | (simp [*]; done), below_step FB.out HM.out⟩
      ·
       replace c19 := Bool.eq_false_iff.mpr c19
       subst c19
       have HX := Aside0.mk (show line_Regime.l0 k1 t381 (wrap64 (Int.tdiv (wrap64 (t381 * t370)) t371)) (wrap64 (x10 * 2)) t367 t370 t371 t372 t375 = some (r1, r2, r3) by rw [if_neg (by decide)] at H; exact H)
       clear H
       go_wp2_with (go_at_call 55; (with_reducible refine (line_Regime_1.calls k1 x10 Ao10 co10 t367 (wrap64 (Int.tdiv (wrap64 (t381 * t370)) t371)) t381 false _ ?s1 ?s2 A18.out gb379 (w16.heap.size + 1) w16.heap.size ?b1 ?b2 ?b3 ?c1 ?c2 ?c3).mono ?_); (case s1 => exact Kd.C_below FV.out HM.out); (case s2 => exact FN.out); (case b1 => exact Nat.lt_of_lt_of_le SL.out (below_size HM.out)); (case b2 => exact Nat.lt_of_lt_of_le SA.out (below_size HM.out)); (case b3 => exact Nat.lt_of_lt_of_le SC.out (below_size HM.out)); (case c1 => exact GL.out); (case c2 => exact GA.out); (case c3 => exact GC.out); rintro e w21 ⟨rfl, hb⟩; have n_ := Aside0.mk (below_step HM.out hb); clear HM hb; have HM := n_; clear n_)
       go_roundg k1
       case measure => have := HK1.out; omega
       case rel => exact ⟨(wrap64 (x10 * 2)), (by first | rfl | (simp; done)), HX, ⟨by have := HK1.out; omega⟩, HM⟩
  ·
   replace c5 := Bool.eq_false_iff.mpr c5
   subst c5
   have H1 : (some (0, 0, 10)) = some (r1, r2, r3) := by rw [if_neg (show ¬ (false = true) by decide)] at H; exact H
   clear H
   have H := H1
   clear H1
   simp only [Option.some.injEq, Prod.mk.injEq] at H
   obtain ⟨rfl, rfl, rfl⟩ := H
   go_enter Try.func18, Try.ntmps18
   go_wp2_with (first | ((with_reducible refine gate_callee (f := 45) rfl ?_); refine goesL_ (some 15) rfl rfl Try.func45 (by kernel_rfl) rfl #[.slice A0 l0.length c0] rfl (by (try simp only [List.map_toArray, List.map_cons, List.map_nil]); first | done | rfl | (simp only [List.length_drop, List.length_take]; rfl)) ?_; (with_reducible refine (line_looked.calls k (fun k_ => k_ < w.heap.size) _ _ l0 t367 t370 t371 t372 t375 t378 _ ?side1 A2.out).mono ?_); (case side1 => exact Kd.V_mk HC0.out (Kd.F_below (Kd.C_F (Kd.heap_slice 3 (Kd.heap_int .i64)) HR0.out) (by repeat (first | (with_reducible first | exact HB.out | apply below_alloc | apply pw_below_drewN | apply below_drew1) | exact HB.out)))); rintro e w31 ⟨v368, v373, v376, rfl, ho0, ho1, ho2, hb⟩; refine ⟨_, rfl, ?_⟩; have n0_ := Aside0.mk (Kd.V_lower (Kd.V_mono (ok' := fun k_ => some k_ ≠ (v373 : Value).ownBlock ∧ some k_ ≠ (v376 : Value).ownBlock) ho0 (fun k_ hk_ => ⟨hk_.2.1, hk_.2.2⟩)) (below_size (by repeat (first | (with_reducible first | exact HB.out | apply below_alloc | apply pw_below_drewN | apply below_drew1) | exact HB.out)))); have n1_ := Aside0.mk (Kd.S_lower (Kd.S_mono (ok' := fun k_ => some k_ ≠ (v376 : Value).ownBlock) ho1 (fun _ hk_ => hk_.2)) (below_size (by repeat (first | (with_reducible first | exact HB.out | apply below_alloc | apply pw_below_drewN | apply below_drew1) | exact HB.out)))); have n2_ := Aside0.mk (Kd.S_lower (Kd.S_mono (ok' := fun k_ => some k_ ≠ (v373 : Value).ownBlock) ho2 (fun _ hk_ => hk_.2)) (below_size (by repeat (first | (with_reducible first | exact HB.out | apply below_alloc | apply pw_below_drewN | apply below_drew1) | exact HB.out)))); have n3_ := Aside0.mk (below_step (by repeat (first | (with_reducible first | exact HB.out | apply below_alloc | apply pw_below_drewN | apply below_drew1) | exact HB.out)) hb); clear HB; have HO369 := n0_; have HO374 := n1_; have HO377 := n2_; have HB := n3_; clear n0_ n1_ n2_ n3_; (try clear hb); (try clear hb2); (try clear hk); (try clear hi); (try clear ho0); (try clear ho1); (try clear ho2)) | ((with_reducible refine gate_dst (N := 5) rfl ?_); refine box_event ?hg (N := 5) ?hd (cs := #[.slice none 0 0, .int .i64 0, .int .i64 0, .slice none 0 0, .slice none 0 0]) (t := 58) ?hr ?_; (case hd => rfl); (case hg => rfl); (case hr => first | (go_simp; done) | (go_simp; rfl)); intro gb379 hg w32 hbox hb; have n0_ := Aside0.mk (Kd.V_below (Kd.V_elderB (by (with_reducible repeat (first | apply Kd.V_alloc | apply Kd.V_drewN | apply Kd.V_drew)); exact HO369.out) gb379 (Nat.le_of_eq hg.symm)) hb); have n1_ := Aside0.mk (Kd.S_below (by (with_reducible repeat (first | apply Kd.S_alloc | apply Kd.S_drewN | apply Kd.S_drew)); exact HO374.out) hb); have n2_ := Aside0.mk (Kd.S_below (by (with_reducible repeat (first | apply Kd.S_alloc | apply Kd.S_drewN | apply Kd.S_drew)); exact HO377.out) hb); have n3_ := Aside0.mk (below_step (by repeat (first | (with_reducible first | exact HB.out | apply below_alloc | apply pw_below_drewN | apply below_drew1) | exact HB.out)) hb); have n4_ := Aside0.mk (hbox); have n5_ := Aside0.mk ((by rw [hg]; exact (below_size (by repeat (first | (with_reducible first | exact HB.out | apply below_alloc | apply pw_below_drewN | apply below_drew1) | exact HB.out))) : w.heap.size ≤ gb379)); have n6_ := Aside0.mk ((by rw [hg]; exact (below_size (by repeat (first | (with_reducible first | exact HB.out | apply below_alloc | apply pw_below_drewN | apply below_drew1) | exact HB.out))) : w.heap.size ≤ gb379)); clear HO369; clear HO374; clear HO377; clear HB; have HO369 := n0_; have HO374 := n1_; have HO377 := n2_; have HB := n3_; have BK379 := n4_; have GW379 := n5_; have GE379 := n6_; clear n0_ n1_ n2_ n3_ n4_ n5_ n6_; clear hb hbox hg; obtain ⟨Ao33, co33, eo33⟩ := Kd.V_slice HO369.out; subst eo33; have hcz34_0 : w32.cell? ⟨gb379, 0, none⟩ = some (.slice none 0 0) := (blk_cell BK379.out 0).trans rfl; have hcz34_1 : w32.cell? ⟨gb379, 1, none⟩ = some (.int .i64 0) := (blk_cell BK379.out 1).trans rfl; have hcz34_2 : w32.cell? ⟨gb379, 2, none⟩ = some (.int .i64 0) := (blk_cell BK379.out 2).trans rfl; have hcz34_3 : w32.cell? ⟨gb379, 3, none⟩ = some (.slice none 0 0) := (blk_cell BK379.out 3).trans rfl; have hcz34_4 : w32.cell? ⟨gb379, 4, none⟩ = some (.slice none 0 0) := (blk_cell BK379.out 4).trans rfl; have hfz34_0 := blk_frozen BK379.out 0; have hfz34_1 := blk_frozen BK379.out 1; have hfz34_2 := blk_frozen BK379.out 2; have hfz34_3 := blk_frozen BK379.out 3; have hfz34_4 := blk_frozen BK379.out 4; obtain ⟨Ao35, co35, eo35⟩ := Kd.S_slice HO374.out; subst eo35; obtain ⟨Ao36, co36, eo36⟩ := Kd.S_slice HO377.out; subst eo36) | ((with_reducible refine gate_callee (f := 46) rfl ?_); refine goesL_ (some 25) rfl rfl Try.func46 (by kernel_rfl) rfl #[.slice Ao33 t367.length co33] rfl (by (try simp only [List.map_toArray, List.map_cons, List.map_nil]); first | done | rfl | (simp only [List.length_drop, List.length_take]; rfl)) ?_; (with_reducible refine (lgconnected.calls k _ _ t367 false _ ?side1 ?side2 A4.out).mono ?_); (case side1 => refine (Kd.V_reads' (e := 26) (base := w.heap.size) (ok := fun k_ => ((some k_ ≠ (.slice Ao35 t372.length co35 : Value).ownBlock ∧ some k_ ≠ (.slice Ao36 t375.length co36 : Value).ownBlock) ∧ k_ ≠ gb379)) (n := t367.length) (c := co33) ?_).2.2; exact (by (with_reducible repeat (first | apply Kd.V_alloc | apply Kd.V_drewN | apply Kd.V_drew)); exact (Kd.V_mono (Kd.V_far (p := ⟨gb379, 4, none⟩) (Kd.V_far (p := ⟨gb379, 3, none⟩) (Kd.V_far (p := ⟨gb379, 2, none⟩) (Kd.V_far (p := ⟨gb379, 1, none⟩) (Kd.V_far (p := ⟨gb379, 0, none⟩) (Kd.V_mono HO369.out (fun k_ hk => (⟨hk, hk.2⟩ : _ ∧ k_ ≠ gb379))) (fun _ hk => hk.2) (.slice Ao33 t367.length co33)) (fun _ hk => hk.2) (.int .i64 t370)) (fun _ hk => hk.2) (.int .i64 t371)) (fun _ hk => hk.2) (.slice Ao35 t372.length co35)) (fun _ hk => hk.2) (.slice Ao36 t375.length co36)) (fun _ h_ => h_.1)))); (case side2 => exact (Kd.V_reads' HO369.out).2.1); rintro e w37 ⟨rfl, hb⟩; refine ⟨_, rfl, ?_⟩; have n0_ := Aside0.mk (Kd.V_below (by (with_reducible repeat (first | apply Kd.V_alloc | apply Kd.V_drewN | apply Kd.V_drew)); exact (Kd.V_mono (Kd.V_far (p := ⟨gb379, 4, none⟩) (Kd.V_far (p := ⟨gb379, 3, none⟩) (Kd.V_far (p := ⟨gb379, 2, none⟩) (Kd.V_far (p := ⟨gb379, 1, none⟩) (Kd.V_far (p := ⟨gb379, 0, none⟩) (Kd.V_mono HO369.out (fun k_ hk => (⟨hk, hk.2⟩ : _ ∧ k_ ≠ gb379))) (fun _ hk => hk.2) (.slice Ao33 t367.length co33)) (fun _ hk => hk.2) (.int .i64 t370)) (fun _ hk => hk.2) (.int .i64 t371)) (fun _ hk => hk.2) (.slice Ao35 t372.length co35)) (fun _ hk => hk.2) (.slice Ao36 t375.length co36)) (fun _ h_ => h_.1))) hb); have n1_ := Aside0.mk (Kd.S_below (by (with_reducible repeat (first | apply Kd.S_alloc | apply Kd.S_drewN | apply Kd.S_drew)); exact (Kd.S_mono (Kd.S_far (p := ⟨gb379, 4, none⟩) (Kd.S_far (p := ⟨gb379, 3, none⟩) (Kd.S_far (p := ⟨gb379, 2, none⟩) (Kd.S_far (p := ⟨gb379, 1, none⟩) (Kd.S_far (p := ⟨gb379, 0, none⟩) (Kd.S_types HO374.out BK379.out (by decide)) (fun _ hk => hk.2) (.slice Ao33 t367.length co33)) (fun _ hk => hk.2) (.int .i64 t370)) (fun _ hk => hk.2) (.int .i64 t371)) (fun _ hk => hk.2) (.slice Ao35 t372.length co35)) (fun _ hk => hk.2) (.slice Ao36 t375.length co36)) (fun _ h_ => h_.1))) hb); have n2_ := Aside0.mk (Kd.S_below (by (with_reducible repeat (first | apply Kd.S_alloc | apply Kd.S_drewN | apply Kd.S_drew)); exact (Kd.S_mono (Kd.S_far (p := ⟨gb379, 4, none⟩) (Kd.S_far (p := ⟨gb379, 3, none⟩) (Kd.S_far (p := ⟨gb379, 2, none⟩) (Kd.S_far (p := ⟨gb379, 1, none⟩) (Kd.S_far (p := ⟨gb379, 0, none⟩) (Kd.S_types HO377.out BK379.out (by decide)) (fun _ hk => hk.2) (.slice Ao33 t367.length co33)) (fun _ hk => hk.2) (.int .i64 t370)) (fun _ hk => hk.2) (.int .i64 t371)) (fun _ hk => hk.2) (.slice Ao35 t372.length co35)) (fun _ hk => hk.2) (.slice Ao36 t375.length co36)) (fun _ h_ => h_.1))) hb); have n3_ := Aside0.mk (blk_below (g := gb379) (o := .cells #[.slice Ao33 t367.length co33, .int .i64 t370, .int .i64 t371, .slice Ao35 t372.length co35, .slice Ao36 t375.length co36] 58 (0, 0)) (by (with_reducible repeat (first | refine blk_drewN ?_ _ | refine blk_drew ?_ | refine blk_alloc ?_ _)); refine blk_put (cs := #[.slice Ao33 t367.length co33, .int .i64 t370, .int .i64 t371, .slice Ao35 t372.length co35, .slice none 0 0]) ?_ 4 _ rfl; (with_reducible repeat (first | refine blk_drewN ?_ _ | refine blk_drew ?_ | refine blk_alloc ?_ _)); refine blk_put (cs := #[.slice Ao33 t367.length co33, .int .i64 t370, .int .i64 t371, .slice none 0 0, .slice none 0 0]) ?_ 3 _ rfl; (with_reducible repeat (first | refine blk_drewN ?_ _ | refine blk_drew ?_ | refine blk_alloc ?_ _)); refine blk_put (cs := #[.slice Ao33 t367.length co33, .int .i64 t370, .int .i64 0, .slice none 0 0, .slice none 0 0]) ?_ 2 _ rfl; (with_reducible repeat (first | refine blk_drewN ?_ _ | refine blk_drew ?_ | refine blk_alloc ?_ _)); refine blk_put (cs := #[.slice Ao33 t367.length co33, .int .i64 0, .int .i64 0, .slice none 0 0, .slice none 0 0]) ?_ 1 _ rfl; (with_reducible repeat (first | refine blk_drewN ?_ _ | refine blk_drew ?_ | refine blk_alloc ?_ _)); refine blk_put (cs := #[.slice none 0 0, .int .i64 0, .int .i64 0, .slice none 0 0, .slice none 0 0]) ?_ 0 _ rfl; (with_reducible repeat (first | refine blk_drewN ?_ _ | refine blk_drew ?_ | refine blk_alloc ?_ _)); exact BK379.out) hb); have n4_ := Aside0.mk (below_step (by repeat (first | (with_reducible first | exact HB.out | apply below_alloc | apply pw_below_drewN | apply below_drew1 | refine below_set ?_ GE379.out) | exact HB.out)) hb); clear HO369; clear HO374; clear HO377; clear BK379; clear HB; have HO369 := n0_; have HO374 := n1_; have HO377 := n2_; have BK379 := n3_; have HB := n4_; clear n0_ n1_ n2_ n3_ n4_; (try clear hb); (try clear hb2); (try clear hk); (try clear hi)))
   go_ret3
   exact ⟨by first | rfl | (simp [errW_none, errW_some] <;> rfl) | (simp [*, errW_none, errW_some] <;> rfl), by repeat (first | (with_reducible first | exact HB.out | apply below_alloc | apply pw_below_drewN | apply below_drew1 | refine below_set ?_ GE379.out) | exact HB.out)⟩
 ·
  rw [if_neg c3] at H
  have c3b0 : (t378 == 0) = false := beq_eq_false_iff_ne.mpr c3
  have c3b1 : (t378 != 0) = true := bne_iff_ne.mpr c3
  simp only [Option.some.injEq, Prod.mk.injEq] at H
  obtain ⟨rfl, rfl, rfl⟩ := H
  go_enter Try.func18, Try.ntmps18
  go_wp2_with (first | ((with_reducible refine gate_callee (f := 45) rfl ?_); refine goesL_ (some 15) rfl rfl Try.func45 (by kernel_rfl) rfl #[.slice A0 l0.length c0] rfl (by (try simp only [List.map_toArray, List.map_cons, List.map_nil]); first | done | rfl | (simp only [List.length_drop, List.length_take]; rfl)) ?_; (with_reducible refine (line_looked.calls k (fun k_ => k_ < w.heap.size) _ _ l0 t367 t370 t371 t372 t375 t378 _ ?side1 A2.out).mono ?_); (case side1 => exact Kd.V_mk HC0.out (Kd.F_below (Kd.C_F (Kd.heap_slice 3 (Kd.heap_int .i64)) HR0.out) (by repeat (first | (with_reducible first | exact HB.out | apply below_alloc | apply pw_below_drewN | apply below_drew1) | exact HB.out)))); rintro e w38 ⟨v368, v373, v376, rfl, ho0, ho1, ho2, hb⟩; refine ⟨_, rfl, ?_⟩; have n0_ := Aside0.mk (Kd.V_lower (Kd.V_mono (ok' := fun k_ => some k_ ≠ (v373 : Value).ownBlock ∧ some k_ ≠ (v376 : Value).ownBlock) ho0 (fun k_ hk_ => ⟨hk_.2.1, hk_.2.2⟩)) (below_size (by repeat (first | (with_reducible first | exact HB.out | apply below_alloc | apply pw_below_drewN | apply below_drew1) | exact HB.out)))); have n1_ := Aside0.mk (Kd.S_lower (Kd.S_mono (ok' := fun k_ => some k_ ≠ (v376 : Value).ownBlock) ho1 (fun _ hk_ => hk_.2)) (below_size (by repeat (first | (with_reducible first | exact HB.out | apply below_alloc | apply pw_below_drewN | apply below_drew1) | exact HB.out)))); have n2_ := Aside0.mk (Kd.S_lower (Kd.S_mono (ok' := fun k_ => some k_ ≠ (v373 : Value).ownBlock) ho2 (fun _ hk_ => hk_.2)) (below_size (by repeat (first | (with_reducible first | exact HB.out | apply below_alloc | apply pw_below_drewN | apply below_drew1) | exact HB.out)))); have n3_ := Aside0.mk (below_step (by repeat (first | (with_reducible first | exact HB.out | apply below_alloc | apply pw_below_drewN | apply below_drew1) | exact HB.out)) hb); clear HB; have HO369 := n0_; have HO374 := n1_; have HO377 := n2_; have HB := n3_; clear n0_ n1_ n2_ n3_; (try clear hb); (try clear hb2); (try clear hk); (try clear hi); (try clear ho0); (try clear ho1); (try clear ho2)) | ((with_reducible refine gate_dst (N := 5) rfl ?_); refine box_event ?hg (N := 5) ?hd (cs := #[.slice none 0 0, .int .i64 0, .int .i64 0, .slice none 0 0, .slice none 0 0]) (t := 58) ?hr ?_; (case hd => rfl); (case hg => rfl); (case hr => first | (go_simp; done) | (go_simp; rfl)); intro gb379 hg w39 hbox hb; have n0_ := Aside0.mk (Kd.V_below (Kd.V_elderB (by (with_reducible repeat (first | apply Kd.V_alloc | apply Kd.V_drewN | apply Kd.V_drew)); exact HO369.out) gb379 (Nat.le_of_eq hg.symm)) hb); have n1_ := Aside0.mk (Kd.S_below (by (with_reducible repeat (first | apply Kd.S_alloc | apply Kd.S_drewN | apply Kd.S_drew)); exact HO374.out) hb); have n2_ := Aside0.mk (Kd.S_below (by (with_reducible repeat (first | apply Kd.S_alloc | apply Kd.S_drewN | apply Kd.S_drew)); exact HO377.out) hb); have n3_ := Aside0.mk (below_step (by repeat (first | (with_reducible first | exact HB.out | apply below_alloc | apply pw_below_drewN | apply below_drew1) | exact HB.out)) hb); have n4_ := Aside0.mk (hbox); have n5_ := Aside0.mk ((by rw [hg]; exact (below_size (by repeat (first | (with_reducible first | exact HB.out | apply below_alloc | apply pw_below_drewN | apply below_drew1) | exact HB.out))) : w.heap.size ≤ gb379)); have n6_ := Aside0.mk ((by rw [hg]; exact (below_size (by repeat (first | (with_reducible first | exact HB.out | apply below_alloc | apply pw_below_drewN | apply below_drew1) | exact HB.out))) : w.heap.size ≤ gb379)); clear HO369; clear HO374; clear HO377; clear HB; have HO369 := n0_; have HO374 := n1_; have HO377 := n2_; have HB := n3_; have BK379 := n4_; have GW379 := n5_; have GE379 := n6_; clear n0_ n1_ n2_ n3_ n4_ n5_ n6_; clear hb hbox hg; obtain ⟨Ao40, co40, eo40⟩ := Kd.V_slice HO369.out; subst eo40; have hcz41_0 : w39.cell? ⟨gb379, 0, none⟩ = some (.slice none 0 0) := (blk_cell BK379.out 0).trans rfl; have hcz41_1 : w39.cell? ⟨gb379, 1, none⟩ = some (.int .i64 0) := (blk_cell BK379.out 1).trans rfl; have hcz41_2 : w39.cell? ⟨gb379, 2, none⟩ = some (.int .i64 0) := (blk_cell BK379.out 2).trans rfl; have hcz41_3 : w39.cell? ⟨gb379, 3, none⟩ = some (.slice none 0 0) := (blk_cell BK379.out 3).trans rfl; have hcz41_4 : w39.cell? ⟨gb379, 4, none⟩ = some (.slice none 0 0) := (blk_cell BK379.out 4).trans rfl; have hfz41_0 := blk_frozen BK379.out 0; have hfz41_1 := blk_frozen BK379.out 1; have hfz41_2 := blk_frozen BK379.out 2; have hfz41_3 := blk_frozen BK379.out 3; have hfz41_4 := blk_frozen BK379.out 4; obtain ⟨Ao42, co42, eo42⟩ := Kd.S_slice HO374.out; subst eo42; obtain ⟨Ao43, co43, eo43⟩ := Kd.S_slice HO377.out; subst eo43))
  go_ret3
  exact ⟨by first | rfl | (simp [errW_none, errW_some] <;> rfl) | (simp [*, errW_none, errW_some] <;> rfl), by repeat (first | (with_reducible first | exact HB.out | apply below_alloc | apply pw_below_drewN | apply below_drew1 | refine below_set ?_ GE379.out) | exact HB.out)⟩

section
attribute [local go_sem high] eqA37
def l5alive.f (k : Nat)  : Option (Bool) := (some (([(([3, 7] : List Int)), (([2, 4] : List Int))] : List (List Int)) : List (List Int))).bind fun y399 => ((line_Speed.f k y399).bind fun bt402 => ((line_Eigen.f k y399).bind fun bt406 => ((line_Regime.f k y399).bind fun bt410 => (if bt402.2.2 = 0 then (if (bt402.1 == 9 && (bt402.2.1 == 2)) = true then (if bt406.2 = 0 then ((l5same.f k bt406.1 (([5, 0] : List Int))).bind fun t416 => (if t416 = true then (if bt410.2.2 = 0 then (some (bt410.1 == 2)) else (some false)) else (some false))) else (some false)) else (some false)) else (some false)))))
theorem l5alive.mono : ∀ k, LeO (l5alive.f k ) (l5alive.f (k + 1) ) := by
 intro  k
 unfold l5alive.f
 repeat' first
   | (with_reducible exact LeO.refl _)
   | (with_reducible exact LeO.none _)
   | (with_reducible refine LeO.ite ?_ ?_)
   | (with_reducible refine LeO.bind ?_ (fun _ => ?_))
   | exact line_Eigen.mono _ _
   | exact line_Regime.mono _ _
   | exact line_Speed.mono _ _
   | exact l5same.mono _ _ _
   | exact LeO.none _
   | refine LeO.ite ?_ ?_
   | refine LeO.bind ?_ (fun _ => ?_)
set_option maxHeartbeats 8000000 in
set_option maxRecDepth 100000 in
theorem l5alive.callsT (k : Nat)  (r : Bool) (w : World) (h : l5alive.f k  = some r) (hr_ : Aside0 (r = true)) :
  Calls Try.prog 13 #[] w fun e w' => e = .returned (.bool r) ∧ Below w.heap.size w w' := by
 have hu37 := Try.underlying37
 have HB := Aside0.mk (Below.refl w.heap.size w)
 have H : ((some (([(([3, 7] : List Int)), (([2, 4] : List Int))] : List (List Int)) : List (List Int))).bind fun y399 => ((line_Speed.f k y399).bind fun bt402 => ((line_Eigen.f k y399).bind fun bt406 => ((line_Regime.f k y399).bind fun bt410 => (if bt402.2.2 = 0 then (if (bt402.1 == 9 && (bt402.2.1 == 2)) = true then (if bt406.2 = 0 then ((l5same.f k bt406.1 (([5, 0] : List Int))).bind fun t416 => (if t416 = true then (if bt410.2.2 = 0 then (some (bt410.1 == 2)) else (some false)) else (some false))) else (some false)) else (some false)) else (some false)))))) = some r := h
 clear h
 obtain ⟨y393, hy393⟩ : ∃ y_ : List Int, y_ = (([3, 7] : List Int)) := ⟨_, rfl⟩
 replace H : ((some (([y393, (([2, 4] : List Int))] : List (List Int)) : List (List Int))).bind fun y399 => ((line_Speed.f k y399).bind fun bt402 => ((line_Eigen.f k y399).bind fun bt406 => ((line_Regime.f k y399).bind fun bt410 => (if bt402.2.2 = 0 then (if (bt402.1 == 9 && (bt402.2.1 == 2)) = true then (if bt406.2 = 0 then ((l5same.f k bt406.1 (([5, 0] : List Int))).bind fun t416 => (if t416 = true then (if bt410.2.2 = 0 then (some (bt410.1 == 2)) else (some false)) else (some false))) else (some false)) else (some false)) else (some false)))))) = some r := by rw [hy393]; exact H
 have Ny393 := Aside0.mk hy393
 clear hy393
 obtain ⟨y396, hy396⟩ : ∃ y_ : List Int, y_ = (([2, 4] : List Int)) := ⟨_, rfl⟩
 replace H : ((some (([y393, y396] : List (List Int)) : List (List Int))).bind fun y399 => ((line_Speed.f k y399).bind fun bt402 => ((line_Eigen.f k y399).bind fun bt406 => ((line_Regime.f k y399).bind fun bt410 => (if bt402.2.2 = 0 then (if (bt402.1 == 9 && (bt402.2.1 == 2)) = true then (if bt406.2 = 0 then ((l5same.f k bt406.1 (([5, 0] : List Int))).bind fun t416 => (if t416 = true then (if bt410.2.2 = 0 then (some (bt410.1 == 2)) else (some false)) else (some false))) else (some false)) else (some false)) else (some false)))))) = some r := by rw [hy396]; exact H
 have Ny396 := Aside0.mk hy396
 clear hy396
 obtain ⟨y399, hy399⟩ : ∃ y_ : List (List Int), y_ = (([y393, y396] : List (List Int))) := ⟨_, rfl⟩
 replace H : ((line_Speed.f k y399).bind fun bt402 => ((line_Eigen.f k y399).bind fun bt406 => ((line_Regime.f k y399).bind fun bt410 => (if bt402.2.2 = 0 then (if (bt402.1 == 9 && (bt402.2.1 == 2)) = true then (if bt406.2 = 0 then ((l5same.f k bt406.1 (([5, 0] : List Int))).bind fun t416 => (if t416 = true then (if bt410.2.2 = 0 then (some (bt410.1 == 2)) else (some false)) else (some false))) else (some false)) else (some false)) else (some false))))) = some r := by rw [hy399]; exact H
 have Ny399 := Aside0.mk hy399
 clear hy399
 replace H := Option.bind_eq_some_iff.mp H
 obtain ⟨⟨t402, t403, t404⟩, A10, H⟩ := H
 replace H : ((line_Eigen.f k y399).bind fun bt406 => ((line_Regime.f k y399).bind fun bt410 => (if t404 = 0 then (if (t402 == 9 && (t403 == 2)) = true then (if bt406.2 = 0 then ((l5same.f k bt406.1 (([5, 0] : List Int))).bind fun t416 => (if t416 = true then (if bt410.2.2 = 0 then (some (bt410.1 == 2)) else (some false)) else (some false))) else (some false)) else (some false)) else (some false)))) = some r := H
 have A1 := Aside0.mk A10
 clear A10
 replace H := Option.bind_eq_some_iff.mp H
 obtain ⟨⟨t406, t407⟩, A20, H⟩ := H
 replace H : ((line_Regime.f k y399).bind fun bt410 => (if t404 = 0 then (if (t402 == 9 && (t403 == 2)) = true then (if t407 = 0 then ((l5same.f k t406 (([5, 0] : List Int))).bind fun t416 => (if t416 = true then (if bt410.2.2 = 0 then (some (bt410.1 == 2)) else (some false)) else (some false))) else (some false)) else (some false)) else (some false))) = some r := H
 have A2 := Aside0.mk A20
 clear A20
 replace H := Option.bind_eq_some_iff.mp H
 obtain ⟨⟨t410, t411, t412⟩, A30, H⟩ := H
 replace H : (if t404 = 0 then (if (t402 == 9 && (t403 == 2)) = true then (if t407 = 0 then ((l5same.f k t406 (([5, 0] : List Int))).bind fun t416 => (if t416 = true then (if t412 = 0 then (some (t410 == 2)) else (some false)) else (some false))) else (some false)) else (some false)) else (some false)) = some r := H
 have A3 := Aside0.mk A30
 clear A30
 by_cases c4 : t404 = 0
 ·
  rw [if_pos c4] at H
  have c4b0 : (t404 == 0) = true := beq_iff_eq.mpr c4
  clear c4
  by_cases c5 : (t402 == 9 && (t403 == 2)) = true
  ·
   rw [if_pos c5] at H
   have c5b0 : (t402 == 9 && (t403 == 2)) = true := c5
   (try (have c5b1 : decide (t402 = 9 && (t403 == 2)) = true := by simpa using c5))
   (try (have c5b2 : (t402 == 9 && (t403 == 2)) = true := by simpa using c5))
   clear c5
   by_cases c6 : t407 = 0
   ·
    rw [if_pos c6] at H
    have c6b0 : (t407 == 0) = true := beq_iff_eq.mpr c6
    clear c6
    obtain ⟨y413, hy413⟩ : ∃ y_ : List Int, y_ = (([5, 0] : List Int)) := ⟨_, rfl⟩
    replace H : ((l5same.f k t406 y413).bind fun t416 => (if t416 = true then (if t412 = 0 then (some (t410 == 2)) else (some false)) else (some false))) = some r := by first | (rw [hy413]; with_reducible exact H) | (have H2_ := (Option.bind_some _ _).symm.trans H; rw [hy413]; with_reducible exact H2_) | (have H2_ := (Option.bind_some _ _).symm.trans H; with_reducible exact H2_) | with_reducible exact H | (rw [hy413]; exact H) | exact H
    have Ny413 := Aside0.mk hy413
    clear hy413
    replace H := Option.bind_eq_some_iff.mp H
    obtain ⟨t416, A70, H⟩ := H
    replace H : (if t416 = true then (if t412 = 0 then (some (t410 == 2)) else (some false)) else (some false)) = some r := H
    have A7 := Aside0.mk A70
    clear A70
    by_cases c8 : t416 = true
    ·
     subst c8
     have H1 : (if t412 = 0 then (some (t410 == 2)) else (some false)) = some r := by rw [if_pos rfl] at H; exact H
     clear H
     have H := H1
     clear H1
     by_cases c9 : t412 = 0
     ·
      rw [if_pos c9] at H
      have c9b0 : (t412 == 0) = true := beq_iff_eq.mpr c9
      have c9b1 : (t412 != 0) = false := bne_eq_false_iff_eq.mpr c9
      clear c9
      obtain rfl := Option.some.inj H
      go_enter Try.func13, Try.ntmps13
      go_wp2_with (first | ((with_reducible refine gate_dst (N := 9) rfl ?_); (try (refine gate_guard (by rfl) ?_; dsimp only)); refine Kd.R_lit (Kd.int .i64) _ 3 ?hg (N := 9) ?hd (xs := ([3, 7] : List Int)) (inner := [.int .i64 3, .int .i64 7]) (ok := fun _ => True) (okp := fun _ => True) ?hr ?hp (fun _ hk => hk) trivial (Below.refl _ _) (Nat.le_refl _) (by simp) ?_; (case hd => rfl); (case hg => rfl); (case hr => first | (go_simp; done) | (go_simp; rfl)); (case hp => exact (Reps.one (show Kd.M (Kd.int .i64) _ _ _ 3 [.int .i64 3] from rfl) (Reps.one (show Kd.M (Kd.int .i64) _ _ _ 7 [.int .i64 7] from rfl) (Reps.none _ _)))); intro v394 w10 ho11 hb hg_ hnew_; clear hg_ hnew_; (first | rw [← Ny393.out] at ho11 | (simp only [Int.reduceToNat] at ho11; rw [← Ny393.out] at ho11)); have n0_ := Aside0.mk (Kd.R_lower ho11 (below_size (by repeat (first | (with_reducible first | exact HB.out | apply below_alloc | apply pw_below_drewN | apply below_drew1) | exact HB.out)))); have n1_ := Aside0.mk (below_step (by repeat (first | (with_reducible first | exact HB.out | apply below_alloc | apply pw_below_drewN | apply below_drew1) | exact HB.out)) hb); clear HB; have HO395 := n0_; have HB := n1_; clear n0_ n1_; clear hb ho11) | ((with_reducible refine gate_dst (N := 10) rfl ?_); (try (refine gate_guard (by rfl) ?_; dsimp only)); refine Kd.R_lit (Kd.int .i64) _ 3 ?hg (N := 10) ?hd (xs := ([2, 4] : List Int)) (inner := [.int .i64 2, .int .i64 4]) (ok := fun _ => True) (okp := fun _ => True) ?hr ?hp (fun _ hk => hk) trivial (Below.refl _ _) (Nat.le_refl _) (by simp) ?_; (case hd => rfl); (case hg => rfl); (case hr => first | (go_simp; done) | (go_simp; rfl)); (case hp => exact (Reps.one (show Kd.M (Kd.int .i64) _ _ _ 2 [.int .i64 2] from rfl) (Reps.one (show Kd.M (Kd.int .i64) _ _ _ 4 [.int .i64 4] from rfl) (Reps.none _ _)))); intro v397 w12 ho13 hb hg_ hnew_; clear hg_ hnew_; (first | rw [← Ny396.out] at ho13 | (simp only [Int.reduceToNat] at ho13; rw [← Ny396.out] at ho13)); have n0_ := Aside0.mk (Kd.R_elder' (by (with_reducible repeat (first | apply Kd.R_alloc | apply Kd.R_drewN | apply Kd.R_drew)); exact HO395.out) (Kd.R_base ho13) hb); have n1_ := Aside0.mk (Kd.R_lower (Kd.R_new' ho13 (Kd.R_lt (by (with_reducible repeat (first | apply Kd.R_alloc | apply Kd.R_drewN | apply Kd.R_drew)); exact HO395.out))) (below_size (by repeat (first | (with_reducible first | exact HB.out | apply below_alloc | apply pw_below_drewN | apply below_drew1) | exact HB.out)))); have n2_ := Aside0.mk (below_step (by repeat (first | (with_reducible first | exact HB.out | apply below_alloc | apply pw_below_drewN | apply below_drew1) | exact HB.out)) hb); clear HO395; clear HB; have HO395 := n0_; have HO398 := n1_; have HB := n2_; clear n0_ n1_ n2_; clear hb ho13; obtain ⟨Ao14, co14, eo14⟩ := Kd.R_slice HO395.out; subst eo14; obtain ⟨Ao15, co15, eo15⟩ := Kd.R_slice HO398.out; subst eo15) | ((with_reducible refine gate_dst (N := 11) rfl ?_); (try (refine gate_guard (by rfl) ?_; dsimp only)); refine Kd.N_lit (Kd.slice 3 (Kd.int .i64)) _ 26 ?hg (N' := 11) ?hd (xs := ([y393, y396] : List (List Int))) (inner := [.slice Ao14 y393.length co14, .slice Ao15 y396.length co15]) (ok := (fun _ => True)) (okp := (fun _ => True)) ?hr ?hp (fun _ hk => hk) ((show ∀ k_, w12.heap.size ≤ k_ → (fun _ => True) k_ from fun k_ hk => trivial) _ (Nat.le_refl _)) (Below.refl _ _) (Nat.le_refl _) (by simp) ?_; (case hd => rfl); (case hg => rfl); (case hr => first | (go_simp; done) | (go_simp; rfl)); (case hp => exact (Reps.one (show Kd.FK (Kd.slice 3 (Kd.int .i64)) _ _ y393 [.slice Ao14 y393.length co14] from (Kd.FK_slice_mk (Kd.R_reads' (Kd.R_mono (ok' := (fun _ => True)) (HO395.out) (fun k_ hk => trivial))).2.1 (Kd.R_F (Kd.R_mono (ok' := (fun _ => True)) (HO395.out) (fun k_ hk => trivial))))) (Reps.one (show Kd.FK (Kd.slice 3 (Kd.int .i64)) _ _ y396 [.slice Ao15 y396.length co15] from (Kd.FK_slice_mk (Kd.R_reads' (Kd.R_mono (ok' := (fun _ => True)) (HO398.out) (fun k_ hk => trivial))).2.1 (Kd.R_F (Kd.R_mono (ok' := (fun _ => True)) (HO398.out) (fun k_ hk => trivial))))) (Reps.none _ _)))); intro v400 w16 ho17 hb hg_ hnew_; clear hg_ hnew_; (first | rw [← Ny399.out] at ho17 | (simp only [Int.reduceToNat] at ho17; rw [← Ny399.out] at ho17)); have n0_ := Aside0.mk (Kd.N_lower ho17 (below_size (by repeat (first | (with_reducible first | exact HB.out | apply below_alloc | apply pw_below_drewN | apply below_drew1) | exact HB.out)))); have n1_ := Aside0.mk (below_step (by repeat (first | (with_reducible first | exact HB.out | apply below_alloc | apply pw_below_drewN | apply below_drew1) | exact HB.out)) hb); clear HB; clear HO395; clear HO398; have HO401 := n0_; have HB := n1_; clear n0_ n1_; clear hb ho17; obtain ⟨Ao18, co18, eo18⟩ := Kd.N_slice HO401.out; subst eo18) | ((with_reducible refine gate_callee (f := 22) rfl ?_); refine goesL_ (some 14) rfl rfl Try.func22 (by kernel_rfl) rfl #[.slice Ao18 y399.length co18] rfl (by (try simp only [List.map_toArray, List.map_cons, List.map_nil]); first | done | rfl | (simp only [List.length_drop, List.length_take]; rfl)) ?_; (with_reducible refine (line_Speed.calls k _ _ y399 t402 t403 t404 _ ?side1 ?side2 A1.out).mono ?_); (case side1 => repeat (first | exact (Kd.N_reads' HO401.out).2.2 | (with_reducible refine Kd.C_alloc ?_ _) | (with_reducible refine Kd.C_drewN ?_ _) | (with_reducible refine Kd.C_drew ?_))); (case side2 => exact (Kd.N_reads' HO401.out).2.1); rintro e w19 ⟨rfl, hb⟩; refine ⟨_, rfl, ?_⟩; have n0_ := Aside0.mk (Kd.N_below (by (with_reducible repeat (first | apply Kd.N_alloc | apply Kd.N_drewN | apply Kd.N_drew)); exact HO401.out) hb); have n1_ := Aside0.mk (below_step (by repeat (first | (with_reducible first | exact HB.out | apply below_alloc | apply pw_below_drewN | apply below_drew1) | exact HB.out)) hb); clear HO401; clear HB; have HO401 := n0_; have HB := n1_; clear n0_ n1_; (try clear hb); (try clear hb2); (try clear hk); (try clear hi)) | ((with_reducible refine gate_dst (N := 2) rfl ?_); (try (refine gate_guard (by rfl) ?_; dsimp only)); refine box_event ?hg (N := 2) ?hd (cs := #[.int .i64 0, .int .i64 0]) (t := 37) ?hr ?_; (case hd => rfl); (case hg => rfl); (case hr => first | (go_simp; done) | (go_simp; rfl)); intro gb405 hg w20 hbox hb; have n0_ := Aside0.mk (Kd.N_below (Kd.N_elderB (by (with_reducible repeat (first | apply Kd.N_alloc | apply Kd.N_drewN | apply Kd.N_drew)); exact HO401.out) gb405 (Nat.le_of_eq hg.symm)) hb); have n1_ := Aside0.mk (below_step (by repeat (first | (with_reducible first | exact HB.out | apply below_alloc | apply pw_below_drewN | apply below_drew1) | exact HB.out)) hb); have n2_ := Aside0.mk (hbox); have n3_ := Aside0.mk ((by rw [hg]; exact (below_size (by repeat (first | (with_reducible first | exact HB.out | apply below_alloc | apply pw_below_drewN | apply below_drew1) | exact HB.out))) : w.heap.size ≤ gb405)); have n4_ := Aside0.mk ((by rw [hg]; exact (below_size (by repeat (first | (with_reducible first | exact HB.out | apply below_alloc | apply pw_below_drewN | apply below_drew1) | exact HB.out))) : w.heap.size ≤ gb405)); clear HO401; clear HB; have HO401 := n0_; have HB := n1_; have BK405 := n2_; have GW405 := n3_; have GE405 := n4_; clear n0_ n1_ n2_ n3_ n4_; clear hb hbox hg; have hcz21_0 : w20.cell? ⟨gb405, 0, none⟩ = some (.int .i64 0) := (blk_cell BK405.out 0).trans rfl; have hcz21_1 : w20.cell? ⟨gb405, 1, none⟩ = some (.int .i64 0) := (blk_cell BK405.out 1).trans rfl; have hfz21_0 := blk_frozen BK405.out 0; have hfz21_1 := blk_frozen BK405.out 1) | ((with_reducible refine gate_callee (f := 15) rfl ?_); refine goesL_ (some 19) rfl rfl Try.func15 (by kernel_rfl) rfl #[.slice Ao18 y399.length co18] rfl (by (try simp only [List.map_toArray, List.map_cons, List.map_nil]); first | done | rfl | (simp only [List.length_drop, List.length_take]; rfl)) ?_; (with_reducible refine (line_Eigen.calls k _ _ y399 t406 t407 _ ?side1 ?side2 A2.out).mono ?_); (case side1 => refine (Kd.N_reads' (e := 26) (base := w.heap.size) (ok := fun k_ => (True ∧ k_ ≠ gb405)) (n := y399.length) (c := co18) ?_).2.2; exact (by (with_reducible repeat (first | apply Kd.N_alloc | apply Kd.N_drewN | apply Kd.N_drew)); exact (Kd.N_mono (Kd.N_far (p := ⟨gb405, 1, none⟩) (Kd.N_far (p := ⟨gb405, 0, none⟩) (Kd.N_mono HO401.out (fun k_ hk => (⟨hk, hk.2⟩ : _ ∧ k_ ≠ gb405))) (fun _ hk => hk.2) (.int .i64 t402)) (fun _ hk => hk.2) (.int .i64 t403)) (fun _ h_ => h_.1)))); (case side2 => exact (Kd.N_reads' HO401.out).2.1); rintro e w22 ⟨v408, rfl, ho0, hb⟩; refine ⟨_, rfl, ?_⟩; have n0_ := Aside0.mk (Kd.N_elder' (by (with_reducible repeat (first | apply Kd.N_alloc | apply Kd.N_drewN | apply Kd.N_drew)); exact (Kd.N_mono (Kd.N_far (p := ⟨gb405, 1, none⟩) (Kd.N_far (p := ⟨gb405, 0, none⟩) (Kd.N_mono HO401.out (fun k_ hk => (⟨hk, hk.2⟩ : _ ∧ k_ ≠ gb405))) (fun _ hk => hk.2) (.int .i64 t402)) (fun _ hk => hk.2) (.int .i64 t403)) (fun _ h_ => h_.1))) (Kd.R_base ho0) hb); have n1_ := Aside0.mk (Kd.R_lower ho0 (below_size (by repeat (first | (with_reducible first | exact HB.out | apply below_alloc | apply pw_below_drewN | apply below_drew1 | refine below_set ?_ GE405.out) | exact HB.out)))); have n2_ := Aside0.mk (blk_below (g := gb405) (o := .cells #[.int .i64 t402, .int .i64 t403] 37 (0, 0)) (by (with_reducible repeat (first | refine blk_drewN ?_ _ | refine blk_drew ?_ | refine blk_alloc ?_ _)); refine blk_put (cs := #[.int .i64 t402, .int .i64 0]) ?_ 1 _ rfl; (with_reducible repeat (first | refine blk_drewN ?_ _ | refine blk_drew ?_ | refine blk_alloc ?_ _)); refine blk_put (cs := #[.int .i64 0, .int .i64 0]) ?_ 0 _ rfl; (with_reducible repeat (first | refine blk_drewN ?_ _ | refine blk_drew ?_ | refine blk_alloc ?_ _)); exact BK405.out) hb); have n3_ := Aside0.mk (below_step (by repeat (first | (with_reducible first | exact HB.out | apply below_alloc | apply pw_below_drewN | apply below_drew1 | refine below_set ?_ GE405.out) | exact HB.out)) hb); clear HO401; clear BK405; clear HB; have HO401 := n0_; have HO409 := n1_; have BK405 := n2_; have HB := n3_; clear n0_ n1_ n2_ n3_; (try clear hb); (try clear hb2); (try clear hk); (try clear hi); (try clear ho0)) | ((with_reducible refine gate_callee (f := 18) rfl ?_); refine goesL_ (some 24) rfl rfl Try.func18 (by kernel_rfl) rfl #[.slice Ao18 y399.length co18] rfl (by (try simp only [List.map_toArray, List.map_cons, List.map_nil]); first | done | rfl | (simp only [List.length_drop, List.length_take]; rfl)) ?_; (with_reducible refine (line_Regime.calls k _ _ y399 t410 t411 t412 _ ?side1 ?side2 A3.out).mono ?_); (case side1 => repeat (first | exact (Kd.N_reads' HO401.out).2.2 | (with_reducible refine Kd.C_alloc ?_ _) | (with_reducible refine Kd.C_drewN ?_ _) | (with_reducible refine Kd.C_drew ?_))); (case side2 => exact (Kd.N_reads' HO401.out).2.1); rintro e w23 ⟨rfl, hb⟩; refine ⟨_, rfl, ?_⟩; have n0_ := Aside0.mk (Kd.N_below (by (with_reducible repeat (first | apply Kd.N_alloc | apply Kd.N_drewN | apply Kd.N_drew)); exact HO401.out) hb); have n1_ := Aside0.mk (Kd.R_below (by (with_reducible repeat (first | apply Kd.R_alloc | apply Kd.R_drewN | apply Kd.R_drew)); exact HO409.out) hb); have n2_ := Aside0.mk (blk_below (g := gb405) (o := .cells #[.int .i64 t402, .int .i64 t403] 37 (0, 0)) (by (with_reducible repeat (first | refine blk_drewN ?_ _ | refine blk_drew ?_ | refine blk_alloc ?_ _)); exact BK405.out) hb); have n3_ := Aside0.mk (below_step (by repeat (first | (with_reducible first | exact HB.out | apply below_alloc | apply pw_below_drewN | apply below_drew1 | refine below_set ?_ GE405.out) | exact HB.out)) hb); clear HO401; clear HO409; clear BK405; clear HB; have HO401 := n0_; have HO409 := n1_; have BK405 := n2_; have HB := n3_; clear n0_ n1_ n2_ n3_; (try clear hb); (try clear hb2); (try clear hk); (try clear hi); have hcz24_0 : w23.cell? ⟨gb405, 0, none⟩ = some (.int .i64 t402) := (blk_cell BK405.out 0).trans rfl; have hcz24_1 : w23.cell? ⟨gb405, 1, none⟩ = some (.int .i64 t403) := (blk_cell BK405.out 1).trans rfl; have hfz24_0 := blk_frozen BK405.out 0; have hfz24_1 := blk_frozen BK405.out 1) | ((with_reducible refine gate_dst (N := 41) rfl ?_); (try (refine gate_guard (by rfl) ?_; dsimp only)); refine Kd.R_lit (Kd.int .i64) _ 3 ?hg (N := 41) ?hd (xs := ([5, 0] : List Int)) (inner := [.int .i64 5, .int .i64 0]) (ok := fun _ => True) (okp := fun _ => True) ?hr ?hp (fun _ hk => hk) trivial (Below.refl _ _) (Nat.le_refl _) (by simp) ?_; (case hd => rfl); (case hg => rfl); (case hr => first | (go_simp; done) | (go_simp; rfl)); (case hp => exact (Reps.one (show Kd.M (Kd.int .i64) _ _ _ 5 [.int .i64 5] from rfl) (Reps.one (show Kd.M (Kd.int .i64) _ _ _ 0 [.int .i64 0] from rfl) (Reps.none _ _)))); intro v414 w25 ho26 hb hg_ hnew_; clear hg_ hnew_; (first | rw [← Ny413.out] at ho26 | (simp only [Int.reduceToNat] at ho26; rw [← Ny413.out] at ho26)); have n0_ := Aside0.mk (Kd.N_elder' (by (with_reducible repeat (first | apply Kd.N_alloc | apply Kd.N_drewN | apply Kd.N_drew)); exact HO401.out) (Kd.R_base ho26) hb); have n1_ := Aside0.mk (Kd.R_elder' (by (with_reducible repeat (first | apply Kd.R_alloc | apply Kd.R_drewN | apply Kd.R_drew)); exact HO409.out) (Kd.R_base ho26) hb); have n2_ := Aside0.mk (Kd.R_lower (Kd.R_new' ho26 (Kd.R_lt (by (with_reducible repeat (first | apply Kd.R_alloc | apply Kd.R_drewN | apply Kd.R_drew)); exact HO409.out))) (below_size (by repeat (first | (with_reducible first | exact HB.out | apply below_alloc | apply pw_below_drewN | apply below_drew1 | refine below_set ?_ GE405.out) | exact HB.out)))); have n3_ := Aside0.mk (blk_below (g := gb405) (o := .cells #[.int .i64 t402, .int .i64 t403] 37 (0, 0)) (by (with_reducible repeat (first | refine blk_drewN ?_ _ | refine blk_drew ?_ | refine blk_alloc ?_ _)); exact BK405.out) hb); have n4_ := Aside0.mk (below_step (by repeat (first | (with_reducible first | exact HB.out | apply below_alloc | apply pw_below_drewN | apply below_drew1 | refine below_set ?_ GE405.out) | exact HB.out)) hb); clear HO401; clear HO409; clear BK405; clear HB; have HO401 := n0_; have HO409 := n1_; have HO415 := n2_; have BK405 := n3_; have HB := n4_; clear n0_ n1_ n2_ n3_ n4_; clear hb ho26; obtain ⟨Ao27, co27, eo27⟩ := Kd.R_slice HO409.out; subst eo27; obtain ⟨Ao28, co28, eo28⟩ := Kd.R_slice HO415.out; subst eo28) | (go_at_call 17; (with_reducible refine (l5same.calls k _ _ t406 _ _ y413 true _ ?side1 ?side2 ?side3 ?side4 A7.out).mono ?_); (case side1 => repeat (first | exact (Kd.R_reads' HO409.out).2.2 | (with_reducible refine Kd.C_alloc ?_ _) | (with_reducible refine Kd.C_drewN ?_ _) | (with_reducible refine Kd.C_drew ?_))); (case side2 => exact (Kd.R_reads' HO409.out).2.1); (case side3 => repeat (first | exact (Kd.R_reads' HO415.out).2.2 | (with_reducible refine Kd.C_alloc ?_ _) | (with_reducible refine Kd.C_drewN ?_ _) | (with_reducible refine Kd.C_drew ?_))); (case side4 => exact (Kd.R_reads' HO415.out).2.1); rintro e w' ⟨rfl, ⟨nd, rfl⟩⟩))
      go_ret
      exact ⟨by first | rfl | (simp [errW_none, errW_some] <;> rfl) | (simp [*, errW_none, errW_some] <;> rfl), by repeat (first | (with_reducible first | exact HB.out | apply below_alloc | apply pw_below_drewN | apply below_drew1 | refine below_set ?_ GE405.out) | exact HB.out)⟩
     ·
      rw [if_neg c9] at H
      have c9b0 : (t412 == 0) = false := beq_eq_false_iff_ne.mpr c9
      have c9b1 : (t412 != 0) = true := bne_iff_ne.mpr c9
      exact absurd (H.trans (congrArg some hr_.out)) (by simp)
    ·
     replace c8 := Bool.eq_false_iff.mpr c8
     subst c8
     have H1 : (some false) = some r := by rw [if_neg (show ¬ (false = true) by decide)] at H; exact H
     clear H
     have H := H1
     clear H1
     exact absurd (H.trans (congrArg some hr_.out)) (by simp)
   ·
    rw [if_neg c6] at H
    have c6b0 : (t407 == 0) = false := beq_eq_false_iff_ne.mpr c6
    exact absurd (H.trans (congrArg some hr_.out)) (by simp)
  ·
   rw [if_neg c5] at H
   have c5b0 : (t402 == 9 && (t403 == 2)) = false := by simpa using c5
   (try (have c5b1 : decide (t402 = 9 && (t403 == 2)) = false := by simpa using c5))
   (try (have c5b2 : (t402 == 9 && (t403 == 2)) = false := by simpa using c5))
   (try (have c5b3 : ¬ (t402 = 9 && (t403 == 2)) := by simpa using c5))
   clear c5
   exact absurd (H.trans (congrArg some hr_.out)) (by simp)
 ·
  rw [if_neg c4] at H
  have c4b0 : (t404 == 0) = false := beq_eq_false_iff_ne.mpr c4
  exact absurd (H.trans (congrArg some hr_.out)) (by simp)
set_option maxRecDepth 100000 in
theorem l5alive.yes : ∀ k r, l5alive.f k = some r → r = true := by
 intro k r h
 have h1 : l5alive.f 100 = some true := by decide +kernel
 have h2 := at_rounds l5alive.mono (Nat.le_max_left k 100) h
 have h3 := at_rounds l5alive.mono (Nat.le_max_right k 100) h1
 exact Option.some.inj (h2.symm.trans h3)
theorem l5alive.calls (k : Nat)  (r : Bool) (w : World) (h : l5alive.f k  = some r) :
  Calls Try.prog 13 #[] w fun e w' => e = .returned (.bool r) ∧ Below w.heap.size w w' := l5alive.callsT k r w h ⟨l5alive.yes k r h⟩
end

def l5rows.l0 : Nat → List (List Int) → List (List Int) → Int → Option (Bool)
 | 0, _, _, _ => none
 | k + 1, x0, x1, x5 => if x5 < (x0.length : Int) then (if 0 ≤ x5 then (if x5 < (x1.length : Int) then ((l5same.f k (rd_L1 x0 x5) (rd_L1 x1 x5)).bind fun t624 => (if t624 = true then (l5rows.l0 k x0 x1 (wrap64 (x5 + 1))) else (some false))) else (none)) else (none)) else (some true)
def l5rows.f (k : Nat) (l0 : List (List Int)) (l1 : List (List Int)) : Option (Bool) := if (l0.length : Int) = (l1.length : Int) then (l5rows.l0 k l0 l1 0) else (some false)
theorem l5rows.mono_l : ∀ k, (∀ y0 y1 y2, LeO (l5rows.l0 k y0 y1 y2) (l5rows.l0 (k + 1) y0 y1 y2))
 | 0 => fun _ _ _ r h => by simp [l5rows.l0] at h
 | k + 1 => by
  have ih0 := l5rows.mono_l k
  ·
   intro y0 y1 y2
   unfold l5rows.l0
   repeat' first
   | (with_reducible exact LeO.refl _)
   | (with_reducible exact LeO.none _)
   | (with_reducible refine LeO.ite ?_ ?_)
   | (with_reducible refine LeO.bind ?_ (fun _ => ?_))
   | exact ih0 _ _ _
   | exact l5same.mono _ _ _
   | exact LeO.none _
   | refine LeO.ite ?_ ?_
   | refine LeO.bind ?_ (fun _ => ?_)
theorem l5rows.mono : ∀ a0 a1 k, LeO (l5rows.f k a0 a1) (l5rows.f (k + 1) a0 a1) := by
 intro a0 a1 k
 have ih0 := l5rows.mono_l k
 unfold l5rows.f
 repeat' first
   | (with_reducible exact LeO.refl _)
   | (with_reducible exact LeO.none _)
   | (with_reducible refine LeO.ite ?_ ?_)
   | (with_reducible refine LeO.bind ?_ (fun _ => ?_))
   | exact ih0 _ _ _
   | exact l5same.mono _ _ _
   | exact LeO.none _
   | refine LeO.ite ?_ ?_
   | refine LeO.bind ?_ (fun _ => ?_)
set_option maxHeartbeats 8000000 in
set_option maxRecDepth 100000 in
theorem l5rows.calls (k : Nat) (A0 : Option Addr) (c0 : Nat) (l0 : List (List Int)) (A1 : Option Addr) (c1 : Nat) (l1 : List (List Int)) (r : Bool) (w : World) (hr0 : Kd.C (Kd.slice 3 (Kd.int .i64)) w A0 l0.length l0) (hc0 : l0.length ≤ c0) (hr1 : Kd.C (Kd.slice 3 (Kd.int .i64)) w A1 l1.length l1) (hc1 : l1.length ≤ c1) (h : l5rows.f k l0 l1 = some r) :
  Calls Try.prog 20 #[.slice A0 l0.length c0, .slice A1 l1.length c1] w fun e w' => e = .returned (.bool r) ∧ Drawn0 w w' := by
 have HR0 := Aside0.mk hr0
 have HC0 := Aside0.mk hc0
 clear hr0 hc0
 have HR1 := Aside0.mk hr1
 have HC1 := Aside0.mk hc1
 clear hr1 hc1
 have H : (if (l0.length : Int) = (l1.length : Int) then (l5rows.l0 k l0 l1 0) else (some false)) = some r := h
 clear h
 by_cases c3 : (l0.length : Int) = (l1.length : Int)
 ·
  rw [if_pos c3] at H
  have c3b0 : ((l0.length : Int) == (l1.length : Int)) = true := beq_iff_eq.mpr c3
  have c3b2 : (l0.length == l1.length) = true := by first | simpa using c3 | (simp at c3 ⊢; omega)
  clear c3
  have H' := Aside0.mk H
  clear H
  go_enter Try.func20, Try.ntmps20
  go_wp2
  go_loopg [5] k (fun kq v5 w' => ∃ (x5_1 : Int), v5 = .int .i64 x5_1 ∧ Aside0 (l5rows.l0 kq l0 l1 x5_1 = some r) ∧ Aside0 (kq ≤ k) ∧ Drawn0 w w')
  case atStart => exact ⟨(0), rfl, H', ⟨Nat.le_refl _⟩, by repeat (first | exact Drawn0.refl _ | apply Drawn0.step)⟩
  case round =>
   clear H'
   obtain ⟨x5_1, rfl, HA, HK1, ⟨m1, rfl⟩⟩ := hrel
   cases gk with
   | zero => exact absurd HA.out (by simp [l5rows.l0])
   | succ k1 =>
    have H := HA.out
    clear HA
    simp only [l5rows.l0] at H
    by_cases c4 : x5_1 < (l0.length : Int)
    ·
     rw [if_pos c4] at H
     have c4b0 : decide (x5_1 < (l0.length : Int)) = true := decide_eq_true c4
     clear c4
     by_cases c5 : 0 ≤ x5_1
     ·
      rw [if_pos c5] at H
      have c5b0 : decide (0 ≤ x5_1) = true := decide_eq_true c5
      clear c5
      by_cases c6 : x5_1 < (l1.length : Int)
      ·
       rw [if_pos c6] at H
       have c6b0 : decide (x5_1 < (l1.length : Int)) = true := decide_eq_true c6
       clear c6
       replace H := Option.bind_eq_some_iff.mp H
       obtain ⟨t624, A70, H⟩ := H
       replace H : (if t624 = true then (l5rows.l0 k1 l0 l1 (wrap64 (x5_1 + 1))) else (some false)) = some r := H
       have A7 := Aside0.mk A70
       clear A70
       by_cases c8 : t624 = true
       ·
        subst c8
        have H1 : (l5rows.l0 k1 l0 l1 (wrap64 (x5_1 + 1))) = some r := by rw [if_pos rfl] at H; exact H
        clear H
        have H := H1
        clear H1
        have H' := Aside0.mk H
        clear H
        have p622 : 0 ≤ (x5_1 : Int) := of_decide_eq_true (by assumption)
        have q622 : x5_1 < (l0.length : Int) := of_decide_eq_true (by assumption)
        obtain ⟨ad622, A622_0, c622_0, e622, hx622_0, hl622_0, hi622_0⟩ := at_L1 HR0.out x5_1 p622 q622
        cases e622
        have HR622_0 := Aside0.mk hi622_0
        have HC622_0 := Aside0.mk hl622_0
        clear hi622_0 hl622_0
        replace p622 := eq_true p622
        replace q622 := eq_true q622
        have p623 : 0 ≤ (x5_1 : Int) := of_decide_eq_true (by assumption)
        have q623 : x5_1 < (l1.length : Int) := of_decide_eq_true (by assumption)
        obtain ⟨ad623, A623_0, c623_0, e623, hx623_0, hl623_0, hi623_0⟩ := at_L1 HR1.out x5_1 p623 q623
        cases e623
        have HR623_0 := Aside0.mk hi623_0
        have HC623_0 := Aside0.mk hl623_0
        clear hi623_0 hl623_0
        replace p623 := eq_true p623
        replace q623 := eq_true q623
        go_wp2_with (first | (go_at_call 17; (with_reducible refine (l5same.calls k1 _ _ (rd_L1 l0 x5_1) _ _ (rd_L1 l1 x5_1) true _ ?side1 ?side2 ?side3 ?side4 A7.out).mono ?_); (case side1 => repeat (first | exact HR622_0.out)); (case side2 => exact HC622_0.out); (case side3 => repeat (first | exact HR623_0.out)); (case side4 => exact HC623_0.out); rintro e w' ⟨rfl, ⟨nd, rfl⟩⟩; (try first | exact ⟨rfl, _, World.drewN_drewN _ _ _⟩ | exact ⟨rfl, _, Eq.trans (World.drewN_drewN _ _ _) (congrArg (World.drewN _) (Nat.add_assoc _ _ _))⟩)))
        repeat (go_quiet (first | (go_at_call 17; (with_reducible refine (l5same.calls k1 _ _ (rd_L1 l0 x5_1) _ _ (rd_L1 l1 x5_1) true _ ?side1 ?side2 ?side3 ?side4 A7.out).mono ?_); (case side1 => repeat (first | exact HR622_0.out)); (case side2 => exact HC622_0.out); (case side3 => repeat (first | exact HR623_0.out)); (case side4 => exact HC623_0.out); rintro e w' ⟨rfl, ⟨nd, rfl⟩⟩; (try first | exact ⟨rfl, _, World.drewN_drewN _ _ _⟩ | exact ⟨rfl, _, Eq.trans (World.drewN_drewN _ _ _) (congrArg (World.drewN _) (Nat.add_assoc _ _ _))⟩))); try go_wp2_with (first | (go_at_call 17; (with_reducible refine (l5same.calls k1 _ _ (rd_L1 l0 x5_1) _ _ (rd_L1 l1 x5_1) true _ ?side1 ?side2 ?side3 ?side4 A7.out).mono ?_); (case side1 => repeat (first | exact HR622_0.out)); (case side2 => exact HC622_0.out); (case side3 => repeat (first | exact HR623_0.out)); (case side4 => exact HC623_0.out); rintro e w' ⟨rfl, ⟨nd, rfl⟩⟩; (try first | exact ⟨rfl, _, World.drewN_drewN _ _ _⟩ | exact ⟨rfl, _, Eq.trans (World.drewN_drewN _ _ _) (congrArg (World.drewN _) (Nat.add_assoc _ _ _))⟩))))
        go_roundg k1
        case measure => have := HK1.out; omega
        case rel => exact ⟨(wrap64 (x5_1 + 1)), rfl, H', ⟨by have := HK1.out; omega⟩, by repeat (first | exact Drawn0.refl _ | apply Drawn0.step)⟩
       ·
        replace c8 := Bool.eq_false_iff.mpr c8
        subst c8
        have H1 : (some false) = some r := by rw [if_neg (show ¬ (false = true) by decide)] at H; exact H
        clear H
        have H := H1
        clear H1
        obtain rfl := Option.some.inj H
        have p622 : 0 ≤ (x5_1 : Int) := of_decide_eq_true (by assumption)
        have q622 : x5_1 < (l0.length : Int) := of_decide_eq_true (by assumption)
        obtain ⟨ad622, A622_0, c622_0, e622, hx622_0, hl622_0, hi622_0⟩ := at_L1 HR0.out x5_1 p622 q622
        cases e622
        have HR622_0 := Aside0.mk hi622_0
        have HC622_0 := Aside0.mk hl622_0
        clear hi622_0 hl622_0
        replace p622 := eq_true p622
        replace q622 := eq_true q622
        have p623 : 0 ≤ (x5_1 : Int) := of_decide_eq_true (by assumption)
        have q623 : x5_1 < (l1.length : Int) := of_decide_eq_true (by assumption)
        obtain ⟨ad623, A623_0, c623_0, e623, hx623_0, hl623_0, hi623_0⟩ := at_L1 HR1.out x5_1 p623 q623
        cases e623
        have HR623_0 := Aside0.mk hi623_0
        have HC623_0 := Aside0.mk hl623_0
        clear hi623_0 hl623_0
        replace p623 := eq_true p623
        replace q623 := eq_true q623
        go_wp2_with (first | (go_at_call 17; (with_reducible refine (l5same.calls k1 _ _ (rd_L1 l0 x5_1) _ _ (rd_L1 l1 x5_1) false _ ?side1 ?side2 ?side3 ?side4 A7.out).mono ?_); (case side1 => repeat (first | exact HR622_0.out)); (case side2 => exact HC622_0.out); (case side3 => repeat (first | exact HR623_0.out)); (case side4 => exact HC623_0.out); rintro e w' ⟨rfl, ⟨nd, rfl⟩⟩; (try first | exact ⟨rfl, _, World.drewN_drewN _ _ _⟩ | exact ⟨rfl, _, Eq.trans (World.drewN_drewN _ _ _) (congrArg (World.drewN _) (Nat.add_assoc _ _ _))⟩)))
        repeat (go_quiet (first | (go_at_call 17; (with_reducible refine (l5same.calls k1 _ _ (rd_L1 l0 x5_1) _ _ (rd_L1 l1 x5_1) false _ ?side1 ?side2 ?side3 ?side4 A7.out).mono ?_); (case side1 => repeat (first | exact HR622_0.out)); (case side2 => exact HC622_0.out); (case side3 => repeat (first | exact HR623_0.out)); (case side4 => exact HC623_0.out); rintro e w' ⟨rfl, ⟨nd, rfl⟩⟩; (try first | exact ⟨rfl, _, World.drewN_drewN _ _ _⟩ | exact ⟨rfl, _, Eq.trans (World.drewN_drewN _ _ _) (congrArg (World.drewN _) (Nat.add_assoc _ _ _))⟩))); try go_wp2_with (first | (go_at_call 17; (with_reducible refine (l5same.calls k1 _ _ (rd_L1 l0 x5_1) _ _ (rd_L1 l1 x5_1) false _ ?side1 ?side2 ?side3 ?side4 A7.out).mono ?_); (case side1 => repeat (first | exact HR622_0.out)); (case side2 => exact HC622_0.out); (case side3 => repeat (first | exact HR623_0.out)); (case side4 => exact HC623_0.out); rintro e w' ⟨rfl, ⟨nd, rfl⟩⟩; (try first | exact ⟨rfl, _, World.drewN_drewN _ _ _⟩ | exact ⟨rfl, _, Eq.trans (World.drewN_drewN _ _ _) (congrArg (World.drewN _) (Nat.add_assoc _ _ _))⟩))))
        go_ret
        exact ⟨by first | rfl | (simp; done) | (simp [*]; done), by repeat (first | exact Drawn0.refl _ | apply Drawn0.step)⟩
      ·
       rw [if_neg c6] at H
       exact absurd H (by simp)
     ·
      rw [if_neg c5] at H
      exact absurd H (by simp)
    ·
     rw [if_neg c4] at H
     have c4b0 : decide (x5_1 < (l0.length : Int)) = false := decide_eq_false c4
     clear c4
     obtain rfl := Option.some.inj H
     go_wp2
     go_ret
     exact ⟨by first | rfl | (simp; done) | (simp [*]; done), by repeat (first | exact Drawn0.refl _ | apply Drawn0.step)⟩
 ·
  rw [if_neg c3] at H
  have c3b0 : ((l0.length : Int) == (l1.length : Int)) = false := beq_eq_false_iff_ne.mpr c3
  have c3b2 : (l0.length == l1.length) = false := by first | simpa using c3 | (simp at c3 ⊢; omega)
  obtain rfl := Option.some.inj H
  go_enter Try.func20, Try.ntmps20
  go_wp2
  go_ret
  exact ⟨by first | rfl | (simp; done) | (simp [*]; done), by repeat (first | exact Drawn0.refl _ | apply Drawn0.step)⟩

def line_Star.f (k : Nat) (l0 : List (List Int)) : Option ((List (List Int)) × Int) := (line_of.f k l0).bind fun bt649 => (if bt649.2 = true then ((lgpace.f k bt649.1).bind fun bt653 => (if bt653.2.2 = true then (if bt653.1 > 0 then (some (([] : List (List Int)), 11)) else ((lgclosed.f k bt649.1).bind fun t657 => (some (t657, 0)))) else ((lgclosed.f k bt649.1).bind fun t660 => (some (t660, 0))))) else (some (([] : List (List Int)), 2)))
theorem line_Star.mono : ∀ a0 k, LeO (line_Star.f k a0) (line_Star.f (k + 1) a0) := by
 intro a0 k
 unfold line_Star.f
 repeat' first
   | (with_reducible exact lgclosed.mono _ _)
   | (with_reducible exact lgpace.mono _ _)
   | (with_reducible exact line_of.mono _ _)
   | (with_reducible exact LeO.refl _)
   | (with_reducible exact LeO.none _)
   | (with_reducible refine LeO.ite ?_ ?_)
   | (with_reducible refine LeO.bind ?_ (fun _ => ?_))
   | exact lgclosed.mono _ _
   | exact lgpace.mono _ _
   | exact line_of.mono _ _
   | exact LeO.none _
   | refine LeO.ite ?_ ?_
   | refine LeO.bind ?_ (fun _ => ?_)
set_option maxHeartbeats 8000000 in
set_option maxRecDepth 100000 in
theorem line_Star.calls (k : Nat) (A0 : Option Addr) (c0 : Nat) (l0 : List (List Int)) (r1 : List (List Int)) (r2 : Int) (w : World) (hr0 : Kd.C (Kd.slice 3 (Kd.int .i64)) w A0 l0.length l0) (hc0 : l0.length ≤ c0) (h : line_Star.f k l0 = some (r1, r2)) :
  Calls Try.prog 21 #[.slice A0 l0.length c0] w fun e w' => ∃ v0_ : Value, e = .returned (.tuple #[v0_, .int .i64 r2]) ∧ Kd.S (Kd.slice 3 (Kd.int .i64)) 26 w' w.heap.size (fun _ => True) v0_ r1 ∧ Below w.heap.size w w' := by
 have hu37 := Try.underlying37
 have HR0 := Aside0.mk hr0
 have HC0 := Aside0.mk hc0
 clear hr0 hc0
 have HB := Aside0.mk (Below.refl w.heap.size w)
 have H : ((line_of.f k l0).bind fun bt649 => (if bt649.2 = true then ((lgpace.f k bt649.1).bind fun bt653 => (if bt653.2.2 = true then (if bt653.1 > 0 then (some (([] : List (List Int)), 11)) else ((lgclosed.f k bt649.1).bind fun t657 => (some (t657, 0)))) else ((lgclosed.f k bt649.1).bind fun t660 => (some (t660, 0))))) else (some (([] : List (List Int)), 2)))) = some (r1, r2) := h
 clear h
 replace H := Option.bind_eq_some_iff.mp H
 obtain ⟨⟨t649, t652⟩, A20, H⟩ := H
 replace H : (if t652 = true then ((lgpace.f k t649).bind fun bt653 => (if bt653.2.2 = true then (if bt653.1 > 0 then (some (([] : List (List Int)), 11)) else ((lgclosed.f k t649).bind fun t657 => (some (t657, 0)))) else ((lgclosed.f k t649).bind fun t660 => (some (t660, 0))))) else (some (([] : List (List Int)), 2))) = some (r1, r2) := H
 have A2 := Aside0.mk A20
 clear A20
 by_cases c3 : t652 = true
 ·
  subst c3
  have H1 : ((lgpace.f k t649).bind fun bt653 => (if bt653.2.2 = true then (if bt653.1 > 0 then (some (([] : List (List Int)), 11)) else ((lgclosed.f k t649).bind fun t657 => (some (t657, 0)))) else ((lgclosed.f k t649).bind fun t660 => (some (t660, 0))))) = some (r1, r2) := by rw [if_pos rfl] at H; exact H
  clear H
  have H := H1
  clear H1
  replace H := Option.bind_eq_some_iff.mp H
  obtain ⟨⟨t653, t654, t655⟩, A40, H⟩ := H
  replace H : (if t655 = true then (if t653 > 0 then (some (([] : List (List Int)), 11)) else ((lgclosed.f k t649).bind fun t657 => (some (t657, 0)))) else ((lgclosed.f k t649).bind fun t660 => (some (t660, 0)))) = some (r1, r2) := H
  have A4 := Aside0.mk A40
  clear A40
  by_cases c5 : t655 = true
  ·
   subst c5
   have H1 : (if t653 > 0 then (some (([] : List (List Int)), 11)) else ((lgclosed.f k t649).bind fun t657 => (some (t657, 0)))) = some (r1, r2) := by rw [if_pos rfl] at H; exact H
   clear H
   have H := H1
   clear H1
   by_cases c6 : t653 > 0
   ·
    rw [if_pos c6] at H
    have c6b0 : decide (0 < t653) = true := decide_eq_true c6
    clear c6
    simp only [Option.some.injEq, Prod.mk.injEq] at H
    obtain ⟨rfl, rfl⟩ := H
    go_enter Try.func21, Try.ntmps21
    go_wp2_with (first | ((with_reducible refine gate_callee (f := 64) rfl ?_); refine goesL_ (some 10) rfl rfl Try.func64 (by kernel_rfl) rfl #[.slice A0 l0.length c0] rfl (by (try simp only [List.map_toArray, List.map_cons, List.map_nil]); first | done | rfl | (simp only [List.length_drop, List.length_take]; rfl)) ?_; (with_reducible refine (line_of.calls k (fun k_ => k_ < w.heap.size) _ _ l0 t649 true _ ?side1 A2.out).mono ?_); (case side1 => exact Kd.V_mk HC0.out (Kd.F_below (Kd.C_F (Kd.heap_slice 3 (Kd.heap_int .i64)) HR0.out) (by repeat (first | (with_reducible first | exact HB.out | apply below_alloc | apply pw_below_drewN | apply below_drew1) | exact HB.out)))); rintro e w7 ⟨v650, rfl, ho0, hb⟩; refine ⟨_, rfl, ?_⟩; have n0_ := Aside0.mk (Kd.V_lower (Kd.V_mono (ok' := fun k_ => True) ho0 (fun k_ hk_ => trivial)) (below_size (by repeat (first | (with_reducible first | exact HB.out | apply below_alloc | apply pw_below_drewN | apply below_drew1) | exact HB.out)))); have n1_ := Aside0.mk (below_step (by repeat (first | (with_reducible first | exact HB.out | apply below_alloc | apply pw_below_drewN | apply below_drew1) | exact HB.out)) hb); clear HB; have HO651 := n0_; have HB := n1_; clear n0_ n1_; (try clear hb); (try clear hb2); (try clear hk); (try clear hi); (try clear ho0); obtain ⟨Ao8, co8, eo8⟩ := Kd.V_slice HO651.out; subst eo8) | ((with_reducible refine gate_callee (f := 65) rfl ?_); refine goesL_ (some 17) rfl rfl Try.func65 (by kernel_rfl) rfl #[.slice Ao8 t649.length co8] rfl (by (try simp only [List.map_toArray, List.map_cons, List.map_nil]); first | done | rfl | (simp only [List.length_drop, List.length_take]; rfl)) ?_; (with_reducible refine (lgpace.calls k _ _ t649 t653 t654 true _ ?side1 ?side2 A4.out).mono ?_); (case side1 => repeat (first | exact (Kd.V_reads' HO651.out).2.2 | (with_reducible refine Kd.C_alloc ?_ _) | (with_reducible refine Kd.C_drewN ?_ _) | (with_reducible refine Kd.C_drew ?_))); (case side2 => exact (Kd.V_reads' HO651.out).2.1); rintro e w9 ⟨rfl, hb⟩; refine ⟨_, rfl, ?_⟩; have n0_ := Aside0.mk (Kd.V_below (by (with_reducible repeat (first | apply Kd.V_alloc | apply Kd.V_drewN | apply Kd.V_drew)); exact HO651.out) hb); have n1_ := Aside0.mk (below_step (by repeat (first | (with_reducible first | exact HB.out | apply below_alloc | apply pw_below_drewN | apply below_drew1) | exact HB.out)) hb); clear HO651; clear HB; have HO651 := n0_; have HB := n1_; clear n0_ n1_; (try clear hb); (try clear hb2); (try clear hk); (try clear hi)) | ((with_reducible refine gate_dst (N := 6) rfl ?_); refine box_event ?hg (N := 6) ?hd (cs := #[.int .i64 0, .int .i64 0]) (t := 37) ?hr ?_; (case hd => rfl); (case hg => rfl); (case hr => first | (go_simp; done) | (go_simp; rfl)); intro gb656 hg w10 hbox hb; have n0_ := Aside0.mk (Kd.V_below (Kd.V_elderB (by (with_reducible repeat (first | apply Kd.V_alloc | apply Kd.V_drewN | apply Kd.V_drew)); exact HO651.out) gb656 (Nat.le_of_eq hg.symm)) hb); have n1_ := Aside0.mk (below_step (by repeat (first | (with_reducible first | exact HB.out | apply below_alloc | apply pw_below_drewN | apply below_drew1) | exact HB.out)) hb); have n2_ := Aside0.mk (hbox); have n3_ := Aside0.mk ((by rw [hg]; exact (below_size (by repeat (first | (with_reducible first | exact HB.out | apply below_alloc | apply pw_below_drewN | apply below_drew1) | exact HB.out))) : w.heap.size ≤ gb656)); have n4_ := Aside0.mk ((by rw [hg]; exact (below_size (by repeat (first | (with_reducible first | exact HB.out | apply below_alloc | apply pw_below_drewN | apply below_drew1) | exact HB.out))) : w.heap.size ≤ gb656)); clear HO651; clear HB; have HO651 := n0_; have HB := n1_; have BK656 := n2_; have GW656 := n3_; have GE656 := n4_; clear n0_ n1_ n2_ n3_ n4_; clear hb hbox hg; have hcz11_0 : w10.cell? ⟨gb656, 0, none⟩ = some (.int .i64 0) := (blk_cell BK656.out 0).trans rfl; have hcz11_1 : w10.cell? ⟨gb656, 1, none⟩ = some (.int .i64 0) := (blk_cell BK656.out 1).trans rfl; have hfz11_0 := blk_frozen BK656.out 0; have hfz11_1 := blk_frozen BK656.out 1))
    go_ret2
    exact ⟨_, by first | rfl | (simp [errW_none, errW_some] <;> rfl) | (simp [*, errW_none, errW_some] <;> rfl), by first | exact Kd.S_nil _ _ _ _ _ | exact Kd.N_nil _ _ _ _ _ | exact Kd.V_nil _ _ _ _ _ | exact Kd.Q_nil _ _ _ _ _ | exact Kd.R_nil _ _ _ _ _, by repeat (first | (with_reducible first | exact HB.out | apply below_alloc | apply pw_below_drewN | apply below_drew1 | refine below_set ?_ GE656.out) | exact HB.out)⟩
   ·
    rw [if_neg c6] at H
    have c6b0 : decide (0 < t653) = false := decide_eq_false c6
    clear c6
    replace H := Option.bind_eq_some_iff.mp H
    obtain ⟨t657, A120, H⟩ := H
    replace H : (some (t657, 0)) = some (r1, r2) := H
    have A12 := Aside0.mk A120
    clear A120
    simp only [Option.some.injEq, Prod.mk.injEq] at H
    obtain ⟨rfl, rfl⟩ := H
    go_enter Try.func21, Try.ntmps21
    go_wp2_with (first | ((with_reducible refine gate_callee (f := 64) rfl ?_); refine goesL_ (some 10) rfl rfl Try.func64 (by kernel_rfl) rfl #[.slice A0 l0.length c0] rfl (by (try simp only [List.map_toArray, List.map_cons, List.map_nil]); first | done | rfl | (simp only [List.length_drop, List.length_take]; rfl)) ?_; (with_reducible refine (line_of.calls k (fun k_ => k_ < w.heap.size) _ _ l0 t649 true _ ?side1 A2.out).mono ?_); (case side1 => exact Kd.V_mk HC0.out (Kd.F_below (Kd.C_F (Kd.heap_slice 3 (Kd.heap_int .i64)) HR0.out) (by repeat (first | (with_reducible first | exact HB.out | apply below_alloc | apply pw_below_drewN | apply below_drew1) | exact HB.out)))); rintro e w13 ⟨v650, rfl, ho0, hb⟩; refine ⟨_, rfl, ?_⟩; have n0_ := Aside0.mk (Kd.V_lower (Kd.V_mono (ok' := fun k_ => True) ho0 (fun k_ hk_ => trivial)) (below_size (by repeat (first | (with_reducible first | exact HB.out | apply below_alloc | apply pw_below_drewN | apply below_drew1) | exact HB.out)))); have n1_ := Aside0.mk (below_step (by repeat (first | (with_reducible first | exact HB.out | apply below_alloc | apply pw_below_drewN | apply below_drew1) | exact HB.out)) hb); clear HB; have HO651 := n0_; have HB := n1_; clear n0_ n1_; (try clear hb); (try clear hb2); (try clear hk); (try clear hi); (try clear ho0); obtain ⟨Ao14, co14, eo14⟩ := Kd.V_slice HO651.out; subst eo14) | ((with_reducible refine gate_callee (f := 65) rfl ?_); refine goesL_ (some 17) rfl rfl Try.func65 (by kernel_rfl) rfl #[.slice Ao14 t649.length co14] rfl (by (try simp only [List.map_toArray, List.map_cons, List.map_nil]); first | done | rfl | (simp only [List.length_drop, List.length_take]; rfl)) ?_; (with_reducible refine (lgpace.calls k _ _ t649 t653 t654 true _ ?side1 ?side2 A4.out).mono ?_); (case side1 => repeat (first | exact (Kd.V_reads' HO651.out).2.2 | (with_reducible refine Kd.C_alloc ?_ _) | (with_reducible refine Kd.C_drewN ?_ _) | (with_reducible refine Kd.C_drew ?_))); (case side2 => exact (Kd.V_reads' HO651.out).2.1); rintro e w15 ⟨rfl, hb⟩; refine ⟨_, rfl, ?_⟩; have n0_ := Aside0.mk (Kd.V_below (by (with_reducible repeat (first | apply Kd.V_alloc | apply Kd.V_drewN | apply Kd.V_drew)); exact HO651.out) hb); have n1_ := Aside0.mk (below_step (by repeat (first | (with_reducible first | exact HB.out | apply below_alloc | apply pw_below_drewN | apply below_drew1) | exact HB.out)) hb); clear HO651; clear HB; have HO651 := n0_; have HB := n1_; clear n0_ n1_; (try clear hb); (try clear hb2); (try clear hk); (try clear hi)) | ((with_reducible refine gate_dst (N := 6) rfl ?_); refine box_event ?hg (N := 6) ?hd (cs := #[.int .i64 0, .int .i64 0]) (t := 37) ?hr ?_; (case hd => rfl); (case hg => rfl); (case hr => first | (go_simp; done) | (go_simp; rfl)); intro gb656 hg w16 hbox hb; have n0_ := Aside0.mk (Kd.V_below (Kd.V_elderB (by (with_reducible repeat (first | apply Kd.V_alloc | apply Kd.V_drewN | apply Kd.V_drew)); exact HO651.out) gb656 (Nat.le_of_eq hg.symm)) hb); have n1_ := Aside0.mk (below_step (by repeat (first | (with_reducible first | exact HB.out | apply below_alloc | apply pw_below_drewN | apply below_drew1) | exact HB.out)) hb); have n2_ := Aside0.mk (hbox); have n3_ := Aside0.mk ((by rw [hg]; exact (below_size (by repeat (first | (with_reducible first | exact HB.out | apply below_alloc | apply pw_below_drewN | apply below_drew1) | exact HB.out))) : w.heap.size ≤ gb656)); have n4_ := Aside0.mk ((by rw [hg]; exact (below_size (by repeat (first | (with_reducible first | exact HB.out | apply below_alloc | apply pw_below_drewN | apply below_drew1) | exact HB.out))) : w.heap.size ≤ gb656)); clear HO651; clear HB; have HO651 := n0_; have HB := n1_; have BK656 := n2_; have GW656 := n3_; have GE656 := n4_; clear n0_ n1_ n2_ n3_ n4_; clear hb hbox hg; have hcz17_0 : w16.cell? ⟨gb656, 0, none⟩ = some (.int .i64 0) := (blk_cell BK656.out 0).trans rfl; have hcz17_1 : w16.cell? ⟨gb656, 1, none⟩ = some (.int .i64 0) := (blk_cell BK656.out 1).trans rfl; have hfz17_0 := blk_frozen BK656.out 0; have hfz17_1 := blk_frozen BK656.out 1) | ((with_reducible refine gate_callee (f := 66) rfl ?_); refine goesL_ (some 27) rfl rfl Try.func66 (by kernel_rfl) rfl #[.slice Ao14 t649.length co14] rfl (by (try simp only [List.map_toArray, List.map_cons, List.map_nil]); first | done | rfl | (simp only [List.length_drop, List.length_take]; rfl)) ?_; (with_reducible refine (lgclosed.calls k _ _ t649 t657 _ ?side1 ?side2 A12.out).mono ?_); (case side1 => refine (Kd.V_reads' (e := 26) (base := w.heap.size) (ok := fun k_ => (True ∧ k_ ≠ gb656)) (n := t649.length) (c := co14) ?_).2.2; exact (by (with_reducible repeat (first | apply Kd.V_alloc | apply Kd.V_drewN | apply Kd.V_drew)); exact (Kd.V_mono (Kd.V_far (p := ⟨gb656, 1, none⟩) (Kd.V_far (p := ⟨gb656, 0, none⟩) (Kd.V_mono HO651.out (fun k_ hk => (⟨hk, hk.2⟩ : _ ∧ k_ ≠ gb656))) (fun _ hk => hk.2) (.int .i64 t653)) (fun _ hk => hk.2) (.int .i64 t654)) (fun _ h_ => h_.1)))); (case side2 => exact (Kd.V_reads' HO651.out).2.1); rintro e w18 ⟨v658, rfl, ho0, hb⟩; refine ⟨_, rfl, ?_⟩; have n0_ := Aside0.mk (Kd.V_elder' (by (with_reducible repeat (first | apply Kd.V_alloc | apply Kd.V_drewN | apply Kd.V_drew)); exact (Kd.V_mono (Kd.V_far (p := ⟨gb656, 1, none⟩) (Kd.V_far (p := ⟨gb656, 0, none⟩) (Kd.V_mono HO651.out (fun k_ hk => (⟨hk, hk.2⟩ : _ ∧ k_ ≠ gb656))) (fun _ hk => hk.2) (.int .i64 t653)) (fun _ hk => hk.2) (.int .i64 t654)) (fun _ h_ => h_.1))) (Kd.S_base ho0) hb); have n1_ := Aside0.mk (Kd.S_lower ho0 (below_size (by repeat (first | (with_reducible first | exact HB.out | apply below_alloc | apply pw_below_drewN | apply below_drew1 | refine below_set ?_ GE656.out) | exact HB.out)))); have n2_ := Aside0.mk (blk_below (g := gb656) (o := .cells #[.int .i64 t653, .int .i64 t654] 37 (0, 0)) (by (with_reducible repeat (first | refine blk_drewN ?_ _ | refine blk_drew ?_ | refine blk_alloc ?_ _)); refine blk_put (cs := #[.int .i64 t653, .int .i64 0]) ?_ 1 _ rfl; (with_reducible repeat (first | refine blk_drewN ?_ _ | refine blk_drew ?_ | refine blk_alloc ?_ _)); refine blk_put (cs := #[.int .i64 0, .int .i64 0]) ?_ 0 _ rfl; (with_reducible repeat (first | refine blk_drewN ?_ _ | refine blk_drew ?_ | refine blk_alloc ?_ _)); exact BK656.out) hb); have n3_ := Aside0.mk (below_step (by repeat (first | (with_reducible first | exact HB.out | apply below_alloc | apply pw_below_drewN | apply below_drew1 | refine below_set ?_ GE656.out) | exact HB.out)) hb); clear HO651; clear BK656; clear HB; have HO651 := n0_; have HO659 := n1_; have BK656 := n2_; have HB := n3_; clear n0_ n1_ n2_ n3_; (try clear hb); (try clear hb2); (try clear hk); (try clear hi); (try clear ho0)))
    go_ret2
    exact ⟨_, by first | rfl | (simp [errW_none, errW_some] <;> rfl) | (simp [*, errW_none, errW_some] <;> rfl), by (with_reducible repeat (first | apply Kd.S_alloc | apply Kd.S_drewN | apply Kd.S_drew)); exact HO659.out, by repeat (first | (with_reducible first | exact HB.out | apply below_alloc | apply pw_below_drewN | apply below_drew1 | refine below_set ?_ GE656.out) | exact HB.out)⟩
  ·
   replace c5 := Bool.eq_false_iff.mpr c5
   subst c5
   have H1 : ((lgclosed.f k t649).bind fun t660 => (some (t660, 0))) = some (r1, r2) := by rw [if_neg (show ¬ (false = true) by decide)] at H; exact H
   clear H
   have H := H1
   clear H1
   replace H := Option.bind_eq_some_iff.mp H
   obtain ⟨t660, A190, H⟩ := H
   replace H : (some (t660, 0)) = some (r1, r2) := H
   have A19 := Aside0.mk A190
   clear A190
   simp only [Option.some.injEq, Prod.mk.injEq] at H
   obtain ⟨rfl, rfl⟩ := H
   go_enter Try.func21, Try.ntmps21
   go_wp2_with (first | ((with_reducible refine gate_callee (f := 64) rfl ?_); refine goesL_ (some 10) rfl rfl Try.func64 (by kernel_rfl) rfl #[.slice A0 l0.length c0] rfl (by (try simp only [List.map_toArray, List.map_cons, List.map_nil]); first | done | rfl | (simp only [List.length_drop, List.length_take]; rfl)) ?_; (with_reducible refine (line_of.calls k (fun k_ => k_ < w.heap.size) _ _ l0 t649 true _ ?side1 A2.out).mono ?_); (case side1 => exact Kd.V_mk HC0.out (Kd.F_below (Kd.C_F (Kd.heap_slice 3 (Kd.heap_int .i64)) HR0.out) (by repeat (first | (with_reducible first | exact HB.out | apply below_alloc | apply pw_below_drewN | apply below_drew1) | exact HB.out)))); rintro e w20 ⟨v650, rfl, ho0, hb⟩; refine ⟨_, rfl, ?_⟩; have n0_ := Aside0.mk (Kd.V_lower (Kd.V_mono (ok' := fun k_ => True) ho0 (fun k_ hk_ => trivial)) (below_size (by repeat (first | (with_reducible first | exact HB.out | apply below_alloc | apply pw_below_drewN | apply below_drew1) | exact HB.out)))); have n1_ := Aside0.mk (below_step (by repeat (first | (with_reducible first | exact HB.out | apply below_alloc | apply pw_below_drewN | apply below_drew1) | exact HB.out)) hb); clear HB; have HO651 := n0_; have HB := n1_; clear n0_ n1_; (try clear hb); (try clear hb2); (try clear hk); (try clear hi); (try clear ho0); obtain ⟨Ao21, co21, eo21⟩ := Kd.V_slice HO651.out; subst eo21) | ((with_reducible refine gate_callee (f := 65) rfl ?_); refine goesL_ (some 17) rfl rfl Try.func65 (by kernel_rfl) rfl #[.slice Ao21 t649.length co21] rfl (by (try simp only [List.map_toArray, List.map_cons, List.map_nil]); first | done | rfl | (simp only [List.length_drop, List.length_take]; rfl)) ?_; (with_reducible refine (lgpace.calls k _ _ t649 t653 t654 false _ ?side1 ?side2 A4.out).mono ?_); (case side1 => repeat (first | exact (Kd.V_reads' HO651.out).2.2 | (with_reducible refine Kd.C_alloc ?_ _) | (with_reducible refine Kd.C_drewN ?_ _) | (with_reducible refine Kd.C_drew ?_))); (case side2 => exact (Kd.V_reads' HO651.out).2.1); rintro e w22 ⟨rfl, hb⟩; refine ⟨_, rfl, ?_⟩; have n0_ := Aside0.mk (Kd.V_below (by (with_reducible repeat (first | apply Kd.V_alloc | apply Kd.V_drewN | apply Kd.V_drew)); exact HO651.out) hb); have n1_ := Aside0.mk (below_step (by repeat (first | (with_reducible first | exact HB.out | apply below_alloc | apply pw_below_drewN | apply below_drew1) | exact HB.out)) hb); clear HO651; clear HB; have HO651 := n0_; have HB := n1_; clear n0_ n1_; (try clear hb); (try clear hb2); (try clear hk); (try clear hi)) | ((with_reducible refine gate_dst (N := 6) rfl ?_); refine box_event ?hg (N := 6) ?hd (cs := #[.int .i64 0, .int .i64 0]) (t := 37) ?hr ?_; (case hd => rfl); (case hg => rfl); (case hr => first | (go_simp; done) | (go_simp; rfl)); intro gb656 hg w23 hbox hb; have n0_ := Aside0.mk (Kd.V_below (Kd.V_elderB (by (with_reducible repeat (first | apply Kd.V_alloc | apply Kd.V_drewN | apply Kd.V_drew)); exact HO651.out) gb656 (Nat.le_of_eq hg.symm)) hb); have n1_ := Aside0.mk (below_step (by repeat (first | (with_reducible first | exact HB.out | apply below_alloc | apply pw_below_drewN | apply below_drew1) | exact HB.out)) hb); have n2_ := Aside0.mk (hbox); have n3_ := Aside0.mk ((by rw [hg]; exact (below_size (by repeat (first | (with_reducible first | exact HB.out | apply below_alloc | apply pw_below_drewN | apply below_drew1) | exact HB.out))) : w.heap.size ≤ gb656)); have n4_ := Aside0.mk ((by rw [hg]; exact (below_size (by repeat (first | (with_reducible first | exact HB.out | apply below_alloc | apply pw_below_drewN | apply below_drew1) | exact HB.out))) : w.heap.size ≤ gb656)); clear HO651; clear HB; have HO651 := n0_; have HB := n1_; have BK656 := n2_; have GW656 := n3_; have GE656 := n4_; clear n0_ n1_ n2_ n3_ n4_; clear hb hbox hg; have hcz24_0 : w23.cell? ⟨gb656, 0, none⟩ = some (.int .i64 0) := (blk_cell BK656.out 0).trans rfl; have hcz24_1 : w23.cell? ⟨gb656, 1, none⟩ = some (.int .i64 0) := (blk_cell BK656.out 1).trans rfl; have hfz24_0 := blk_frozen BK656.out 0; have hfz24_1 := blk_frozen BK656.out 1) | ((with_reducible refine gate_callee (f := 66) rfl ?_); refine goesL_ (some 27) rfl rfl Try.func66 (by kernel_rfl) rfl #[.slice Ao21 t649.length co21] rfl (by (try simp only [List.map_toArray, List.map_cons, List.map_nil]); first | done | rfl | (simp only [List.length_drop, List.length_take]; rfl)) ?_; (with_reducible refine (lgclosed.calls k _ _ t649 t660 _ ?side1 ?side2 A19.out).mono ?_); (case side1 => refine (Kd.V_reads' (e := 26) (base := w.heap.size) (ok := fun k_ => (True ∧ k_ ≠ gb656)) (n := t649.length) (c := co21) ?_).2.2; exact (by (with_reducible repeat (first | apply Kd.V_alloc | apply Kd.V_drewN | apply Kd.V_drew)); exact (Kd.V_mono (Kd.V_far (p := ⟨gb656, 1, none⟩) (Kd.V_far (p := ⟨gb656, 0, none⟩) (Kd.V_mono HO651.out (fun k_ hk => (⟨hk, hk.2⟩ : _ ∧ k_ ≠ gb656))) (fun _ hk => hk.2) (.int .i64 t653)) (fun _ hk => hk.2) (.int .i64 t654)) (fun _ h_ => h_.1)))); (case side2 => exact (Kd.V_reads' HO651.out).2.1); rintro e w25 ⟨v661, rfl, ho0, hb⟩; refine ⟨_, rfl, ?_⟩; have n0_ := Aside0.mk (Kd.V_elder' (by (with_reducible repeat (first | apply Kd.V_alloc | apply Kd.V_drewN | apply Kd.V_drew)); exact (Kd.V_mono (Kd.V_far (p := ⟨gb656, 1, none⟩) (Kd.V_far (p := ⟨gb656, 0, none⟩) (Kd.V_mono HO651.out (fun k_ hk => (⟨hk, hk.2⟩ : _ ∧ k_ ≠ gb656))) (fun _ hk => hk.2) (.int .i64 t653)) (fun _ hk => hk.2) (.int .i64 t654)) (fun _ h_ => h_.1))) (Kd.S_base ho0) hb); have n1_ := Aside0.mk (Kd.S_lower ho0 (below_size (by repeat (first | (with_reducible first | exact HB.out | apply below_alloc | apply pw_below_drewN | apply below_drew1 | refine below_set ?_ GE656.out) | exact HB.out)))); have n2_ := Aside0.mk (blk_below (g := gb656) (o := .cells #[.int .i64 t653, .int .i64 t654] 37 (0, 0)) (by (with_reducible repeat (first | refine blk_drewN ?_ _ | refine blk_drew ?_ | refine blk_alloc ?_ _)); refine blk_put (cs := #[.int .i64 t653, .int .i64 0]) ?_ 1 _ rfl; (with_reducible repeat (first | refine blk_drewN ?_ _ | refine blk_drew ?_ | refine blk_alloc ?_ _)); refine blk_put (cs := #[.int .i64 0, .int .i64 0]) ?_ 0 _ rfl; (with_reducible repeat (first | refine blk_drewN ?_ _ | refine blk_drew ?_ | refine blk_alloc ?_ _)); exact BK656.out) hb); have n3_ := Aside0.mk (below_step (by repeat (first | (with_reducible first | exact HB.out | apply below_alloc | apply pw_below_drewN | apply below_drew1 | refine below_set ?_ GE656.out) | exact HB.out)) hb); clear HO651; clear BK656; clear HB; have HO651 := n0_; have HO662 := n1_; have BK656 := n2_; have HB := n3_; clear n0_ n1_ n2_ n3_; (try clear hb); (try clear hb2); (try clear hk); (try clear hi); (try clear ho0)))
   go_ret2
   exact ⟨_, by first | rfl | (simp [errW_none, errW_some] <;> rfl) | (simp [*, errW_none, errW_some] <;> rfl), by (with_reducible repeat (first | apply Kd.S_alloc | apply Kd.S_drewN | apply Kd.S_drew)); exact HO662.out, by repeat (first | (with_reducible first | exact HB.out | apply below_alloc | apply pw_below_drewN | apply below_drew1 | refine below_set ?_ GE656.out) | exact HB.out)⟩
 ·
  replace c3 := Bool.eq_false_iff.mpr c3
  subst c3
  have H1 : (some (([] : List (List Int)), 2)) = some (r1, r2) := by rw [if_neg (show ¬ (false = true) by decide)] at H; exact H
  clear H
  have H := H1
  clear H1
  simp only [Option.some.injEq, Prod.mk.injEq] at H
  obtain ⟨rfl, rfl⟩ := H
  go_enter Try.func21, Try.ntmps21
  go_wp2_with (first | ((with_reducible refine gate_callee (f := 64) rfl ?_); refine goesL_ (some 10) rfl rfl Try.func64 (by kernel_rfl) rfl #[.slice A0 l0.length c0] rfl (by (try simp only [List.map_toArray, List.map_cons, List.map_nil]); first | done | rfl | (simp only [List.length_drop, List.length_take]; rfl)) ?_; (with_reducible refine (line_of.calls k (fun k_ => k_ < w.heap.size) _ _ l0 t649 false _ ?side1 A2.out).mono ?_); (case side1 => exact Kd.V_mk HC0.out (Kd.F_below (Kd.C_F (Kd.heap_slice 3 (Kd.heap_int .i64)) HR0.out) (by repeat (first | (with_reducible first | exact HB.out | apply below_alloc | apply pw_below_drewN | apply below_drew1) | exact HB.out)))); rintro e w26 ⟨v650, rfl, ho0, hb⟩; refine ⟨_, rfl, ?_⟩; have n0_ := Aside0.mk (Kd.V_lower (Kd.V_mono (ok' := fun k_ => True) ho0 (fun k_ hk_ => trivial)) (below_size (by repeat (first | (with_reducible first | exact HB.out | apply below_alloc | apply pw_below_drewN | apply below_drew1) | exact HB.out)))); have n1_ := Aside0.mk (below_step (by repeat (first | (with_reducible first | exact HB.out | apply below_alloc | apply pw_below_drewN | apply below_drew1) | exact HB.out)) hb); clear HB; have HO651 := n0_; have HB := n1_; clear n0_ n1_; (try clear hb); (try clear hb2); (try clear hk); (try clear hi); (try clear ho0)))
  go_ret2
  exact ⟨_, by first | rfl | (simp [errW_none, errW_some] <;> rfl) | (simp [*, errW_none, errW_some] <;> rfl), by first | exact Kd.S_nil _ _ _ _ _ | exact Kd.N_nil _ _ _ _ _ | exact Kd.V_nil _ _ _ _ _ | exact Kd.Q_nil _ _ _ _ _ | exact Kd.R_nil _ _ _ _ _, by repeat (first | (with_reducible first | exact HB.out | apply below_alloc | apply pw_below_drewN | apply below_drew1) | exact HB.out)⟩

def l5square.l0 : Nat → List (List Int) → Int → Int → Option (Bool)
 | 0, _, _, _ => none
 | k + 1, x0, x1, x5 => if x5 < (x0.length : Int) then (if 0 ≤ x5 then (if ((rd_L1 x0 x5).length : Int) = x1 then (l5square.l0 k x0 x1 (wrap64 (x5 + 1))) else (some false)) else (none)) else (some ((x0.length : Int) == x1))
def l5square.f (k : Nat) (l0 : List (List Int)) (a1 : Int) : Option (Bool) := l5square.l0 k l0 a1 0
theorem l5square.mono_l : ∀ k, (∀ y0 y1 y2, LeO (l5square.l0 k y0 y1 y2) (l5square.l0 (k + 1) y0 y1 y2))
 | 0 => fun _ _ _ r h => by simp [l5square.l0] at h
 | k + 1 => by
  have ih0 := l5square.mono_l k
  ·
   intro y0 y1 y2
   unfold l5square.l0
   repeat' first
   | (with_reducible exact ih0 _ _ _)
   | (with_reducible exact LeO.refl _)
   | (with_reducible exact LeO.none _)
   | (with_reducible refine LeO.ite ?_ ?_)
   | (with_reducible refine LeO.bind ?_ (fun _ => ?_))
   | exact ih0 _ _ _
   | exact LeO.none _
   | refine LeO.ite ?_ ?_
   | refine LeO.bind ?_ (fun _ => ?_)
theorem l5square.mono : ∀ a0 a1 k, LeO (l5square.f k a0 a1) (l5square.f (k + 1) a0 a1) := by
 intro a0 a1 k
 have ih0 := l5square.mono_l k
 unfold l5square.f
 repeat' first
   | exact ih0 _ _ _
   | exact LeO.none _
   | refine LeO.ite ?_ ?_
   | refine LeO.bind ?_ (fun _ => ?_)
set_option maxHeartbeats 8000000 in
set_option maxRecDepth 100000 in
theorem l5square.calls (k : Nat) (A0 : Option Addr) (c0 : Nat) (l0 : List (List Int)) (a1 : Int) (r : Bool) (w : World) (hr0 : Kd.C (Kd.slice 3 (Kd.int .i64)) w A0 l0.length l0) (hc0 : l0.length ≤ c0) (h : l5square.f k l0 a1 = some r) :
  Calls Try.prog 23 #[.slice A0 l0.length c0, .int .i64 a1] w fun e w' => e = .returned (.bool r) ∧ Drawn0 w w' := by
 have HR0 := Aside0.mk hr0
 have HC0 := Aside0.mk hc0
 clear hr0 hc0
 have H : (l5square.l0 k l0 a1 0) = some r := h
 clear h
 have H' := Aside0.mk H
 clear H
 go_enter Try.func23, Try.ntmps23
 go_wp2
 go_loopg [5] k (fun kq v5 w' => ∃ (x5_1 : Int), v5 = .int .i64 x5_1 ∧ Aside0 (l5square.l0 kq l0 a1 x5_1 = some r) ∧ Aside0 (kq ≤ k) ∧ Drawn0 w w')
 case atStart => exact ⟨(0), rfl, H', ⟨Nat.le_refl _⟩, by repeat (first | exact Drawn0.refl _ | apply Drawn0.step)⟩
 case round =>
  clear H'
  obtain ⟨x5_1, rfl, HA, HK1, ⟨m1, rfl⟩⟩ := hrel
  cases gk with
  | zero => exact absurd HA.out (by simp [l5square.l0])
  | succ k1 =>
   have H := HA.out
   clear HA
   simp only [l5square.l0] at H
   by_cases c3 : x5_1 < (l0.length : Int)
   ·
    rw [if_pos c3] at H
    have c3b0 : decide (x5_1 < (l0.length : Int)) = true := decide_eq_true c3
    clear c3
    by_cases c4 : 0 ≤ x5_1
    ·
     rw [if_pos c4] at H
     have c4b0 : decide (0 ≤ x5_1) = true := decide_eq_true c4
     clear c4
     by_cases c5 : ((rd_L1 l0 x5_1).length : Int) = a1
     ·
      rw [if_pos c5] at H
      have c5b0 : (((rd_L1 l0 x5_1).length : Int) == a1) = true := beq_iff_eq.mpr c5
      clear c5
      have H' := Aside0.mk H
      clear H
      have p663 : 0 ≤ (x5_1 : Int) := of_decide_eq_true (by assumption)
      have q663 : x5_1 < (l0.length : Int) := of_decide_eq_true (by assumption)
      obtain ⟨ad663, A663_0, c663_0, e663, hx663_0, hl663_0, hi663_0⟩ := at_L1 HR0.out x5_1 p663 q663
      cases e663
      have HR663_0 := Aside0.mk hi663_0
      have HC663_0 := Aside0.mk hl663_0
      clear hi663_0 hl663_0
      replace p663 := eq_true p663
      replace q663 := eq_true q663
      go_wp2
      go_roundg k1
      case measure => have := HK1.out; omega
      case rel => exact ⟨(wrap64 (x5_1 + 1)), rfl, H', ⟨by have := HK1.out; omega⟩, by repeat (first | exact Drawn0.refl _ | apply Drawn0.step)⟩
     ·
      rw [if_neg c5] at H
      have c5b0 : (((rd_L1 l0 x5_1).length : Int) == a1) = false := beq_eq_false_iff_ne.mpr c5
      obtain rfl := Option.some.inj H
      have p663 : 0 ≤ (x5_1 : Int) := of_decide_eq_true (by assumption)
      have q663 : x5_1 < (l0.length : Int) := of_decide_eq_true (by assumption)
      obtain ⟨ad663, A663_0, c663_0, e663, hx663_0, hl663_0, hi663_0⟩ := at_L1 HR0.out x5_1 p663 q663
      cases e663
      have HR663_0 := Aside0.mk hi663_0
      have HC663_0 := Aside0.mk hl663_0
      clear hi663_0 hl663_0
      replace p663 := eq_true p663
      replace q663 := eq_true q663
      go_wp2
      go_ret
      exact ⟨by first | rfl | (simp; done) | (simp [*]; done), by repeat (first | exact Drawn0.refl _ | apply Drawn0.step)⟩
    ·
     rw [if_neg c4] at H
     exact absurd H (by simp)
   ·
    rw [if_neg c3] at H
    have c3b0 : decide (x5_1 < (l0.length : Int)) = false := decide_eq_false c3
    clear c3
    obtain rfl := Option.some.inj H
    go_wp2
    go_ret
    exact ⟨by first | rfl | (simp; done) | (simp [*]; done), by repeat (first | exact Drawn0.refl _ | apply Drawn0.step)⟩

def l5plus.f (a0 : Int) (a1 : Int) : Option (Int) := if a0 = (-1152921504606846976) then (some (-1152921504606846976)) else (if a1 = (-1152921504606846976) then (some (-1152921504606846976)) else (some (wrap64 (a0 + a1))))
set_option maxHeartbeats 8000000 in
set_option maxRecDepth 100000 in
theorem l5plus.calls (a0 : Int) (a1 : Int) (r : Int) (w : World) (h : l5plus.f a0 a1 = some r) :
  Calls Try.prog 44 #[.int .i64 a0, .int .i64 a1] w fun e w' => e = .returned (.int .i64 r) ∧ Drawn0 w w' := by
 have H : (if a0 = (-1152921504606846976) then (some (-1152921504606846976)) else (if a1 = (-1152921504606846976) then (some (-1152921504606846976)) else (some (wrap64 (a0 + a1))))) = some r := h
 clear h
 by_cases c3 : a0 = (-1152921504606846976)
 ·
  rw [if_pos c3] at H
  have c3b0 : (a0 == (-1152921504606846976)) = true := beq_iff_eq.mpr c3
  clear c3
  obtain rfl := Option.some.inj H
  go_enter Try.func44, Try.ntmps44
  go_wp2
  go_ret
  exact ⟨by first | rfl | (simp; done) | (simp [*]; done), by repeat (first | exact Drawn0.refl _ | apply Drawn0.step)⟩
 ·
  rw [if_neg c3] at H
  have c3b0 : (a0 == (-1152921504606846976)) = false := beq_eq_false_iff_ne.mpr c3
  by_cases c4 : a1 = (-1152921504606846976)
  ·
   rw [if_pos c4] at H
   have c4b0 : (a1 == (-1152921504606846976)) = true := beq_iff_eq.mpr c4
   clear c4
   obtain rfl := Option.some.inj H
   go_enter Try.func44, Try.ntmps44
   go_wp2
   go_ret
   exact ⟨by first | rfl | (simp; done) | (simp [*]; done), by repeat (first | exact Drawn0.refl _ | apply Drawn0.step)⟩
  ·
   rw [if_neg c4] at H
   have c4b0 : (a1 == (-1152921504606846976)) = false := beq_eq_false_iff_ne.mpr c4
   obtain rfl := Option.some.inj H
   go_enter Try.func44, Try.ntmps44
   go_wp2
   go_ret
   exact ⟨by first | rfl | (simp; done) | (simp [*]; done), by repeat (first | exact Drawn0.refl _ | apply Drawn0.step)⟩

mutual
def l5product.l0 : Nat → List (List Int) → List (List Int) → List (List Int) → Int → Option ((List (List Int)))
 | 0, _, _, _, _ => none
 | k + 1, x0, x1, x5, x6 => if x6 < (x0.length : Int) then (l5product.l1 k x0 x1 x5 x6 ([] : List Int) 0) else (some x5)
def l5product.l1 : Nat → List (List Int) → List (List Int) → List (List Int) → Int → List Int → Int → Option ((List (List Int)))
 | 0, _, _, _, _, _, _ => none
 | k + 1, x0, x1, x5, x6, x7, x8 => if x8 < (x0.length : Int) then (l5product.l2 k x0 x1 x5 x6 x7 x8 (-1152921504606846976) 0) else (if x5.length < 5864062014805 then (l5product.l0 k x0 x1 (x5 ++ [x7]) (wrap64 (x6 + 1))) else (none))
def l5product.l2 : Nat → List (List Int) → List (List Int) → List (List Int) → Int → List Int → Int → Int → Int → Option ((List (List Int)))
 | 0, _, _, _, _, _, _, _, _ => none
 | k + 1, x0, x1, x5, x6, x7, x8, x9, x10 => if x10 < (x0.length : Int) then (if 0 ≤ x6 then (if x6 < (x0.length : Int) then (if 0 ≤ x10 then (if x10 < ((rd_L1 x0 x6).length : Int) then (if x10 < (x1.length : Int) then (if 0 ≤ x8 then (if x8 < ((rd_L1 x1 x10).length : Int) then ((l5plus.f (rd (rd_L1 x0 x6) x10) (rd (rd_L1 x1 x10) x8)).bind fun t671 => (l5product.l2 k x0 x1 x5 x6 x7 x8 (mx x9 t671) (wrap64 (x10 + 1)))) else (none)) else (none)) else (none)) else (none)) else (none)) else (none)) else (none)) else (if x7.length < 17592186044416 then (l5product.l1 k x0 x1 x5 x6 (x7 ++ [x9]) (wrap64 (x8 + 1))) else (none))
end
def l5product.f (k : Nat) (l0 : List (List Int)) (l1 : List (List Int)) : Option ((List (List Int))) := l5product.l0 k l0 l1 ([] : List (List Int)) 0
theorem l5product.mono_l : ∀ k, (∀ y0 y1 y2 y3, LeO (l5product.l0 k y0 y1 y2 y3) (l5product.l0 (k + 1) y0 y1 y2 y3)) ∧ (∀ y0 y1 y2 y3 y4 y5, LeO (l5product.l1 k y0 y1 y2 y3 y4 y5) (l5product.l1 (k + 1) y0 y1 y2 y3 y4 y5)) ∧ (∀ y0 y1 y2 y3 y4 y5 y6 y7, LeO (l5product.l2 k y0 y1 y2 y3 y4 y5 y6 y7) (l5product.l2 (k + 1) y0 y1 y2 y3 y4 y5 y6 y7))
 | 0 => ⟨fun _ _ _ _ r h => by simp [l5product.l0] at h, fun _ _ _ _ _ _ r h => by simp [l5product.l1] at h, fun _ _ _ _ _ _ _ _ r h => by simp [l5product.l2] at h⟩
 | k + 1 => by
  obtain ⟨ih0, ih1, ih2⟩ := l5product.mono_l k
  refine ⟨?_, ?_, ?_⟩
  ·
   intro y0 y1 y2 y3
   unfold l5product.l0
   repeat' first
   | (with_reducible exact LeO.refl _)
   | (with_reducible exact LeO.none _)
   | (with_reducible refine LeO.ite ?_ ?_)
   | (with_reducible refine LeO.bind ?_ (fun _ => ?_))
   | exact ih0 _ _ _ _
   | exact ih1 _ _ _ _ _ _
   | exact ih2 _ _ _ _ _ _ _ _
   | exact LeO.none _
   | refine LeO.ite ?_ ?_
   | refine LeO.bind ?_ (fun _ => ?_)
  ·
   intro y0 y1 y2 y3 y4 y5
   unfold l5product.l1
   repeat' first
   | (with_reducible exact LeO.refl _)
   | (with_reducible exact LeO.none _)
   | (with_reducible refine LeO.ite ?_ ?_)
   | (with_reducible refine LeO.bind ?_ (fun _ => ?_))
   | exact ih0 _ _ _ _
   | exact ih1 _ _ _ _ _ _
   | exact ih2 _ _ _ _ _ _ _ _
   | exact LeO.none _
   | refine LeO.ite ?_ ?_
   | refine LeO.bind ?_ (fun _ => ?_)
  ·
   intro y0 y1 y2 y3 y4 y5 y6 y7
   unfold l5product.l2
   repeat' first
   | (with_reducible exact LeO.refl _)
   | (with_reducible exact LeO.none _)
   | (with_reducible refine LeO.ite ?_ ?_)
   | (with_reducible refine LeO.bind ?_ (fun _ => ?_))
   | exact ih0 _ _ _ _
   | exact ih1 _ _ _ _ _ _
   | exact ih2 _ _ _ _ _ _ _ _
   | exact LeO.none _
   | refine LeO.ite ?_ ?_
   | refine LeO.bind ?_ (fun _ => ?_)
theorem l5product.mono : ∀ a0 a1 k, LeO (l5product.f k a0 a1) (l5product.f (k + 1) a0 a1) := by
 intro a0 a1 k
 obtain ⟨ih0, ih1, ih2⟩ := l5product.mono_l k
 unfold l5product.f
 repeat' first
   | (with_reducible exact LeO.refl _)
   | (with_reducible exact LeO.none _)
   | (with_reducible refine LeO.ite ?_ ?_)
   | (with_reducible refine LeO.bind ?_ (fun _ => ?_))
   | exact ih0 _ _ _ _
   | exact ih1 _ _ _ _ _ _
   | exact ih2 _ _ _ _ _ _ _ _
   | exact LeO.none _
   | refine LeO.ite ?_ ?_
   | refine LeO.bind ?_ (fun _ => ?_)
set_option maxHeartbeats 8000000 in
set_option maxRecDepth 100000 in
theorem l5product.calls (k : Nat) (A0 : Option Addr) (c0 : Nat) (l0 : List (List Int)) (A1 : Option Addr) (c1 : Nat) (l1 : List (List Int)) (r : List (List Int)) (w : World) (hr0 : Kd.C (Kd.slice 3 (Kd.int .i64)) w A0 l0.length l0) (hc0 : l0.length ≤ c0) (hr1 : Kd.C (Kd.slice 3 (Kd.int .i64)) w A1 l1.length l1) (hc1 : l1.length ≤ c1) (h : l5product.f k l0 l1 = some r) :
  Calls Try.prog 24 #[.slice A0 l0.length c0, .slice A1 l1.length c1] w fun e w' => ∃ v0_ : Value, e = .returned (v0_) ∧ Kd.S (Kd.slice 3 (Kd.int .i64)) 26 w' w.heap.size (fun _ => True) v0_ r ∧ Below w.heap.size w w' := by
 have HR0 := Aside0.mk hr0
 have HC0 := Aside0.mk hc0
 clear hr0 hc0
 have HR1 := Aside0.mk hr1
 have HC1 := Aside0.mk hc1
 clear hr1 hc1
 have HB := Aside0.mk (Below.refl w.heap.size w)
 have H : (l5product.l0 k l0 l1 ([] : List (List Int)) 0) = some r := h
 clear h
 have H' := Aside0.mk H
 clear H
 go_enter Try.func24, Try.ntmps24
 go_wp2
 go_loopg [5, 6] k (fun kq v5 v6 w' => ∃ (x5_1 : List (List Int)) (x6_1 : Int), v6 = .int .i64 x6_1 ∧ Aside0 (l5product.l0 kq l0 l1 x5_1 x6_1 = some r) ∧ Aside0 (kq ≤ k) ∧ Aside0 (Kd.S (Kd.slice 3 (Kd.int .i64)) 26 w' w.heap.size (fun _ => True) v5 x5_1) ∧ Aside0 (Below w.heap.size w w'))
 case atStart => exact ⟨(([] : List (List Int))), (0), rfl, H', ⟨Nat.le_refl _⟩, ⟨by first | exact Kd.S_nil _ _ _ _ _ | exact Kd.N_nil _ _ _ _ _ | exact Kd.V_nil _ _ _ _ _ | exact Kd.Q_nil _ _ _ _ _ | exact Kd.R_nil _ _ _ _ _⟩, ⟨HB.out⟩⟩
 case round =>
  clear H'
  obtain ⟨x5_1, x6_1, rfl, HA, HK1, HO_5, HB⟩ := hrel
  cases gk with
  | zero => exact absurd HA.out (by simp [l5product.l0])
  | succ k1 =>
   have H := HA.out
   clear HA
   simp only [l5product.l0] at H
   by_cases c3 : x6_1 < (l0.length : Int)
   ·
    rw [if_pos c3] at H
    have c3b0 : decide (x6_1 < (l0.length : Int)) = true := decide_eq_true c3
    clear c3
    have H' := Aside0.mk H
    clear H
    go_wp2
    go_loopg [7, 8] k1 (fun kq v7 v8 w' => ∃ (x7_2 : List Int) (x8_2 : Int), v8 = .int .i64 x8_2 ∧ Aside0 (l5product.l1 kq l0 l1 x5_1 x6_1 x7_2 x8_2 = some r) ∧ Aside0 (kq ≤ k1) ∧ Aside0 (Kd.S (Kd.slice 3 (Kd.int .i64)) 26 w' w.heap.size (fun k_ => some k_ ≠ (v7 : Value).ownBlock) u5 x5_1) ∧ Aside0 (Kd.R (Kd.int .i64) 3 w' w.heap.size (fun _ => True) v7 x7_2) ∧ Aside0 (Below w.heap.size w w'))
    case atStart => exact ⟨(([] : List Int)), (0), rfl, H', ⟨Nat.le_refl _⟩, ⟨by exact Kd.S_mono HO_5.out (fun _ hk => (by simp [Value.ownBlock]))⟩, ⟨by first | exact Kd.R_nil _ _ _ _ _ | exact Kd.N_nil _ _ _ _ _ | exact Kd.V_nil _ _ _ _ _ | exact Kd.Q_nil _ _ _ _ _ | exact Kd.S_nil _ _ _ _ _⟩, ⟨HB.out⟩⟩
    case round =>
     clear H'
     obtain ⟨x7_2, x8_2, rfl, HA, HK2, HO_5, HO_7, HB⟩ := hrel
     cases gk with
     | zero => exact absurd HA.out (by simp [l5product.l1])
     | succ k2 =>
      have H := HA.out
      clear HA
      simp only [l5product.l1] at H
      by_cases c4 : x8_2 < (l0.length : Int)
      ·
       rw [if_pos c4] at H
       have c4b0 : decide (x8_2 < (l0.length : Int)) = true := decide_eq_true c4
       clear c4
       have H' := Aside0.mk H
       clear H
       go_wp2
       go_loopg [9, 10] k2 (fun kq v9 v10 w' => ∃ (x9_3 : Int) (x10_3 : Int), v9 = .int .i64 x9_3 ∧ v10 = .int .i64 x10_3 ∧ Aside0 (l5product.l2 kq l0 l1 x5_1 x6_1 x7_2 x8_2 x9_3 x10_3 = some r) ∧ Aside0 (kq ≤ k2) ∧ Aside0 (Kd.S (Kd.slice 3 (Kd.int .i64)) 26 w' w.heap.size (fun k_ => some k_ ≠ (u7 : Value).ownBlock) u5 x5_1) ∧ Aside0 (Kd.R (Kd.int .i64) 3 w' w.heap.size (fun _ => True) u7 x7_2) ∧ Aside0 (Below w.heap.size w w'))
       case atStart => exact ⟨((-1152921504606846976)), (0), rfl, rfl, H', ⟨Nat.le_refl _⟩, ⟨by exact HO_5.out⟩, ⟨by exact HO_7.out⟩, ⟨HB.out⟩⟩
       case round =>
        clear H'
        obtain ⟨x9_3, x10_3, rfl, rfl, HA, HK3, HO_5, HO_7, HB⟩ := hrel
        cases gk with
        | zero => exact absurd HA.out (by simp [l5product.l2])
        | succ k3 =>
         have H := HA.out
         clear HA
         simp only [l5product.l2] at H
         by_cases c5 : x10_3 < (l0.length : Int)
         ·
          rw [if_pos c5] at H
          have c5b0 : decide (x10_3 < (l0.length : Int)) = true := decide_eq_true c5
          clear c5
          by_cases c6 : 0 ≤ x6_1
          ·
           rw [if_pos c6] at H
           have c6b0 : decide (0 ≤ x6_1) = true := decide_eq_true c6
           clear c6
           by_cases c7 : x6_1 < (l0.length : Int)
           ·
            rw [if_pos c7] at H
            have c7b0 : decide (x6_1 < (l0.length : Int)) = true := decide_eq_true c7
            clear c7
            by_cases c8 : 0 ≤ x10_3
            ·
             rw [if_pos c8] at H
             have c8b0 : decide (0 ≤ x10_3) = true := decide_eq_true c8
             clear c8
             by_cases c9 : x10_3 < ((rd_L1 l0 x6_1).length : Int)
             ·
              rw [if_pos c9] at H
              have c9b0 : decide (x10_3 < ((rd_L1 l0 x6_1).length : Int)) = true := decide_eq_true c9
              clear c9
              by_cases c10 : x10_3 < (l1.length : Int)
              ·
               rw [if_pos c10] at H
               have c10b0 : decide (x10_3 < (l1.length : Int)) = true := decide_eq_true c10
               clear c10
               by_cases c11 : 0 ≤ x8_2
               ·
                rw [if_pos c11] at H
                have c11b0 : decide (0 ≤ x8_2) = true := decide_eq_true c11
                clear c11
                by_cases c12 : x8_2 < ((rd_L1 l1 x10_3).length : Int)
                ·
                 rw [if_pos c12] at H
                 have c12b0 : decide (x8_2 < ((rd_L1 l1 x10_3).length : Int)) = true := decide_eq_true c12
                 clear c12
                 replace H := Option.bind_eq_some_iff.mp H
                 obtain ⟨t671, A130, H⟩ := H
                 replace H : (l5product.l2 k3 l0 l1 x5_1 x6_1 x7_2 x8_2 (mx x9_3 t671) (wrap64 (x10_3 + 1))) = some r := H
                 have A13 := Aside0.mk A130
                 clear A130
                 obtain ⟨ji14, hji14⟩ : ∃ j_ : Int, (mx x9_3 t671) = j_ := ⟨_, rfl⟩
                 replace H : (l5product.l2 k3 l0 l1 x5_1 x6_1 x7_2 x8_2 ji14 (wrap64 (x10_3 + 1))) = some r := by first | (rw [hji14] at H; exact H) | (simp only [hji14] at H ⊢; exact H)
                 (try rw [hji14] at A13)
                 have hji14_ : (if x9_3 < t671 then t671 else x9_3) = ji14 := hji14
                 have H' := Aside0.mk H
                 clear H
                 have p667 : 0 ≤ (x6_1 : Int) := of_decide_eq_true (by assumption)
                 have q667 : x6_1 < (l0.length : Int) := of_decide_eq_true (by assumption)
                 obtain ⟨ad667, A667_0, c667_0, e667, hx667_0, hl667_0, hi667_0⟩ := at_L1 HR0.out x6_1 p667 q667
                 cases e667
                 replace hx667_0 := (HB.out.cell (World.block_lt_of_cell? w _ hx667_0)).trans hx667_0
                 have HR667_0 := Aside0.mk hi667_0
                 have HC667_0 := Aside0.mk hl667_0
                 clear hi667_0 hl667_0
                 replace p667 := eq_true p667
                 replace q667 := eq_true q667
                 have p668 : 0 ≤ (x10_3 : Int) := of_decide_eq_true (by assumption)
                 have q668 : x10_3 < ((rd_L1 l0 x6_1).length : Int) := of_decide_eq_true (by assumption)
                 obtain ⟨ad668, e668, hx668_0⟩ := Kd.at_int HR667_0.out x10_3 p668 q668
                 cases e668
                 replace hx668_0 := (HB.out.cell (World.block_lt_of_cell? w _ hx668_0)).trans hx668_0
                 replace p668 := eq_true p668
                 replace q668 := eq_true q668
                 have p669 : 0 ≤ (x10_3 : Int) := of_decide_eq_true (by assumption)
                 have q669 : x10_3 < (l1.length : Int) := of_decide_eq_true (by assumption)
                 obtain ⟨ad669, A669_0, c669_0, e669, hx669_0, hl669_0, hi669_0⟩ := at_L1 HR1.out x10_3 p669 q669
                 cases e669
                 replace hx669_0 := (HB.out.cell (World.block_lt_of_cell? w _ hx669_0)).trans hx669_0
                 have HR669_0 := Aside0.mk hi669_0
                 have HC669_0 := Aside0.mk hl669_0
                 clear hi669_0 hl669_0
                 replace p669 := eq_true p669
                 replace q669 := eq_true q669
                 have p670 : 0 ≤ (x8_2 : Int) := of_decide_eq_true (by assumption)
                 have q670 : x8_2 < ((rd_L1 l1 x10_3).length : Int) := of_decide_eq_true (by assumption)
                 obtain ⟨ad670, e670, hx670_0⟩ := Kd.at_int HR669_0.out x8_2 p670 q670
                 cases e670
                 replace hx670_0 := (HB.out.cell (World.block_lt_of_cell? w _ hx670_0)).trans hx670_0
                 replace p670 := eq_true p670
                 replace q670 := eq_true q670
                 go_wp2_with (first | (go_at_call 44; (with_reducible refine (l5plus.calls (rd (rd_L1 l0 x6_1) x10_3) (rd (rd_L1 l1 x10_3) x8_2) t671 _ A13.out).mono ?_); rintro e w' ⟨rfl, ⟨nd, rfl⟩⟩; (try first | exact ⟨rfl, _, World.drewN_drewN _ _ _⟩ | exact ⟨rfl, _, Eq.trans (World.drewN_drewN _ _ _) (congrArg (World.drewN _) (Nat.add_assoc _ _ _))⟩)))
                 repeat (go_quiet (first | (go_at_call 44; (with_reducible refine (l5plus.calls (rd (rd_L1 l0 x6_1) x10_3) (rd (rd_L1 l1 x10_3) x8_2) t671 _ A13.out).mono ?_); rintro e w' ⟨rfl, ⟨nd, rfl⟩⟩; (try first | exact ⟨rfl, _, World.drewN_drewN _ _ _⟩ | exact ⟨rfl, _, Eq.trans (World.drewN_drewN _ _ _) (congrArg (World.drewN _) (Nat.add_assoc _ _ _))⟩))); try go_wp2_with (first | (go_at_call 44; (with_reducible refine (l5plus.calls (rd (rd_L1 l0 x6_1) x10_3) (rd (rd_L1 l1 x10_3) x8_2) t671 _ A13.out).mono ?_); rintro e w' ⟨rfl, ⟨nd, rfl⟩⟩; (try first | exact ⟨rfl, _, World.drewN_drewN _ _ _⟩ | exact ⟨rfl, _, Eq.trans (World.drewN_drewN _ _ _) (congrArg (World.drewN _) (Nat.add_assoc _ _ _))⟩))))
                 go_roundg k3
                 case measure => have := HK1.out; have := HK2.out; have := HK3.out; omega
                 case rel => exact ⟨(ji14), (wrap64 (x10_3 + 1)), (by first | rfl | (simp; done) | (simp only [← hji14] <;> (first | rfl | simp)) | (simp [*]; done)), rfl, H', ⟨by have := HK1.out; have := HK2.out; have := HK3.out; omega⟩, ⟨by exact HO_5.out⟩, ⟨by exact HO_7.out⟩, ⟨by repeat (first | exact HB.out | apply below_alloc | apply pw_below_drewN | apply below_drew1)⟩⟩
                ·
                 rw [if_neg c12] at H
                 exact absurd H (by simp)
               ·
                rw [if_neg c11] at H
                exact absurd H (by simp)
              ·
               rw [if_neg c10] at H
               exact absurd H (by simp)
             ·
              rw [if_neg c9] at H
              exact absurd H (by simp)
            ·
             rw [if_neg c8] at H
             exact absurd H (by simp)
           ·
            rw [if_neg c7] at H
            exact absurd H (by simp)
          ·
           rw [if_neg c6] at H
           exact absurd H (by simp)
         ·
          rw [if_neg c5] at H
          have c5b0 : decide (x10_3 < (l0.length : Int)) = false := decide_eq_false c5
          clear c5
          by_cases c15 : x7_2.length < 17592186044416
          ·
           rw [if_pos c15] at H
           have LMc15 := Aside0.mk c15
           clear c15
           obtain ⟨y672, hy672⟩ : ∃ y_ : List Int, y_ = (x7_2 ++ [x9_3]) := ⟨_, rfl⟩
           replace H : (l5product.l1 k3 l0 l1 x5_1 x6_1 y672 (wrap64 (x8_2 + 1))) = some r := by rw [hy672]; exact H
           have Ny672 := Aside0.mk hy672
           clear hy672
           have H' := Aside0.mk H
           clear H
           go_wp2_with (first | ((with_reducible refine gate_builtin (b := .append) (xs := #[.tmp 46, .tmp 48]) rfl ?_); at_builtin; refine Kd.R_append (Kd.int .i64) (w0 := w) w.heap.size rfl (.tmp 46) (.tmp 48) 26 3 (.int .i64 0) 8 rfl Try.underlying26 info3 rfl (by decide) (by omega) u7 x7_2 x9_3 [.int .i64 x9_3] (fun _ => True) (fun _ => False) rfl rfl ?aP (fun _ hk => hk.elim) ?aF ?aO ?aB ?aS ?aL ?_; (case aP => exact rfl); (case aB => exact (HB.out)); (case aF => exact (fun _ _ => trivial)); (case aO => exact (by exact HO_7.out)); (case aS => exact (below_size (HB.out))); (case aL => have := LMc15.out; omega); intro v673 w16 ho hb hg hat; rw [← Ny672.out] at ho; have n0_ := Aside0.mk (Kd.S_after (ok := (fun _ => True)) (by exact Kd.S_mono HO_5.out (fun _ hk => ⟨trivial, hk⟩)) hg hat); have n1_ := Aside0.mk (hb); have n2_ := Aside0.mk (ho); clear HO_5; clear HB; clear HO_7; have HO_5 := n0_; have HB := n1_; have HO674 := n2_; clear n0_ n1_ n2_; clear ho hb hg hat))
           go_roundg k3
           case measure => have := HK1.out; have := HK2.out; have := HK3.out; omega
           case rel => exact ⟨(y672), (wrap64 (x8_2 + 1)), rfl, H', ⟨by have := HK1.out; have := HK2.out; have := HK3.out; omega⟩, ⟨by exact Kd.S_mono HO_5.out (fun _ hk => hk.2)⟩, ⟨by exact HO674.out⟩, ⟨HB.out⟩⟩
          ·
           rw [if_neg c15] at H
           exact absurd H (by simp)
      ·
       rw [if_neg c4] at H
       have c4b0 : decide (x8_2 < (l0.length : Int)) = false := decide_eq_false c4
       clear c4
       by_cases c17 : x5_1.length < 5864062014805
       ·
        rw [if_pos c17] at H
        have LMc17 := Aside0.mk c17
        clear c17
        obtain ⟨y664, hy664⟩ : ∃ y_ : List (List Int), y_ = (x5_1 ++ [x7_2]) := ⟨_, rfl⟩
        replace H : (l5product.l0 k2 l0 l1 y664 (wrap64 (x6_1 + 1))) = some r := by rw [hy664]; exact H
        have Ny664 := Aside0.mk hy664
        clear hy664
        have H' := Aside0.mk H
        clear H
        obtain ⟨Ao19, co19, eo19⟩ := Kd.R_slice HO_7.out
        subst eo19
        go_wp2_with (first | ((with_reducible refine gate_builtin (b := .append) (xs := #[.tmp 50, .tmp 52]) rfl ?_); at_builtin; refine Kd.S_append (Kd.slice 3 (Kd.int .i64)) (w0 := w) w.heap.size rfl (.tmp 50) (.tmp 52) 22 26 (.slice none 0 0) 24 rfl Try.underlying22 info26 rfl (by decide) (by omega) u5 x5_1 x7_2 [.slice Ao19 x7_2.length co19] (fun _ => True) (fun k_ => some k_ = (.slice Ao19 x7_2.length co19 : Value).ownBlock) rfl rfl ?aP (fun k_ hk_ => ((Kd.R_mono (ok' := fun k_ => ((fun _ => True)) k_ ∧ some k_ ≠ (u5 : Value).ownBlock) (Kd.R_apart' (HO_7.out) (Kd.S_typed HO_5.out) (by decide)) (fun k_ hk => ⟨trivial, hk.2⟩))).1 k_ hk_.symm) ?aF ?aO ?aB ?aS ?aL ?_; (case aP => exact Kd.M_row (Kd.R_mono (Kd.R_tight rfl (Kd.R_mono (ok' := fun k_ => ((fun _ => True)) k_ ∧ some k_ ≠ (u5 : Value).ownBlock) (Kd.R_apart' (HO_7.out) (Kd.S_typed HO_5.out) (by decide)) (fun k_ hk => ⟨trivial, hk.2⟩))) (fun _ h_ => h_))); (case aB => exact (HB.out)); (case aF => exact (fun _ _ => trivial)); (case aO => exact (by exact Kd.S_mono HO_5.out (fun k_ hk => ⟨trivial, fun e_ => hk e_⟩))); (case aS => exact (below_size (HB.out))); (case aL => have := LMc17.out; omega); intro v665 w18 ho hb hg hat; rw [← Ny664.out] at ho; have n0_ := Aside0.mk (hb); have n1_ := Aside0.mk (ho); clear HB; clear HO_5; clear HO_7; have HB := n0_; have HO666 := n1_; clear n0_ n1_; clear ho hb hg hat))
        go_roundg k2
        case measure => have := HK1.out; have := HK2.out; omega
        case rel => exact ⟨(y664), (wrap64 (x6_1 + 1)), rfl, H', ⟨by have := HK1.out; have := HK2.out; omega⟩, ⟨by exact HO666.out⟩, ⟨HB.out⟩⟩
       ·
        rw [if_neg c17] at H
        exact absurd H (by simp)
   ·
    rw [if_neg c3] at H
    have c3b0 : decide (x6_1 < (l0.length : Int)) = false := decide_eq_false c3
    clear c3
    obtain rfl := Option.some.inj H
    go_wp2
    go_ret
    exact ⟨_, rfl, by exact HO_5.out, HB.out⟩
end Go.Proofs.Ythjmfbmffchicaa.V
