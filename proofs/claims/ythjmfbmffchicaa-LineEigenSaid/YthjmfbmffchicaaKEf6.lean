/- Walks of functions that the law LineEigen reaches: each theorem '.calls' says that the call comes to what its printed plain function says, under the conditions that stand in it. -/
import Derived.Test.YthjmfbmffchicaaProg
import Derived.Below
import Derived.Deep.Draws
import Derived.Deep.AppendLies
import Derived.Maps.AppendAt
import Derived.OwnWalk
import Derived.Laws.BytesArg
import Derived.Laws.MakeOwn
import Derived.Laws.OwnMore
import Derived.Deep.OwnRows
import Derived.Tactics
import Derived.Lib.ConvBytes
import Derived.Laws.Slices
import Derived.WalkKit
import Derived.KernelRfl
import Derived.RowKit3
import Derived.Deep.LoopGhost
import Derived.Deep.QuietTactic
import Derived.BigQuiet
import Derived.WideLaws
import Derived.Deep.DeepCutAuto
import Derived.Deep.CutBlock
import Derived.Deep.RegionHeld3
import Derived.Laws.Rows
import Derived.Lib.AppendStr
import Derived.ArgAppend
import Derived.Laws.IdiomCopy
import Derived.OrdersHeld
import Derived.Laws.BitsLemmas
import Derived.RowKit
import Derived.Test.YthjmfbmffchicaaKEAid
import Derived.Test.YthjmfbmffchicaaKEWWords
import Derived.Test.YthjmfbmffchicaaKEWLast
import Derived.Test.YthjmfbmffchicaaKEWTab
import Derived.Test.YthjmfbmffchicaaKEWFour
import Derived.Test.YthjmfbmffchicaaKEWQPut
import Derived.Test.YthjmfbmffchicaaKEWApart
import Derived.Test.YthjmfbmffchicaaKEWArr
import Derived.Test.YthjmfbmffchicaaKEWZeros
import Derived.Test.YthjmfbmffchicaaKEWFoot
import Derived.Test.YthjmfbmffchicaaKEWKept
import Derived.Test.YthjmfbmffchicaaKEWShare
import Derived.Test.YthjmfbmffchicaaKEWN
import Derived.Test.YthjmfbmffchicaaKEWFootNe
import Derived.Test.YthjmfbmffchicaaKEWAt
import Derived.Test.YthjmfbmffchicaaKEWEqStruct
import Derived.Test.YthjmfbmffchicaaKEWRepsOne
import Derived.Test.YthjmfbmffchicaaKEWInv
import Derived.Test.YthjmfbmffchicaaKEWInvWords
import Derived.Test.YthjmfbmffchicaaKEWGuard
import Derived.Test.YthjmfbmffchicaaKEWNEv
import Derived.Test.YthjmfbmffchicaaKEWMore
import Derived.Test.YthjmfbmffchicaaKEf0
import Derived.Test.YthjmfbmffchicaaKEf3
import Derived.Test.YthjmfbmffchicaaKEf4
import Derived.Test.YthjmfbmffchicaaKEf5
namespace Go.Proofs.Ythjmfbmffchicaa.V
open Go.RowKit Go.Proofs.YthjmfbmffchicaaW.PrintWords Go.Proofs.YthjmfbmffchicaaW.PrintLast Go.Proofs.YthjmfbmffchicaaW.PrintMore
attribute [local go_sem] max2_int min2_int max_two min_two max_three min_three max_four min_four
set_option linter.unusedVariables false
set_option linter.unusedSimpArgs false
mutual
def line_Regime.l0 : Nat → Int → Int → Int → List (List Int) → Int → Int → List (List Int) → List (List Int) → Option (Int × Int × Int)
 | 0, _, _, _, _, _, _, _, _ => none
 | k + 1, x7, x8, x10, x380000, x380001, x380002, x380003, x380004 => (line_Regime_1.f k x10 x380000 x8 x7).bind fun t382 => (if t382 = true then (line_Regime.l1 k x7 x8 x10 0 x380000 x380001 x380002 x380003 x380004) else (line_Regime.l0 k x7 x8 (wrap64 (x10 * 2)) x380000 x380001 x380002 x380003 x380004))
def line_Regime.l1 : Nat → Int → Int → Int → Int → List (List Int) → Int → Int → List (List Int) → List (List Int) → Option (Int × Int × Int)
 | 0, _, _, _, _, _, _, _, _, _ => none
 | k + 1, x7, x8, x10, x11, x380000, x380001, x380002, x380003, x380004 => if x11 < x10 then ((line_Regime_1.f k (wrap64 (Int.tdiv (wrap64 (x11 + x10)) 2)) x380000 x8 x7).bind fun t383 => (if t383 = true then (line_Regime.l1 k x7 x8 (wrap64 (Int.tdiv (wrap64 (x11 + x10)) 2)) x11 x380000 x380001 x380002 x380003 x380004) else (line_Regime.l1 k x7 x8 x10 (wrap64 ((wrap64 (Int.tdiv (wrap64 (x11 + x10)) 2)) + 1)) x380000 x380001 x380002 x380003 x380004))) else (some (x7, x11, 0))
end
def line_Regime.f (k : Nat) (l0 : List (List Int)) : Option (Int × Int × Int) := (line_looked.f k l0).bind fun bt367 => (if bt367.2.2.2.2.2 = 0 then ((lgconnected.f k bt367.1).bind fun t380 => (if t380 = true then ((llperiod.f k bt367.1 bt367.2.1 bt367.2.2.1 bt367.2.2.2.1 bt367.2.2.2.2.1).bind fun t381 => (if bt367.2.2.1 = 0 then (none) else (line_Regime.l0 k t381 (wrap64 (Int.tdiv (wrap64 (t381 * bt367.2.1)) bt367.2.2.1)) 1 bt367.1 bt367.2.1 bt367.2.2.1 bt367.2.2.2.1 bt367.2.2.2.2.1))) else (some (0, 0, 10)))) else (some (0, 0, bt367.2.2.2.2.2)))
theorem line_Regime.mono_l : ∀ k, (∀ y0 y1 y2 y3 y4 y5 y6 y7, LeO (line_Regime.l0 k y0 y1 y2 y3 y4 y5 y6 y7) (line_Regime.l0 (k + 1) y0 y1 y2 y3 y4 y5 y6 y7)) ∧ (∀ y0 y1 y2 y3 y4 y5 y6 y7 y8, LeO (line_Regime.l1 k y0 y1 y2 y3 y4 y5 y6 y7 y8) (line_Regime.l1 (k + 1) y0 y1 y2 y3 y4 y5 y6 y7 y8))
 | 0 => ⟨fun _ _ _ _ _ _ _ _ r h => by simp [line_Regime.l0] at h, fun _ _ _ _ _ _ _ _ _ r h => by simp [line_Regime.l1] at h⟩
 | k + 1 => by
  obtain ⟨ih0, ih1⟩ := line_Regime.mono_l k
  refine ⟨?_, ?_⟩
  ·
   intro y0 y1 y2 y3 y4 y5 y6 y7
   unfold line_Regime.l0
   repeat' first
   | (with_reducible exact LeO.refl _)
   | (with_reducible exact LeO.none _)
   | (with_reducible refine LeO.ite ?_ ?_)
   | (with_reducible refine LeO.bind ?_ (fun _ => ?_))
   | exact ih0 _ _ _ _ _ _ _ _
   | exact ih1 _ _ _ _ _ _ _ _ _
   | exact line_Regime_1.mono _ _ _ _ _
   | exact lgconnected.mono _ _
   | exact llperiod.mono _ _ _ _ _ _
   | exact line_looked.mono _ _
   | exact LeO.none _
   | refine LeO.ite ?_ ?_
   | refine LeO.bind ?_ (fun _ => ?_)
  ·
   intro y0 y1 y2 y3 y4 y5 y6 y7 y8
   unfold line_Regime.l1
   repeat' first
   | (with_reducible exact LeO.refl _)
   | (with_reducible exact LeO.none _)
   | (with_reducible refine LeO.ite ?_ ?_)
   | (with_reducible refine LeO.bind ?_ (fun _ => ?_))
   | exact ih0 _ _ _ _ _ _ _ _
   | exact ih1 _ _ _ _ _ _ _ _ _
   | exact line_Regime_1.mono _ _ _ _ _
   | exact lgconnected.mono _ _
   | exact llperiod.mono _ _ _ _ _ _
   | exact line_looked.mono _ _
   | exact LeO.none _
   | refine LeO.ite ?_ ?_
   | refine LeO.bind ?_ (fun _ => ?_)
theorem line_Regime.mono : ∀ a0 k, LeO (line_Regime.f k a0) (line_Regime.f (k + 1) a0) := by
 intro a0 k
 obtain ⟨ih0, ih1⟩ := line_Regime.mono_l k
 unfold line_Regime.f
 repeat' first
   | (with_reducible exact LeO.refl _)
   | (with_reducible exact LeO.none _)
   | (with_reducible refine LeO.ite ?_ ?_)
   | (with_reducible refine LeO.bind ?_ (fun _ => ?_))
   | exact ih0 _ _ _ _ _ _ _ _
   | exact ih1 _ _ _ _ _ _ _ _ _
   | exact line_Regime_1.mono _ _ _ _ _
   | exact lgconnected.mono _ _
   | exact llperiod.mono _ _ _ _ _ _
   | exact line_looked.mono _ _
   | exact LeO.none _
   | refine LeO.ite ?_ ?_
   | refine LeO.bind ?_ (fun _ => ?_)
set_option maxHeartbeats 8000000 in
set_option maxRecDepth 100000 in
theorem line_Regime.calls (k : Nat) (A0 : Option Addr) (c0 : Nat) (l0 : List (List Int)) (r1 : Int) (r2 : Int) (r3 : Int) (w : World) (hr0 : Kd.C (Kd.slice 3 (Kd.int .i64)) w A0 l0.length l0) (hc0 : l0.length ≤ c0) (h : line_Regime.f k l0 = some (r1, r2, r3)) :
  Calls Try.prog 18 #[.slice A0 l0.length c0] w fun e w' => e = .returned (.tuple #[.int .i64 r1, .int .i64 r2, .int .i64 r3]) ∧ Below w.heap.size w w' := by
 have hu58 := Try.underlying58
 have HR0 := Aside0.mk hr0
 have HC0 := Aside0.mk hc0
 clear hr0 hc0
 have HB := Aside0.mk (Below.refl w.heap.size w)
 have H : ((line_looked.f k l0).bind fun bt367 => (if bt367.2.2.2.2.2 = 0 then ((lgconnected.f k bt367.1).bind fun t380 => (if t380 = true then ((llperiod.f k bt367.1 bt367.2.1 bt367.2.2.1 bt367.2.2.2.1 bt367.2.2.2.2.1).bind fun t381 => (if bt367.2.2.1 = 0 then (none) else (line_Regime.l0 k t381 (wrap64 (Int.tdiv (wrap64 (t381 * bt367.2.1)) bt367.2.2.1)) 1 bt367.1 bt367.2.1 bt367.2.2.1 bt367.2.2.2.1 bt367.2.2.2.2.1))) else (some (0, 0, 10)))) else (some (0, 0, bt367.2.2.2.2.2)))) = some (r1, r2, r3) := h
 clear h
 replace H := Option.bind_eq_some_iff.mp H
 obtain ⟨⟨t367, t370, t371, t372, t375, t378⟩, A20, H⟩ := H
 replace H : (if t378 = 0 then ((lgconnected.f k t367).bind fun t380 => (if t380 = true then ((llperiod.f k t367 t370 t371 t372 t375).bind fun t381 => (if t371 = 0 then (none) else (line_Regime.l0 k t381 (wrap64 (Int.tdiv (wrap64 (t381 * t370)) t371)) 1 t367 t370 t371 t372 t375))) else (some (0, 0, 10)))) else (some (0, 0, t378))) = some (r1, r2, r3) := H
 have A2 := Aside0.mk A20
 clear A20
 by_cases c3 : t378 = 0
 ·
  rw [if_pos c3] at H
  have c3b0 : (t378 == 0) = true := beq_iff_eq.mpr c3
  clear c3
  replace H := Option.bind_eq_some_iff.mp H
  obtain ⟨t380, A40, H⟩ := H
  replace H : (if t380 = true then ((llperiod.f k t367 t370 t371 t372 t375).bind fun t381 => (if t371 = 0 then (none) else (line_Regime.l0 k t381 (wrap64 (Int.tdiv (wrap64 (t381 * t370)) t371)) 1 t367 t370 t371 t372 t375))) else (some (0, 0, 10))) = some (r1, r2, r3) := H
  have A4 := Aside0.mk A40
  clear A40
  by_cases c5 : t380 = true
  ·
   subst c5
   have H1 : ((llperiod.f k t367 t370 t371 t372 t375).bind fun t381 => (if t371 = 0 then (none) else (line_Regime.l0 k t381 (wrap64 (Int.tdiv (wrap64 (t381 * t370)) t371)) 1 t367 t370 t371 t372 t375))) = some (r1, r2, r3) := by rw [if_pos rfl] at H; exact H
   clear H
   have H := H1
   clear H1
   replace H := Option.bind_eq_some_iff.mp H
   obtain ⟨t381, A60, H⟩ := H
   replace H : (if t371 = 0 then (none) else (line_Regime.l0 k t381 (wrap64 (Int.tdiv (wrap64 (t381 * t370)) t371)) 1 t367 t370 t371 t372 t375)) = some (r1, r2, r3) := H
   have A6 := Aside0.mk A60
   clear A60
   by_cases c7 : t371 = 0
   ·
    rw [if_pos c7] at H
    exact absurd H (by simp)
   ·
    rw [if_neg c7] at H
    have c7b0 : (t371 == 0) = false := beq_eq_false_iff_ne.mpr c7
    have c7b1 : (t371 != 0) = true := bne_iff_ne.mpr c7
    have H' := Aside0.mk H
    clear H
    go_enter Try.func18, Try.ntmps18
    go_wp2_with (first | ((with_reducible refine gate_callee (f := 45) rfl ?_); refine goesL_ (some 15) rfl rfl Try.func45 (by kernel_rfl) rfl #[.slice A0 l0.length c0] rfl (by (try simp only [List.map_toArray, List.map_cons, List.map_nil]); first | done | rfl | (simp only [List.length_drop, List.length_take]; rfl)) ?_; (with_reducible refine (line_looked.calls k (fun k_ => k_ < w.heap.size) _ _ l0 t367 t370 t371 t372 t375 t378 _ ?side1 A2.out).mono ?_); (case side1 => exact Kd.V_mk HC0.out (Kd.F_below (Kd.C_F (Kd.heap_slice 3 (Kd.heap_int .i64)) HR0.out) (by repeat (first | (with_reducible first | exact HB.out | apply below_alloc | apply pw_below_drewN | apply below_drew1) | exact HB.out)))); rintro e w8 ⟨v368, v373, v376, rfl, ho0, ho1, ho2, hb⟩; refine ⟨_, rfl, ?_⟩; have n0_ := Aside0.mk (Kd.V_lower (Kd.V_mono (ok' := fun k_ => some k_ ≠ (v373 : Value).ownBlock ∧ some k_ ≠ (v376 : Value).ownBlock) ho0 (fun k_ hk_ => ⟨hk_.2.1, hk_.2.2⟩)) (below_size (by repeat (first | (with_reducible first | exact HB.out | apply below_alloc | apply pw_below_drewN | apply below_drew1) | exact HB.out)))); have n1_ := Aside0.mk (Kd.S_lower (Kd.S_mono (ok' := fun k_ => some k_ ≠ (v376 : Value).ownBlock) ho1 (fun _ hk_ => hk_.2)) (below_size (by repeat (first | (with_reducible first | exact HB.out | apply below_alloc | apply pw_below_drewN | apply below_drew1) | exact HB.out)))); have n2_ := Aside0.mk (Kd.S_lower (Kd.S_mono (ok' := fun k_ => some k_ ≠ (v373 : Value).ownBlock) ho2 (fun _ hk_ => hk_.2)) (below_size (by repeat (first | (with_reducible first | exact HB.out | apply below_alloc | apply pw_below_drewN | apply below_drew1) | exact HB.out)))); have n3_ := Aside0.mk (below_step (by repeat (first | (with_reducible first | exact HB.out | apply below_alloc | apply pw_below_drewN | apply below_drew1) | exact HB.out)) hb); clear HB; have HO369 := n0_; have HO374 := n1_; have HO377 := n2_; have HB := n3_; clear n0_ n1_ n2_ n3_; (try clear hb); (try clear hb2); (try clear hk); (try clear hi); (try clear ho0); (try clear ho1); (try clear ho2)) | ((with_reducible refine gate_dst (N := 5) rfl ?_); refine box_event ?hg (N := 5) ?hd (cs := #[.slice none 0 0, .int .i64 0, .int .i64 0, .slice none 0 0, .slice none 0 0]) (t := 58) ?hr ?_; (case hd => rfl); (case hg => rfl); (case hr => first | (go_simp; done) | (go_simp; rfl)); intro gb379 hg w9 hbox hb; have n0_ := Aside0.mk (Kd.V_below (Kd.V_elderB (by (with_reducible repeat (first | apply Kd.V_alloc | apply Kd.V_drewN | apply Kd.V_drew)); exact HO369.out) gb379 (Nat.le_of_eq hg.symm)) hb); have n1_ := Aside0.mk (Kd.S_below (by (with_reducible repeat (first | apply Kd.S_alloc | apply Kd.S_drewN | apply Kd.S_drew)); exact HO374.out) hb); have n2_ := Aside0.mk (Kd.S_below (by (with_reducible repeat (first | apply Kd.S_alloc | apply Kd.S_drewN | apply Kd.S_drew)); exact HO377.out) hb); have n3_ := Aside0.mk (below_step (by repeat (first | (with_reducible first | exact HB.out | apply below_alloc | apply pw_below_drewN | apply below_drew1) | exact HB.out)) hb); have n4_ := Aside0.mk (hbox); have n5_ := Aside0.mk ((by rw [hg]; exact (below_size (by repeat (first | (with_reducible first | exact HB.out | apply below_alloc | apply pw_below_drewN | apply below_drew1) | exact HB.out))) : w.heap.size ≤ gb379)); have n6_ := Aside0.mk ((by rw [hg]; exact (below_size (by repeat (first | (with_reducible first | exact HB.out | apply below_alloc | apply pw_below_drewN | apply below_drew1) | exact HB.out))) : w.heap.size ≤ gb379)); clear HO369; clear HO374; clear HO377; clear HB; have HO369 := n0_; have HO374 := n1_; have HO377 := n2_; have HB := n3_; have BK379 := n4_; have GW379 := n5_; have GE379 := n6_; clear n0_ n1_ n2_ n3_ n4_ n5_ n6_; clear hb hbox hg; obtain ⟨Ao10, co10, eo10⟩ := Kd.V_slice HO369.out; subst eo10; have hcz11_0 : w9.cell? ⟨gb379, 0, none⟩ = some (.slice none 0 0) := (blk_cell BK379.out 0).trans rfl; have hcz11_1 : w9.cell? ⟨gb379, 1, none⟩ = some (.int .i64 0) := (blk_cell BK379.out 1).trans rfl; have hcz11_2 : w9.cell? ⟨gb379, 2, none⟩ = some (.int .i64 0) := (blk_cell BK379.out 2).trans rfl; have hcz11_3 : w9.cell? ⟨gb379, 3, none⟩ = some (.slice none 0 0) := (blk_cell BK379.out 3).trans rfl; have hcz11_4 : w9.cell? ⟨gb379, 4, none⟩ = some (.slice none 0 0) := (blk_cell BK379.out 4).trans rfl; have hfz11_0 := blk_frozen BK379.out 0; have hfz11_1 := blk_frozen BK379.out 1; have hfz11_2 := blk_frozen BK379.out 2; have hfz11_3 := blk_frozen BK379.out 3; have hfz11_4 := blk_frozen BK379.out 4; obtain ⟨Ao12, co12, eo12⟩ := Kd.S_slice HO374.out; subst eo12; obtain ⟨Ao13, co13, eo13⟩ := Kd.S_slice HO377.out; subst eo13) | ((with_reducible refine gate_callee (f := 46) rfl ?_); refine goesL_ (some 25) rfl rfl Try.func46 (by kernel_rfl) rfl #[.slice Ao10 t367.length co10] rfl (by (try simp only [List.map_toArray, List.map_cons, List.map_nil]); first | done | rfl | (simp only [List.length_drop, List.length_take]; rfl)) ?_; (with_reducible refine (lgconnected.calls k _ _ t367 true _ ?side1 ?side2 A4.out).mono ?_); (case side1 => refine (Kd.V_reads' (e := 26) (base := w.heap.size) (ok := fun k_ => ((some k_ ≠ (.slice Ao12 t372.length co12 : Value).ownBlock ∧ some k_ ≠ (.slice Ao13 t375.length co13 : Value).ownBlock) ∧ k_ ≠ gb379)) (n := t367.length) (c := co10) ?_).2.2; exact (by (with_reducible repeat (first | apply Kd.V_alloc | apply Kd.V_drewN | apply Kd.V_drew)); exact (Kd.V_mono (Kd.V_far (p := ⟨gb379, 4, none⟩) (Kd.V_far (p := ⟨gb379, 3, none⟩) (Kd.V_far (p := ⟨gb379, 2, none⟩) (Kd.V_far (p := ⟨gb379, 1, none⟩) (Kd.V_far (p := ⟨gb379, 0, none⟩) (Kd.V_mono HO369.out (fun k_ hk => (⟨hk, hk.2⟩ : _ ∧ k_ ≠ gb379))) (fun _ hk => hk.2) (.slice Ao10 t367.length co10)) (fun _ hk => hk.2) (.int .i64 t370)) (fun _ hk => hk.2) (.int .i64 t371)) (fun _ hk => hk.2) (.slice Ao12 t372.length co12)) (fun _ hk => hk.2) (.slice Ao13 t375.length co13)) (fun _ h_ => h_.1)))); (case side2 => exact (Kd.V_reads' HO369.out).2.1); rintro e w14 ⟨rfl, hb⟩; refine ⟨_, rfl, ?_⟩; have n0_ := Aside0.mk (Kd.V_below (by (with_reducible repeat (first | apply Kd.V_alloc | apply Kd.V_drewN | apply Kd.V_drew)); exact (Kd.V_mono (Kd.V_far (p := ⟨gb379, 4, none⟩) (Kd.V_far (p := ⟨gb379, 3, none⟩) (Kd.V_far (p := ⟨gb379, 2, none⟩) (Kd.V_far (p := ⟨gb379, 1, none⟩) (Kd.V_far (p := ⟨gb379, 0, none⟩) (Kd.V_mono HO369.out (fun k_ hk => (⟨hk, hk.2⟩ : _ ∧ k_ ≠ gb379))) (fun _ hk => hk.2) (.slice Ao10 t367.length co10)) (fun _ hk => hk.2) (.int .i64 t370)) (fun _ hk => hk.2) (.int .i64 t371)) (fun _ hk => hk.2) (.slice Ao12 t372.length co12)) (fun _ hk => hk.2) (.slice Ao13 t375.length co13)) (fun _ h_ => h_.1))) hb); have n1_ := Aside0.mk (Kd.S_below (by (with_reducible repeat (first | apply Kd.S_alloc | apply Kd.S_drewN | apply Kd.S_drew)); exact (Kd.S_mono (Kd.S_far (p := ⟨gb379, 4, none⟩) (Kd.S_far (p := ⟨gb379, 3, none⟩) (Kd.S_far (p := ⟨gb379, 2, none⟩) (Kd.S_far (p := ⟨gb379, 1, none⟩) (Kd.S_far (p := ⟨gb379, 0, none⟩) (Kd.S_types HO374.out BK379.out (by decide)) (fun _ hk => hk.2) (.slice Ao10 t367.length co10)) (fun _ hk => hk.2) (.int .i64 t370)) (fun _ hk => hk.2) (.int .i64 t371)) (fun _ hk => hk.2) (.slice Ao12 t372.length co12)) (fun _ hk => hk.2) (.slice Ao13 t375.length co13)) (fun _ h_ => h_.1))) hb); have n2_ := Aside0.mk (Kd.S_below (by (with_reducible repeat (first | apply Kd.S_alloc | apply Kd.S_drewN | apply Kd.S_drew)); exact (Kd.S_mono (Kd.S_far (p := ⟨gb379, 4, none⟩) (Kd.S_far (p := ⟨gb379, 3, none⟩) (Kd.S_far (p := ⟨gb379, 2, none⟩) (Kd.S_far (p := ⟨gb379, 1, none⟩) (Kd.S_far (p := ⟨gb379, 0, none⟩) (Kd.S_types HO377.out BK379.out (by decide)) (fun _ hk => hk.2) (.slice Ao10 t367.length co10)) (fun _ hk => hk.2) (.int .i64 t370)) (fun _ hk => hk.2) (.int .i64 t371)) (fun _ hk => hk.2) (.slice Ao12 t372.length co12)) (fun _ hk => hk.2) (.slice Ao13 t375.length co13)) (fun _ h_ => h_.1))) hb); have n3_ := Aside0.mk (blk_below (g := gb379) (o := .cells #[.slice Ao10 t367.length co10, .int .i64 t370, .int .i64 t371, .slice Ao12 t372.length co12, .slice Ao13 t375.length co13] 58 (0, 0)) (by (with_reducible repeat (first | refine blk_drewN ?_ _ | refine blk_drew ?_ | refine blk_alloc ?_ _)); refine blk_put (cs := #[.slice Ao10 t367.length co10, .int .i64 t370, .int .i64 t371, .slice Ao12 t372.length co12, .slice none 0 0]) ?_ 4 _ rfl; (with_reducible repeat (first | refine blk_drewN ?_ _ | refine blk_drew ?_ | refine blk_alloc ?_ _)); refine blk_put (cs := #[.slice Ao10 t367.length co10, .int .i64 t370, .int .i64 t371, .slice none 0 0, .slice none 0 0]) ?_ 3 _ rfl; (with_reducible repeat (first | refine blk_drewN ?_ _ | refine blk_drew ?_ | refine blk_alloc ?_ _)); refine blk_put (cs := #[.slice Ao10 t367.length co10, .int .i64 t370, .int .i64 0, .slice none 0 0, .slice none 0 0]) ?_ 2 _ rfl; (with_reducible repeat (first | refine blk_drewN ?_ _ | refine blk_drew ?_ | refine blk_alloc ?_ _)); refine blk_put (cs := #[.slice Ao10 t367.length co10, .int .i64 0, .int .i64 0, .slice none 0 0, .slice none 0 0]) ?_ 1 _ rfl; (with_reducible repeat (first | refine blk_drewN ?_ _ | refine blk_drew ?_ | refine blk_alloc ?_ _)); refine blk_put (cs := #[.slice none 0 0, .int .i64 0, .int .i64 0, .slice none 0 0, .slice none 0 0]) ?_ 0 _ rfl; (with_reducible repeat (first | refine blk_drewN ?_ _ | refine blk_drew ?_ | refine blk_alloc ?_ _)); exact BK379.out) hb); have n4_ := Aside0.mk (below_step (by repeat (first | (with_reducible first | exact HB.out | apply below_alloc | apply pw_below_drewN | apply below_drew1 | refine below_set ?_ GE379.out) | exact HB.out)) hb); clear HO369; clear HO374; clear HO377; clear BK379; clear HB; have HO369 := n0_; have HO374 := n1_; have HO377 := n2_; have BK379 := n3_; have HB := n4_; clear n0_ n1_ n2_ n3_ n4_; (try clear hb); (try clear hb2); (try clear hk); (try clear hi); have hcz15_0 : w14.cell? ⟨gb379, 0, none⟩ = some (.slice Ao10 t367.length co10) := (blk_cell BK379.out 0).trans rfl; have hcz15_1 : w14.cell? ⟨gb379, 1, none⟩ = some (.int .i64 t370) := (blk_cell BK379.out 1).trans rfl; have hcz15_2 : w14.cell? ⟨gb379, 2, none⟩ = some (.int .i64 t371) := (blk_cell BK379.out 2).trans rfl; have hcz15_3 : w14.cell? ⟨gb379, 3, none⟩ = some (.slice Ao12 t372.length co12) := (blk_cell BK379.out 3).trans rfl; have hcz15_4 : w14.cell? ⟨gb379, 4, none⟩ = some (.slice Ao13 t375.length co13) := (blk_cell BK379.out 4).trans rfl; have hfz15_0 := blk_frozen BK379.out 0; have hfz15_1 := blk_frozen BK379.out 1; have hfz15_2 := blk_frozen BK379.out 2; have hfz15_3 := blk_frozen BK379.out 3; have hfz15_4 := blk_frozen BK379.out 4) | ((with_reducible refine gate_callee (f := 54) rfl ?_); refine goesL_ (some 28) rfl rfl Try.func54 (by kernel_rfl) rfl #[.agg #[.slice Ao10 t367.length co10, .int .i64 t370, .int .i64 t371, .slice Ao12 t372.length co12, .slice Ao13 t375.length co13]] rfl (by (try simp only [List.map_toArray, List.map_cons, List.map_nil]); first | done | rfl | (simp only [List.length_drop, List.length_take]; rfl)) ?_; (with_reducible refine (llperiod.calls k _ _ t367 t370 t371 _ _ t372 _ _ t375 t381 _ ?side1 ?side2 ?side3 ?side4 ?side5 ?side6 A6.out).mono ?_); (case side1 => repeat (first | exact (Kd.V_reads' HO369.out).2.2 | (with_reducible refine Kd.C_alloc ?_ _) | (with_reducible refine Kd.C_drewN ?_ _) | (with_reducible refine Kd.C_drew ?_))); (case side2 => exact (Kd.V_reads' HO369.out).2.1); (case side3 => repeat (first | exact (Kd.S_reads' HO374.out).2.2 | (with_reducible refine Kd.C_alloc ?_ _) | (with_reducible refine Kd.C_drewN ?_ _) | (with_reducible refine Kd.C_drew ?_))); (case side4 => exact (Kd.S_reads' HO374.out).2.1); (case side5 => repeat (first | exact (Kd.S_reads' HO377.out).2.2 | (with_reducible refine Kd.C_alloc ?_ _) | (with_reducible refine Kd.C_drewN ?_ _) | (with_reducible refine Kd.C_drew ?_))); (case side6 => exact (Kd.S_reads' HO377.out).2.1); rintro e w16 ⟨rfl, hb⟩; refine ⟨_, rfl, ?_⟩; have n0_ := Aside0.mk (Kd.V_below (by (with_reducible repeat (first | apply Kd.V_alloc | apply Kd.V_drewN | apply Kd.V_drew)); exact HO369.out) hb); have n1_ := Aside0.mk (Kd.S_below (by (with_reducible repeat (first | apply Kd.S_alloc | apply Kd.S_drewN | apply Kd.S_drew)); exact HO374.out) hb); have n2_ := Aside0.mk (Kd.S_below (by (with_reducible repeat (first | apply Kd.S_alloc | apply Kd.S_drewN | apply Kd.S_drew)); exact HO377.out) hb); have n3_ := Aside0.mk (blk_below (g := gb379) (o := .cells #[.slice Ao10 t367.length co10, .int .i64 t370, .int .i64 t371, .slice Ao12 t372.length co12, .slice Ao13 t375.length co13] 58 (0, 0)) (by (with_reducible repeat (first | refine blk_drewN ?_ _ | refine blk_drew ?_ | refine blk_alloc ?_ _)); exact BK379.out) hb); have n4_ := Aside0.mk (below_step (by repeat (first | (with_reducible first | exact HB.out | apply below_alloc | apply pw_below_drewN | apply below_drew1 | refine below_set ?_ GE379.out) | exact HB.out)) hb); clear HO369; clear HO374; clear HO377; clear BK379; clear HB; have HO369 := n0_; have HO374 := n1_; have HO377 := n2_; have BK379 := n3_; have HB := n4_; clear n0_ n1_ n2_ n3_ n4_; (try clear hb); (try clear hb2); (try clear hk); (try clear hi); have hcz17_0 : w16.cell? ⟨gb379, 0, none⟩ = some (.slice Ao10 t367.length co10) := (blk_cell BK379.out 0).trans rfl; have hcz17_1 : w16.cell? ⟨gb379, 1, none⟩ = some (.int .i64 t370) := (blk_cell BK379.out 1).trans rfl; have hcz17_2 : w16.cell? ⟨gb379, 2, none⟩ = some (.int .i64 t371) := (blk_cell BK379.out 2).trans rfl; have hcz17_3 : w16.cell? ⟨gb379, 3, none⟩ = some (.slice Ao12 t372.length co12) := (blk_cell BK379.out 3).trans rfl; have hcz17_4 : w16.cell? ⟨gb379, 4, none⟩ = some (.slice Ao13 t375.length co13) := (blk_cell BK379.out 4).trans rfl; have hfz17_0 := blk_frozen BK379.out 0; have hfz17_1 := blk_frozen BK379.out 1; have hfz17_2 := blk_frozen BK379.out 2; have hfz17_3 := blk_frozen BK379.out 3; have hfz17_4 := blk_frozen BK379.out 4; have HGB := Aside0.mk (World.block_lt_of_cell? w16 _ hcz17_0); have hal1 := fun o i => cell_alloc_old w16 gb379 HGB.out o i; have hal2 := fun o o2 i => cell_alloc_old2 w16 gb379 HGB.out o o2 i))
    have hgbm := HGB.out
    generalize hwm : (World.alloc (World.alloc w16 _) _) = wm
    have FB := Aside0.mk (show Below w.heap.size w wm by rw [← hwm]; exact below_alloc (below_alloc HB.out _) _)
    have FM := Aside0.mk (show Below w16.heap.size w16 wm by rw [← hwm]; exact below_alloc (below_alloc (Below.refl _ _) _) _)
    have FS := Aside0.mk (show wm.heap.size = w16.heap.size + 2 by rw [← hwm]; simp)
    have FC := Aside0.mk (show wm.cell? ⟨w16.heap.size, 0, none⟩ = some (.int .i64 t381) by rw [← hwm]; simp)
    have FA := Aside0.mk (show wm.cell? ⟨w16.heap.size + 1, 0, none⟩ = some (.int .i64 (wrap64 (Int.tdiv (wrap64 (t381 * t370)) t371))) by rw [← hwm]; simp)
    have FL := Aside0.mk ((FM.out.cell (p := ⟨gb379, 0, none⟩) HGB.out).trans hcz17_0)
    have FV := Aside0.mk (Kd.C_below (Kd.V_reads' HO369.out).2.2 FM.out)
    have FN := Aside0.mk (Kd.V_reads' HO369.out).2.1
    have SL := Aside0.mk (show gb379 < wm.heap.size by rw [FS.out]; have := HGB.out; omega)
    have SA := Aside0.mk (show w16.heap.size + 1 < wm.heap.size by rw [FS.out]; omega)
    have SC := Aside0.mk (show w16.heap.size < wm.heap.size by rw [FS.out]; omega)
    clear hwm hgbm hal1 hal2
    go_loopg [10] k (fun kq v10 w' => ∃ (x10 : Int), v10 = .int .i64 x10 ∧ Aside0 (line_Regime.l0 kq t381 (wrap64 (Int.tdiv (wrap64 (t381 * t370)) t371)) x10 t367 t370 t371 t372 t375 = some (r1, r2, r3)) ∧ Aside0 (kq ≤ k) ∧ Aside0 (Below wm.heap.size wm w'))
    case atStart => exact ⟨1, (by first | rfl | (simp; done)), H', ⟨Nat.le_refl _⟩, ⟨Below.refl _ _⟩⟩
    case round =>
     clear H'
     obtain ⟨x10, rfl, HA, HK1, HM⟩ := hrel
     cases gk with
     | zero => exact absurd HA.out (by simp [line_Regime.l0])
     | succ k1 =>
      have H := HA.out
      clear HA
      simp only [line_Regime.l0] at H
      replace H := Option.bind_eq_some_iff.mp H
      obtain ⟨t382, A180, H⟩ := H
      have A18 := Aside0.mk A180
      clear A180
      have hl_ := (HM.out.cell (p := ⟨gb379, 0, none⟩) SL.out).trans FL.out
      have ha_ := (HM.out.cell (p := ⟨w16.heap.size + 1, 0, none⟩) SA.out).trans FA.out
      have hc_ := (HM.out.cell (p := ⟨w16.heap.size, 0, none⟩) SC.out).trans FC.out
      have GL := Aside0.mk hl_
      have GA := Aside0.mk ha_
      have GC := Aside0.mk hc_
      clear hl_ ha_ hc_
      by_cases c19 : t382 = true
      ·
       subst c19
       have HX := Aside0.mk (show line_Regime.l1 k1 t381 (wrap64 (Int.tdiv (wrap64 (t381 * t370)) t371)) x10 0 t367 t370 t371 t372 t375 = some (r1, r2, r3) by rw [if_pos rfl] at H; exact H)
       clear H
       go_wp2_with (go_at_call 55; (with_reducible refine (line_Regime_1.calls k1 x10 Ao10 co10 t367 (wrap64 (Int.tdiv (wrap64 (t381 * t370)) t371)) t381 true _ ?s1 ?s2 A18.out gb379 (w16.heap.size + 1) w16.heap.size ?b1 ?b2 ?b3 ?c1 ?c2 ?c3).mono ?_); (case s1 => exact Kd.C_below FV.out HM.out); (case s2 => exact FN.out); (case b1 => exact Nat.lt_of_lt_of_le SL.out (below_size HM.out)); (case b2 => exact Nat.lt_of_lt_of_le SA.out (below_size HM.out)); (case b3 => exact Nat.lt_of_lt_of_le SC.out (below_size HM.out)); (case c1 => exact GL.out); (case c2 => exact GA.out); (case c3 => exact GC.out); rintro e w21 ⟨rfl, hb⟩; have n_ := Aside0.mk (below_step HM.out hb); clear HM hb; have HM := n_; clear n_)
       go_loopg [10, 11] k1 (fun kq v10 v11 w' => ∃ (x10 : Int) (x11 : Int), v10 = .int .i64 x10 ∧ v11 = .int .i64 x11 ∧ Aside0 (line_Regime.l1 kq t381 (wrap64 (Int.tdiv (wrap64 (t381 * t370)) t371)) x10 x11 t367 t370 t371 t372 t375 = some (r1, r2, r3)) ∧ Aside0 (kq ≤ k1) ∧ Aside0 (Below wm.heap.size wm w'))
       case atStart => exact ⟨x10, 0, (by first | rfl | (simp; done)), (by first | rfl | (simp; done)), HX, ⟨Nat.le_refl _⟩, HM⟩
       case round =>
        clear HX GL GA GC HM
        obtain ⟨x10, x11, rfl, rfl, HA, HK2, HM⟩ := hrel
        cases gk with
        | zero => exact absurd HA.out (by simp [line_Regime.l1])
        | succ k2 =>
         have H := HA.out
         clear HA
         simp only [line_Regime.l1] at H
         have hl_ := (HM.out.cell (p := ⟨gb379, 0, none⟩) SL.out).trans FL.out
         have ha_ := (HM.out.cell (p := ⟨w16.heap.size + 1, 0, none⟩) SA.out).trans FA.out
         have hc_ := (HM.out.cell (p := ⟨w16.heap.size, 0, none⟩) SC.out).trans FC.out
         have GL := Aside0.mk hl_
         have GA := Aside0.mk ha_
         have GC := Aside0.mk hc_
         clear hl_ ha_
         by_cases c22 : x11 < x10
         ·
          clear hc_
          rw [if_pos c22] at H
          have c22b0 : decide (x11 < x10) = true := decide_eq_true c22
          clear c22
          replace H := Option.bind_eq_some_iff.mp H
          obtain ⟨t383, A230, H⟩ := H
          have A23 := Aside0.mk A230
          clear A230
          by_cases c24 : t383 = true
          ·
           subst c24
           have HX := Aside0.mk (show line_Regime.l1 k2 t381 (wrap64 (Int.tdiv (wrap64 (t381 * t370)) t371)) (wrap64 (Int.tdiv (wrap64 (x11 + x10)) 2)) x11 t367 t370 t371 t372 t375 = some (r1, r2, r3) by rw [if_pos rfl] at H; exact H)
           clear H
           go_wp2_with (go_at_call 55; (with_reducible refine (line_Regime_1.calls k2 (wrap64 (Int.tdiv (wrap64 (x11 + x10)) 2)) Ao10 co10 t367 (wrap64 (Int.tdiv (wrap64 (t381 * t370)) t371)) t381 true _ ?s1 ?s2 A23.out gb379 (w16.heap.size + 1) w16.heap.size ?b1 ?b2 ?b3 ?c1 ?c2 ?c3).mono ?_); (case s1 => exact Kd.C_below FV.out HM.out); (case s2 => exact FN.out); (case b1 => exact Nat.lt_of_lt_of_le SL.out (below_size HM.out)); (case b2 => exact Nat.lt_of_lt_of_le SA.out (below_size HM.out)); (case b3 => exact Nat.lt_of_lt_of_le SC.out (below_size HM.out)); (case c1 => exact GL.out); (case c2 => exact GA.out); (case c3 => exact GC.out); rintro e w21 ⟨rfl, hb⟩; have n_ := Aside0.mk (below_step HM.out hb); clear HM hb; have HM := n_; clear n_)
           go_roundg k2
           case measure => have := HK2.out; omega
           case rel => exact ⟨(wrap64 (Int.tdiv (wrap64 (x11 + x10)) 2)), x11, (by first | rfl | (simp; done)), (by first | rfl | (simp; done)), HX, ⟨by have := HK2.out; omega⟩, HM⟩
          ·
           replace c24 := Bool.eq_false_iff.mpr c24
           subst c24
           have HX := Aside0.mk (show line_Regime.l1 k2 t381 (wrap64 (Int.tdiv (wrap64 (t381 * t370)) t371)) x10 (wrap64 ((wrap64 (Int.tdiv (wrap64 (x11 + x10)) 2)) + 1)) t367 t370 t371 t372 t375 = some (r1, r2, r3) by rw [if_neg (by decide)] at H; exact H)
           clear H
           go_wp2_with (go_at_call 55; (with_reducible refine (line_Regime_1.calls k2 (wrap64 (Int.tdiv (wrap64 (x11 + x10)) 2)) Ao10 co10 t367 (wrap64 (Int.tdiv (wrap64 (t381 * t370)) t371)) t381 false _ ?s1 ?s2 A23.out gb379 (w16.heap.size + 1) w16.heap.size ?b1 ?b2 ?b3 ?c1 ?c2 ?c3).mono ?_); (case s1 => exact Kd.C_below FV.out HM.out); (case s2 => exact FN.out); (case b1 => exact Nat.lt_of_lt_of_le SL.out (below_size HM.out)); (case b2 => exact Nat.lt_of_lt_of_le SA.out (below_size HM.out)); (case b3 => exact Nat.lt_of_lt_of_le SC.out (below_size HM.out)); (case c1 => exact GL.out); (case c2 => exact GA.out); (case c3 => exact GC.out); rintro e w21 ⟨rfl, hb⟩; have n_ := Aside0.mk (below_step HM.out hb); clear HM hb; have HM := n_; clear n_)
           go_roundg k2
           case measure => have := HK2.out; omega
           case rel => exact ⟨x10, (wrap64 ((wrap64 (Int.tdiv (wrap64 (x11 + x10)) 2)) + 1)), (by first | rfl | (simp; done)), (by first | rfl | (simp; done)), HX, ⟨by have := HK2.out; omega⟩, HM⟩
         ·
          rw [if_neg c22] at H
          have c22b0 : decide (x11 < x10) = false := decide_eq_false c22
          clear c22
          simp only [Option.some.injEq, Prod.mk.injEq] at H
          obtain ⟨rfl, rfl, rfl⟩ := H
          go_wp2
          go_ret3
          exact ⟨by first | rfl | (simp; done) | (simp [*]; done), below_step FB.out HM.out⟩
      ·
       replace c19 := Bool.eq_false_iff.mpr c19
       subst c19
       have HX := Aside0.mk (show line_Regime.l0 k1 t381 (wrap64 (Int.tdiv (wrap64 (t381 * t370)) t371)) (wrap64 (x10 * 2)) t367 t370 t371 t372 t375 = some (r1, r2, r3) by rw [if_neg (by decide)] at H; exact H)
       clear H
       go_wp2_with (go_at_call 55; (with_reducible refine (line_Regime_1.calls k1 x10 Ao10 co10 t367 (wrap64 (Int.tdiv (wrap64 (t381 * t370)) t371)) t381 false _ ?s1 ?s2 A18.out gb379 (w16.heap.size + 1) w16.heap.size ?b1 ?b2 ?b3 ?c1 ?c2 ?c3).mono ?_); (case s1 => exact Kd.C_below FV.out HM.out); (case s2 => exact FN.out); (case b1 => exact Nat.lt_of_lt_of_le SL.out (below_size HM.out)); (case b2 => exact Nat.lt_of_lt_of_le SA.out (below_size HM.out)); (case b3 => exact Nat.lt_of_lt_of_le SC.out (below_size HM.out)); (case c1 => exact GL.out); (case c2 => exact GA.out); (case c3 => exact GC.out); rintro e w21 ⟨rfl, hb⟩; have n_ := Aside0.mk (below_step HM.out hb); clear HM hb; have HM := n_; clear n_)
       go_roundg k1
       case measure => have := HK1.out; omega
       case rel => exact ⟨(wrap64 (x10 * 2)), (by first | rfl | (simp; done)), HX, ⟨by have := HK1.out; omega⟩, HM⟩
  ·
   replace c5 := Bool.eq_false_iff.mpr c5
   subst c5
   have H1 : (some (0, 0, 10)) = some (r1, r2, r3) := by rw [if_neg (show ¬ (false = true) by decide)] at H; exact H
   clear H
   have H := H1
   clear H1
   simp only [Option.some.injEq, Prod.mk.injEq] at H
   obtain ⟨rfl, rfl, rfl⟩ := H
   go_enter Try.func18, Try.ntmps18
   go_wp2_with (first | ((with_reducible refine gate_callee (f := 45) rfl ?_); refine goesL_ (some 15) rfl rfl Try.func45 (by kernel_rfl) rfl #[.slice A0 l0.length c0] rfl (by (try simp only [List.map_toArray, List.map_cons, List.map_nil]); first | done | rfl | (simp only [List.length_drop, List.length_take]; rfl)) ?_; (with_reducible refine (line_looked.calls k (fun k_ => k_ < w.heap.size) _ _ l0 t367 t370 t371 t372 t375 t378 _ ?side1 A2.out).mono ?_); (case side1 => exact Kd.V_mk HC0.out (Kd.F_below (Kd.C_F (Kd.heap_slice 3 (Kd.heap_int .i64)) HR0.out) (by repeat (first | (with_reducible first | exact HB.out | apply below_alloc | apply pw_below_drewN | apply below_drew1) | exact HB.out)))); rintro e w31 ⟨v368, v373, v376, rfl, ho0, ho1, ho2, hb⟩; refine ⟨_, rfl, ?_⟩; have n0_ := Aside0.mk (Kd.V_lower (Kd.V_mono (ok' := fun k_ => some k_ ≠ (v373 : Value).ownBlock ∧ some k_ ≠ (v376 : Value).ownBlock) ho0 (fun k_ hk_ => ⟨hk_.2.1, hk_.2.2⟩)) (below_size (by repeat (first | (with_reducible first | exact HB.out | apply below_alloc | apply pw_below_drewN | apply below_drew1) | exact HB.out)))); have n1_ := Aside0.mk (Kd.S_lower (Kd.S_mono (ok' := fun k_ => some k_ ≠ (v376 : Value).ownBlock) ho1 (fun _ hk_ => hk_.2)) (below_size (by repeat (first | (with_reducible first | exact HB.out | apply below_alloc | apply pw_below_drewN | apply below_drew1) | exact HB.out)))); have n2_ := Aside0.mk (Kd.S_lower (Kd.S_mono (ok' := fun k_ => some k_ ≠ (v373 : Value).ownBlock) ho2 (fun _ hk_ => hk_.2)) (below_size (by repeat (first | (with_reducible first | exact HB.out | apply below_alloc | apply pw_below_drewN | apply below_drew1) | exact HB.out)))); have n3_ := Aside0.mk (below_step (by repeat (first | (with_reducible first | exact HB.out | apply below_alloc | apply pw_below_drewN | apply below_drew1) | exact HB.out)) hb); clear HB; have HO369 := n0_; have HO374 := n1_; have HO377 := n2_; have HB := n3_; clear n0_ n1_ n2_ n3_; (try clear hb); (try clear hb2); (try clear hk); (try clear hi); (try clear ho0); (try clear ho1); (try clear ho2)) | ((with_reducible refine gate_dst (N := 5) rfl ?_); refine box_event ?hg (N := 5) ?hd (cs := #[.slice none 0 0, .int .i64 0, .int .i64 0, .slice none 0 0, .slice none 0 0]) (t := 58) ?hr ?_; (case hd => rfl); (case hg => rfl); (case hr => first | (go_simp; done) | (go_simp; rfl)); intro gb379 hg w32 hbox hb; have n0_ := Aside0.mk (Kd.V_below (Kd.V_elderB (by (with_reducible repeat (first | apply Kd.V_alloc | apply Kd.V_drewN | apply Kd.V_drew)); exact HO369.out) gb379 (Nat.le_of_eq hg.symm)) hb); have n1_ := Aside0.mk (Kd.S_below (by (with_reducible repeat (first | apply Kd.S_alloc | apply Kd.S_drewN | apply Kd.S_drew)); exact HO374.out) hb); have n2_ := Aside0.mk (Kd.S_below (by (with_reducible repeat (first | apply Kd.S_alloc | apply Kd.S_drewN | apply Kd.S_drew)); exact HO377.out) hb); have n3_ := Aside0.mk (below_step (by repeat (first | (with_reducible first | exact HB.out | apply below_alloc | apply pw_below_drewN | apply below_drew1) | exact HB.out)) hb); have n4_ := Aside0.mk (hbox); have n5_ := Aside0.mk ((by rw [hg]; exact (below_size (by repeat (first | (with_reducible first | exact HB.out | apply below_alloc | apply pw_below_drewN | apply below_drew1) | exact HB.out))) : w.heap.size ≤ gb379)); have n6_ := Aside0.mk ((by rw [hg]; exact (below_size (by repeat (first | (with_reducible first | exact HB.out | apply below_alloc | apply pw_below_drewN | apply below_drew1) | exact HB.out))) : w.heap.size ≤ gb379)); clear HO369; clear HO374; clear HO377; clear HB; have HO369 := n0_; have HO374 := n1_; have HO377 := n2_; have HB := n3_; have BK379 := n4_; have GW379 := n5_; have GE379 := n6_; clear n0_ n1_ n2_ n3_ n4_ n5_ n6_; clear hb hbox hg; obtain ⟨Ao33, co33, eo33⟩ := Kd.V_slice HO369.out; subst eo33; have hcz34_0 : w32.cell? ⟨gb379, 0, none⟩ = some (.slice none 0 0) := (blk_cell BK379.out 0).trans rfl; have hcz34_1 : w32.cell? ⟨gb379, 1, none⟩ = some (.int .i64 0) := (blk_cell BK379.out 1).trans rfl; have hcz34_2 : w32.cell? ⟨gb379, 2, none⟩ = some (.int .i64 0) := (blk_cell BK379.out 2).trans rfl; have hcz34_3 : w32.cell? ⟨gb379, 3, none⟩ = some (.slice none 0 0) := (blk_cell BK379.out 3).trans rfl; have hcz34_4 : w32.cell? ⟨gb379, 4, none⟩ = some (.slice none 0 0) := (blk_cell BK379.out 4).trans rfl; have hfz34_0 := blk_frozen BK379.out 0; have hfz34_1 := blk_frozen BK379.out 1; have hfz34_2 := blk_frozen BK379.out 2; have hfz34_3 := blk_frozen BK379.out 3; have hfz34_4 := blk_frozen BK379.out 4; obtain ⟨Ao35, co35, eo35⟩ := Kd.S_slice HO374.out; subst eo35; obtain ⟨Ao36, co36, eo36⟩ := Kd.S_slice HO377.out; subst eo36) | ((with_reducible refine gate_callee (f := 46) rfl ?_); refine goesL_ (some 25) rfl rfl Try.func46 (by kernel_rfl) rfl #[.slice Ao33 t367.length co33] rfl (by (try simp only [List.map_toArray, List.map_cons, List.map_nil]); first | done | rfl | (simp only [List.length_drop, List.length_take]; rfl)) ?_; (with_reducible refine (lgconnected.calls k _ _ t367 false _ ?side1 ?side2 A4.out).mono ?_); (case side1 => refine (Kd.V_reads' (e := 26) (base := w.heap.size) (ok := fun k_ => ((some k_ ≠ (.slice Ao35 t372.length co35 : Value).ownBlock ∧ some k_ ≠ (.slice Ao36 t375.length co36 : Value).ownBlock) ∧ k_ ≠ gb379)) (n := t367.length) (c := co33) ?_).2.2; exact (by (with_reducible repeat (first | apply Kd.V_alloc | apply Kd.V_drewN | apply Kd.V_drew)); exact (Kd.V_mono (Kd.V_far (p := ⟨gb379, 4, none⟩) (Kd.V_far (p := ⟨gb379, 3, none⟩) (Kd.V_far (p := ⟨gb379, 2, none⟩) (Kd.V_far (p := ⟨gb379, 1, none⟩) (Kd.V_far (p := ⟨gb379, 0, none⟩) (Kd.V_mono HO369.out (fun k_ hk => (⟨hk, hk.2⟩ : _ ∧ k_ ≠ gb379))) (fun _ hk => hk.2) (.slice Ao33 t367.length co33)) (fun _ hk => hk.2) (.int .i64 t370)) (fun _ hk => hk.2) (.int .i64 t371)) (fun _ hk => hk.2) (.slice Ao35 t372.length co35)) (fun _ hk => hk.2) (.slice Ao36 t375.length co36)) (fun _ h_ => h_.1)))); (case side2 => exact (Kd.V_reads' HO369.out).2.1); rintro e w37 ⟨rfl, hb⟩; refine ⟨_, rfl, ?_⟩; have n0_ := Aside0.mk (Kd.V_below (by (with_reducible repeat (first | apply Kd.V_alloc | apply Kd.V_drewN | apply Kd.V_drew)); exact (Kd.V_mono (Kd.V_far (p := ⟨gb379, 4, none⟩) (Kd.V_far (p := ⟨gb379, 3, none⟩) (Kd.V_far (p := ⟨gb379, 2, none⟩) (Kd.V_far (p := ⟨gb379, 1, none⟩) (Kd.V_far (p := ⟨gb379, 0, none⟩) (Kd.V_mono HO369.out (fun k_ hk => (⟨hk, hk.2⟩ : _ ∧ k_ ≠ gb379))) (fun _ hk => hk.2) (.slice Ao33 t367.length co33)) (fun _ hk => hk.2) (.int .i64 t370)) (fun _ hk => hk.2) (.int .i64 t371)) (fun _ hk => hk.2) (.slice Ao35 t372.length co35)) (fun _ hk => hk.2) (.slice Ao36 t375.length co36)) (fun _ h_ => h_.1))) hb); have n1_ := Aside0.mk (Kd.S_below (by (with_reducible repeat (first | apply Kd.S_alloc | apply Kd.S_drewN | apply Kd.S_drew)); exact (Kd.S_mono (Kd.S_far (p := ⟨gb379, 4, none⟩) (Kd.S_far (p := ⟨gb379, 3, none⟩) (Kd.S_far (p := ⟨gb379, 2, none⟩) (Kd.S_far (p := ⟨gb379, 1, none⟩) (Kd.S_far (p := ⟨gb379, 0, none⟩) (Kd.S_types HO374.out BK379.out (by decide)) (fun _ hk => hk.2) (.slice Ao33 t367.length co33)) (fun _ hk => hk.2) (.int .i64 t370)) (fun _ hk => hk.2) (.int .i64 t371)) (fun _ hk => hk.2) (.slice Ao35 t372.length co35)) (fun _ hk => hk.2) (.slice Ao36 t375.length co36)) (fun _ h_ => h_.1))) hb); have n2_ := Aside0.mk (Kd.S_below (by (with_reducible repeat (first | apply Kd.S_alloc | apply Kd.S_drewN | apply Kd.S_drew)); exact (Kd.S_mono (Kd.S_far (p := ⟨gb379, 4, none⟩) (Kd.S_far (p := ⟨gb379, 3, none⟩) (Kd.S_far (p := ⟨gb379, 2, none⟩) (Kd.S_far (p := ⟨gb379, 1, none⟩) (Kd.S_far (p := ⟨gb379, 0, none⟩) (Kd.S_types HO377.out BK379.out (by decide)) (fun _ hk => hk.2) (.slice Ao33 t367.length co33)) (fun _ hk => hk.2) (.int .i64 t370)) (fun _ hk => hk.2) (.int .i64 t371)) (fun _ hk => hk.2) (.slice Ao35 t372.length co35)) (fun _ hk => hk.2) (.slice Ao36 t375.length co36)) (fun _ h_ => h_.1))) hb); have n3_ := Aside0.mk (blk_below (g := gb379) (o := .cells #[.slice Ao33 t367.length co33, .int .i64 t370, .int .i64 t371, .slice Ao35 t372.length co35, .slice Ao36 t375.length co36] 58 (0, 0)) (by (with_reducible repeat (first | refine blk_drewN ?_ _ | refine blk_drew ?_ | refine blk_alloc ?_ _)); refine blk_put (cs := #[.slice Ao33 t367.length co33, .int .i64 t370, .int .i64 t371, .slice Ao35 t372.length co35, .slice none 0 0]) ?_ 4 _ rfl; (with_reducible repeat (first | refine blk_drewN ?_ _ | refine blk_drew ?_ | refine blk_alloc ?_ _)); refine blk_put (cs := #[.slice Ao33 t367.length co33, .int .i64 t370, .int .i64 t371, .slice none 0 0, .slice none 0 0]) ?_ 3 _ rfl; (with_reducible repeat (first | refine blk_drewN ?_ _ | refine blk_drew ?_ | refine blk_alloc ?_ _)); refine blk_put (cs := #[.slice Ao33 t367.length co33, .int .i64 t370, .int .i64 0, .slice none 0 0, .slice none 0 0]) ?_ 2 _ rfl; (with_reducible repeat (first | refine blk_drewN ?_ _ | refine blk_drew ?_ | refine blk_alloc ?_ _)); refine blk_put (cs := #[.slice Ao33 t367.length co33, .int .i64 0, .int .i64 0, .slice none 0 0, .slice none 0 0]) ?_ 1 _ rfl; (with_reducible repeat (first | refine blk_drewN ?_ _ | refine blk_drew ?_ | refine blk_alloc ?_ _)); refine blk_put (cs := #[.slice none 0 0, .int .i64 0, .int .i64 0, .slice none 0 0, .slice none 0 0]) ?_ 0 _ rfl; (with_reducible repeat (first | refine blk_drewN ?_ _ | refine blk_drew ?_ | refine blk_alloc ?_ _)); exact BK379.out) hb); have n4_ := Aside0.mk (below_step (by repeat (first | (with_reducible first | exact HB.out | apply below_alloc | apply pw_below_drewN | apply below_drew1 | refine below_set ?_ GE379.out) | exact HB.out)) hb); clear HO369; clear HO374; clear HO377; clear BK379; clear HB; have HO369 := n0_; have HO374 := n1_; have HO377 := n2_; have BK379 := n3_; have HB := n4_; clear n0_ n1_ n2_ n3_ n4_; (try clear hb); (try clear hb2); (try clear hk); (try clear hi)))
   go_ret3
   exact ⟨by first | rfl | (simp [errW_none, errW_some] <;> rfl) | (simp [*, errW_none, errW_some] <;> rfl), by repeat (first | (with_reducible first | exact HB.out | apply below_alloc | apply pw_below_drewN | apply below_drew1 | refine below_set ?_ GE379.out) | exact HB.out)⟩
 ·
  rw [if_neg c3] at H
  have c3b0 : (t378 == 0) = false := beq_eq_false_iff_ne.mpr c3
  have c3b1 : (t378 != 0) = true := bne_iff_ne.mpr c3
  simp only [Option.some.injEq, Prod.mk.injEq] at H
  obtain ⟨rfl, rfl, rfl⟩ := H
  go_enter Try.func18, Try.ntmps18
  go_wp2_with (first | ((with_reducible refine gate_callee (f := 45) rfl ?_); refine goesL_ (some 15) rfl rfl Try.func45 (by kernel_rfl) rfl #[.slice A0 l0.length c0] rfl (by (try simp only [List.map_toArray, List.map_cons, List.map_nil]); first | done | rfl | (simp only [List.length_drop, List.length_take]; rfl)) ?_; (with_reducible refine (line_looked.calls k (fun k_ => k_ < w.heap.size) _ _ l0 t367 t370 t371 t372 t375 t378 _ ?side1 A2.out).mono ?_); (case side1 => exact Kd.V_mk HC0.out (Kd.F_below (Kd.C_F (Kd.heap_slice 3 (Kd.heap_int .i64)) HR0.out) (by repeat (first | (with_reducible first | exact HB.out | apply below_alloc | apply pw_below_drewN | apply below_drew1) | exact HB.out)))); rintro e w38 ⟨v368, v373, v376, rfl, ho0, ho1, ho2, hb⟩; refine ⟨_, rfl, ?_⟩; have n0_ := Aside0.mk (Kd.V_lower (Kd.V_mono (ok' := fun k_ => some k_ ≠ (v373 : Value).ownBlock ∧ some k_ ≠ (v376 : Value).ownBlock) ho0 (fun k_ hk_ => ⟨hk_.2.1, hk_.2.2⟩)) (below_size (by repeat (first | (with_reducible first | exact HB.out | apply below_alloc | apply pw_below_drewN | apply below_drew1) | exact HB.out)))); have n1_ := Aside0.mk (Kd.S_lower (Kd.S_mono (ok' := fun k_ => some k_ ≠ (v376 : Value).ownBlock) ho1 (fun _ hk_ => hk_.2)) (below_size (by repeat (first | (with_reducible first | exact HB.out | apply below_alloc | apply pw_below_drewN | apply below_drew1) | exact HB.out)))); have n2_ := Aside0.mk (Kd.S_lower (Kd.S_mono (ok' := fun k_ => some k_ ≠ (v373 : Value).ownBlock) ho2 (fun _ hk_ => hk_.2)) (below_size (by repeat (first | (with_reducible first | exact HB.out | apply below_alloc | apply pw_below_drewN | apply below_drew1) | exact HB.out)))); have n3_ := Aside0.mk (below_step (by repeat (first | (with_reducible first | exact HB.out | apply below_alloc | apply pw_below_drewN | apply below_drew1) | exact HB.out)) hb); clear HB; have HO369 := n0_; have HO374 := n1_; have HO377 := n2_; have HB := n3_; clear n0_ n1_ n2_ n3_; (try clear hb); (try clear hb2); (try clear hk); (try clear hi); (try clear ho0); (try clear ho1); (try clear ho2)) | ((with_reducible refine gate_dst (N := 5) rfl ?_); refine box_event ?hg (N := 5) ?hd (cs := #[.slice none 0 0, .int .i64 0, .int .i64 0, .slice none 0 0, .slice none 0 0]) (t := 58) ?hr ?_; (case hd => rfl); (case hg => rfl); (case hr => first | (go_simp; done) | (go_simp; rfl)); intro gb379 hg w39 hbox hb; have n0_ := Aside0.mk (Kd.V_below (Kd.V_elderB (by (with_reducible repeat (first | apply Kd.V_alloc | apply Kd.V_drewN | apply Kd.V_drew)); exact HO369.out) gb379 (Nat.le_of_eq hg.symm)) hb); have n1_ := Aside0.mk (Kd.S_below (by (with_reducible repeat (first | apply Kd.S_alloc | apply Kd.S_drewN | apply Kd.S_drew)); exact HO374.out) hb); have n2_ := Aside0.mk (Kd.S_below (by (with_reducible repeat (first | apply Kd.S_alloc | apply Kd.S_drewN | apply Kd.S_drew)); exact HO377.out) hb); have n3_ := Aside0.mk (below_step (by repeat (first | (with_reducible first | exact HB.out | apply below_alloc | apply pw_below_drewN | apply below_drew1) | exact HB.out)) hb); have n4_ := Aside0.mk (hbox); have n5_ := Aside0.mk ((by rw [hg]; exact (below_size (by repeat (first | (with_reducible first | exact HB.out | apply below_alloc | apply pw_below_drewN | apply below_drew1) | exact HB.out))) : w.heap.size ≤ gb379)); have n6_ := Aside0.mk ((by rw [hg]; exact (below_size (by repeat (first | (with_reducible first | exact HB.out | apply below_alloc | apply pw_below_drewN | apply below_drew1) | exact HB.out))) : w.heap.size ≤ gb379)); clear HO369; clear HO374; clear HO377; clear HB; have HO369 := n0_; have HO374 := n1_; have HO377 := n2_; have HB := n3_; have BK379 := n4_; have GW379 := n5_; have GE379 := n6_; clear n0_ n1_ n2_ n3_ n4_ n5_ n6_; clear hb hbox hg; obtain ⟨Ao40, co40, eo40⟩ := Kd.V_slice HO369.out; subst eo40; have hcz41_0 : w39.cell? ⟨gb379, 0, none⟩ = some (.slice none 0 0) := (blk_cell BK379.out 0).trans rfl; have hcz41_1 : w39.cell? ⟨gb379, 1, none⟩ = some (.int .i64 0) := (blk_cell BK379.out 1).trans rfl; have hcz41_2 : w39.cell? ⟨gb379, 2, none⟩ = some (.int .i64 0) := (blk_cell BK379.out 2).trans rfl; have hcz41_3 : w39.cell? ⟨gb379, 3, none⟩ = some (.slice none 0 0) := (blk_cell BK379.out 3).trans rfl; have hcz41_4 : w39.cell? ⟨gb379, 4, none⟩ = some (.slice none 0 0) := (blk_cell BK379.out 4).trans rfl; have hfz41_0 := blk_frozen BK379.out 0; have hfz41_1 := blk_frozen BK379.out 1; have hfz41_2 := blk_frozen BK379.out 2; have hfz41_3 := blk_frozen BK379.out 3; have hfz41_4 := blk_frozen BK379.out 4; obtain ⟨Ao42, co42, eo42⟩ := Kd.S_slice HO374.out; subst eo42; obtain ⟨Ao43, co43, eo43⟩ := Kd.S_slice HO377.out; subst eo43))
  go_ret3
  exact ⟨by first | rfl | (simp [errW_none, errW_some] <;> rfl) | (simp [*, errW_none, errW_some] <;> rfl), by repeat (first | (with_reducible first | exact HB.out | apply below_alloc | apply pw_below_drewN | apply below_drew1 | refine below_set ?_ GE379.out) | exact HB.out)⟩

section
attribute [local go_sem high] eqA37
def l5alive.f (k : Nat)  : Option (Bool) := (some (([(([3, 7] : List Int)), (([2, 4] : List Int))] : List (List Int)) : List (List Int))).bind fun y399 => ((line_Speed.f k y399).bind fun bt402 => ((line_Eigen.f k y399).bind fun bt406 => ((line_Regime.f k y399).bind fun bt410 => (if bt402.2.2 = 0 then (if (bt402.1 == 9 && (bt402.2.1 == 2)) = true then (if bt406.2 = 0 then ((l5same.f k bt406.1 (([5, 0] : List Int))).bind fun t416 => (if t416 = true then (if bt410.2.2 = 0 then (some (bt410.1 == 2)) else (some false)) else (some false))) else (some false)) else (some false)) else (some false)))))
theorem l5alive.mono : ∀ k, LeO (l5alive.f k ) (l5alive.f (k + 1) ) := by
 intro  k
 unfold l5alive.f
 repeat' first
   | (with_reducible exact LeO.refl _)
   | (with_reducible exact LeO.none _)
   | (with_reducible refine LeO.ite ?_ ?_)
   | (with_reducible refine LeO.bind ?_ (fun _ => ?_))
   | exact line_Eigen.mono _ _
   | exact line_Regime.mono _ _
   | exact line_Speed.mono _ _
   | exact l5same.mono _ _ _
   | exact LeO.none _
   | refine LeO.ite ?_ ?_
   | refine LeO.bind ?_ (fun _ => ?_)
set_option maxHeartbeats 8000000 in
set_option maxRecDepth 100000 in
theorem l5alive.callsT (k : Nat)  (r : Bool) (w : World) (h : l5alive.f k  = some r) (hr_ : Aside0 (r = true)) :
  Calls Try.prog 13 #[] w fun e w' => e = .returned (.bool r) ∧ Below w.heap.size w w' := by
 have hu37 := Try.underlying37
 have HB := Aside0.mk (Below.refl w.heap.size w)
 have H : ((some (([(([3, 7] : List Int)), (([2, 4] : List Int))] : List (List Int)) : List (List Int))).bind fun y399 => ((line_Speed.f k y399).bind fun bt402 => ((line_Eigen.f k y399).bind fun bt406 => ((line_Regime.f k y399).bind fun bt410 => (if bt402.2.2 = 0 then (if (bt402.1 == 9 && (bt402.2.1 == 2)) = true then (if bt406.2 = 0 then ((l5same.f k bt406.1 (([5, 0] : List Int))).bind fun t416 => (if t416 = true then (if bt410.2.2 = 0 then (some (bt410.1 == 2)) else (some false)) else (some false))) else (some false)) else (some false)) else (some false)))))) = some r := h
 clear h
 obtain ⟨y393, hy393⟩ : ∃ y_ : List Int, y_ = (([3, 7] : List Int)) := ⟨_, rfl⟩
 replace H : ((some (([y393, (([2, 4] : List Int))] : List (List Int)) : List (List Int))).bind fun y399 => ((line_Speed.f k y399).bind fun bt402 => ((line_Eigen.f k y399).bind fun bt406 => ((line_Regime.f k y399).bind fun bt410 => (if bt402.2.2 = 0 then (if (bt402.1 == 9 && (bt402.2.1 == 2)) = true then (if bt406.2 = 0 then ((l5same.f k bt406.1 (([5, 0] : List Int))).bind fun t416 => (if t416 = true then (if bt410.2.2 = 0 then (some (bt410.1 == 2)) else (some false)) else (some false))) else (some false)) else (some false)) else (some false)))))) = some r := by rw [hy393]; exact H
 have Ny393 := Aside0.mk hy393
 clear hy393
 obtain ⟨y396, hy396⟩ : ∃ y_ : List Int, y_ = (([2, 4] : List Int)) := ⟨_, rfl⟩
 replace H : ((some (([y393, y396] : List (List Int)) : List (List Int))).bind fun y399 => ((line_Speed.f k y399).bind fun bt402 => ((line_Eigen.f k y399).bind fun bt406 => ((line_Regime.f k y399).bind fun bt410 => (if bt402.2.2 = 0 then (if (bt402.1 == 9 && (bt402.2.1 == 2)) = true then (if bt406.2 = 0 then ((l5same.f k bt406.1 (([5, 0] : List Int))).bind fun t416 => (if t416 = true then (if bt410.2.2 = 0 then (some (bt410.1 == 2)) else (some false)) else (some false))) else (some false)) else (some false)) else (some false)))))) = some r := by rw [hy396]; exact H
 have Ny396 := Aside0.mk hy396
 clear hy396
 obtain ⟨y399, hy399⟩ : ∃ y_ : List (List Int), y_ = (([y393, y396] : List (List Int))) := ⟨_, rfl⟩
 replace H : ((line_Speed.f k y399).bind fun bt402 => ((line_Eigen.f k y399).bind fun bt406 => ((line_Regime.f k y399).bind fun bt410 => (if bt402.2.2 = 0 then (if (bt402.1 == 9 && (bt402.2.1 == 2)) = true then (if bt406.2 = 0 then ((l5same.f k bt406.1 (([5, 0] : List Int))).bind fun t416 => (if t416 = true then (if bt410.2.2 = 0 then (some (bt410.1 == 2)) else (some false)) else (some false))) else (some false)) else (some false)) else (some false))))) = some r := by rw [hy399]; exact H
 have Ny399 := Aside0.mk hy399
 clear hy399
 replace H := Option.bind_eq_some_iff.mp H
 obtain ⟨⟨t402, t403, t404⟩, A10, H⟩ := H
 replace H : ((line_Eigen.f k y399).bind fun bt406 => ((line_Regime.f k y399).bind fun bt410 => (if t404 = 0 then (if (t402 == 9 && (t403 == 2)) = true then (if bt406.2 = 0 then ((l5same.f k bt406.1 (([5, 0] : List Int))).bind fun t416 => (if t416 = true then (if bt410.2.2 = 0 then (some (bt410.1 == 2)) else (some false)) else (some false))) else (some false)) else (some false)) else (some false)))) = some r := H
 have A1 := Aside0.mk A10
 clear A10
 replace H := Option.bind_eq_some_iff.mp H
 obtain ⟨⟨t406, t407⟩, A20, H⟩ := H
 replace H : ((line_Regime.f k y399).bind fun bt410 => (if t404 = 0 then (if (t402 == 9 && (t403 == 2)) = true then (if t407 = 0 then ((l5same.f k t406 (([5, 0] : List Int))).bind fun t416 => (if t416 = true then (if bt410.2.2 = 0 then (some (bt410.1 == 2)) else (some false)) else (some false))) else (some false)) else (some false)) else (some false))) = some r := H
 have A2 := Aside0.mk A20
 clear A20
 replace H := Option.bind_eq_some_iff.mp H
 obtain ⟨⟨t410, t411, t412⟩, A30, H⟩ := H
 replace H : (if t404 = 0 then (if (t402 == 9 && (t403 == 2)) = true then (if t407 = 0 then ((l5same.f k t406 (([5, 0] : List Int))).bind fun t416 => (if t416 = true then (if t412 = 0 then (some (t410 == 2)) else (some false)) else (some false))) else (some false)) else (some false)) else (some false)) = some r := H
 have A3 := Aside0.mk A30
 clear A30
 by_cases c4 : t404 = 0
 ·
  rw [if_pos c4] at H
  have c4b0 : (t404 == 0) = true := beq_iff_eq.mpr c4
  clear c4
  by_cases c5 : (t402 == 9 && (t403 == 2)) = true
  ·
   rw [if_pos c5] at H
   have c5b0 : (t402 == 9 && (t403 == 2)) = true := c5
   (try (have c5b1 : decide (t402 = 9 && (t403 == 2)) = true := by simpa using c5))
   (try (have c5b2 : (t402 == 9 && (t403 == 2)) = true := by simpa using c5))
   clear c5
   by_cases c6 : t407 = 0
   ·
    rw [if_pos c6] at H
    have c6b0 : (t407 == 0) = true := beq_iff_eq.mpr c6
    clear c6
    obtain ⟨y413, hy413⟩ : ∃ y_ : List Int, y_ = (([5, 0] : List Int)) := ⟨_, rfl⟩
    replace H : ((l5same.f k t406 y413).bind fun t416 => (if t416 = true then (if t412 = 0 then (some (t410 == 2)) else (some false)) else (some false))) = some r := by first | (rw [hy413]; with_reducible exact H) | (have H2_ := (Option.bind_some _ _).symm.trans H; rw [hy413]; with_reducible exact H2_) | (have H2_ := (Option.bind_some _ _).symm.trans H; with_reducible exact H2_) | with_reducible exact H | (rw [hy413]; exact H) | exact H
    have Ny413 := Aside0.mk hy413
    clear hy413
    replace H := Option.bind_eq_some_iff.mp H
    obtain ⟨t416, A70, H⟩ := H
    replace H : (if t416 = true then (if t412 = 0 then (some (t410 == 2)) else (some false)) else (some false)) = some r := H
    have A7 := Aside0.mk A70
    clear A70
    by_cases c8 : t416 = true
    ·
     subst c8
     have H1 : (if t412 = 0 then (some (t410 == 2)) else (some false)) = some r := by rw [if_pos rfl] at H; exact H
     clear H
     have H := H1
     clear H1
     by_cases c9 : t412 = 0
     ·
      rw [if_pos c9] at H
      have c9b0 : (t412 == 0) = true := beq_iff_eq.mpr c9
      have c9b1 : (t412 != 0) = false := bne_eq_false_iff_eq.mpr c9
      clear c9
      obtain rfl := Option.some.inj H
      go_enter Try.func13, Try.ntmps13
      go_wp2_with (first | ((with_reducible refine gate_dst (N := 9) rfl ?_); (try (refine gate_guard (by rfl) ?_; dsimp only)); refine Kd.R_lit (Kd.int .i64) _ 3 ?hg (N := 9) ?hd (xs := ([3, 7] : List Int)) (inner := [.int .i64 3, .int .i64 7]) (ok := fun _ => True) (okp := fun _ => True) ?hr ?hp (fun _ hk => hk) trivial (Below.refl _ _) (Nat.le_refl _) (by simp) ?_; (case hd => rfl); (case hg => rfl); (case hr => first | (go_simp; done) | (go_simp; rfl)); (case hp => exact (Reps.one (show Kd.M (Kd.int .i64) _ _ _ 3 [.int .i64 3] from rfl) (Reps.one (show Kd.M (Kd.int .i64) _ _ _ 7 [.int .i64 7] from rfl) (Reps.none _ _)))); intro v394 w10 ho11 hb hg_ hnew_; clear hg_ hnew_; (first | rw [← Ny393.out] at ho11 | (simp only [Int.reduceToNat] at ho11; rw [← Ny393.out] at ho11)); have n0_ := Aside0.mk (Kd.R_lower ho11 (below_size (by repeat (first | (with_reducible first | exact HB.out | apply below_alloc | apply pw_below_drewN | apply below_drew1) | exact HB.out)))); have n1_ := Aside0.mk (below_step (by repeat (first | (with_reducible first | exact HB.out | apply below_alloc | apply pw_below_drewN | apply below_drew1) | exact HB.out)) hb); clear HB; have HO395 := n0_; have HB := n1_; clear n0_ n1_; clear hb ho11) | ((with_reducible refine gate_dst (N := 10) rfl ?_); (try (refine gate_guard (by rfl) ?_; dsimp only)); refine Kd.R_lit (Kd.int .i64) _ 3 ?hg (N := 10) ?hd (xs := ([2, 4] : List Int)) (inner := [.int .i64 2, .int .i64 4]) (ok := fun _ => True) (okp := fun _ => True) ?hr ?hp (fun _ hk => hk) trivial (Below.refl _ _) (Nat.le_refl _) (by simp) ?_; (case hd => rfl); (case hg => rfl); (case hr => first | (go_simp; done) | (go_simp; rfl)); (case hp => exact (Reps.one (show Kd.M (Kd.int .i64) _ _ _ 2 [.int .i64 2] from rfl) (Reps.one (show Kd.M (Kd.int .i64) _ _ _ 4 [.int .i64 4] from rfl) (Reps.none _ _)))); intro v397 w12 ho13 hb hg_ hnew_; clear hg_ hnew_; (first | rw [← Ny396.out] at ho13 | (simp only [Int.reduceToNat] at ho13; rw [← Ny396.out] at ho13)); have n0_ := Aside0.mk (Kd.R_elder' (by (with_reducible repeat (first | apply Kd.R_alloc | apply Kd.R_drewN | apply Kd.R_drew)); exact HO395.out) (Kd.R_base ho13) hb); have n1_ := Aside0.mk (Kd.R_lower (Kd.R_new' ho13 (Kd.R_lt (by (with_reducible repeat (first | apply Kd.R_alloc | apply Kd.R_drewN | apply Kd.R_drew)); exact HO395.out))) (below_size (by repeat (first | (with_reducible first | exact HB.out | apply below_alloc | apply pw_below_drewN | apply below_drew1) | exact HB.out)))); have n2_ := Aside0.mk (below_step (by repeat (first | (with_reducible first | exact HB.out | apply below_alloc | apply pw_below_drewN | apply below_drew1) | exact HB.out)) hb); clear HO395; clear HB; have HO395 := n0_; have HO398 := n1_; have HB := n2_; clear n0_ n1_ n2_; clear hb ho13; obtain ⟨Ao14, co14, eo14⟩ := Kd.R_slice HO395.out; subst eo14; obtain ⟨Ao15, co15, eo15⟩ := Kd.R_slice HO398.out; subst eo15) | ((with_reducible refine gate_dst (N := 11) rfl ?_); (try (refine gate_guard (by rfl) ?_; dsimp only)); refine Kd.N_lit (Kd.slice 3 (Kd.int .i64)) _ 26 ?hg (N' := 11) ?hd (xs := ([y393, y396] : List (List Int))) (inner := [.slice Ao14 y393.length co14, .slice Ao15 y396.length co15]) (ok := (fun _ => True)) (okp := (fun _ => True)) ?hr ?hp (fun _ hk => hk) ((show ∀ k_, w12.heap.size ≤ k_ → (fun _ => True) k_ from fun k_ hk => trivial) _ (Nat.le_refl _)) (Below.refl _ _) (Nat.le_refl _) (by simp) ?_; (case hd => rfl); (case hg => rfl); (case hr => first | (go_simp; done) | (go_simp; rfl)); (case hp => exact (Reps.one (show Kd.FK (Kd.slice 3 (Kd.int .i64)) _ _ y393 [.slice Ao14 y393.length co14] from (Kd.FK_slice_mk (Kd.R_reads' (Kd.R_mono (ok' := (fun _ => True)) (HO395.out) (fun k_ hk => trivial))).2.1 (Kd.R_F (Kd.R_mono (ok' := (fun _ => True)) (HO395.out) (fun k_ hk => trivial))))) (Reps.one (show Kd.FK (Kd.slice 3 (Kd.int .i64)) _ _ y396 [.slice Ao15 y396.length co15] from (Kd.FK_slice_mk (Kd.R_reads' (Kd.R_mono (ok' := (fun _ => True)) (HO398.out) (fun k_ hk => trivial))).2.1 (Kd.R_F (Kd.R_mono (ok' := (fun _ => True)) (HO398.out) (fun k_ hk => trivial))))) (Reps.none _ _)))); intro v400 w16 ho17 hb hg_ hnew_; clear hg_ hnew_; (first | rw [← Ny399.out] at ho17 | (simp only [Int.reduceToNat] at ho17; rw [← Ny399.out] at ho17)); have n0_ := Aside0.mk (Kd.N_lower ho17 (below_size (by repeat (first | (with_reducible first | exact HB.out | apply below_alloc | apply pw_below_drewN | apply below_drew1) | exact HB.out)))); have n1_ := Aside0.mk (below_step (by repeat (first | (with_reducible first | exact HB.out | apply below_alloc | apply pw_below_drewN | apply below_drew1) | exact HB.out)) hb); clear HB; clear HO395; clear HO398; have HO401 := n0_; have HB := n1_; clear n0_ n1_; clear hb ho17; obtain ⟨Ao18, co18, eo18⟩ := Kd.N_slice HO401.out; subst eo18) | ((with_reducible refine gate_callee (f := 22) rfl ?_); refine goesL_ (some 14) rfl rfl Try.func22 (by kernel_rfl) rfl #[.slice Ao18 y399.length co18] rfl (by (try simp only [List.map_toArray, List.map_cons, List.map_nil]); first | done | rfl | (simp only [List.length_drop, List.length_take]; rfl)) ?_; (with_reducible refine (line_Speed.calls k _ _ y399 t402 t403 t404 _ ?side1 ?side2 A1.out).mono ?_); (case side1 => repeat (first | exact (Kd.N_reads' HO401.out).2.2 | (with_reducible refine Kd.C_alloc ?_ _) | (with_reducible refine Kd.C_drewN ?_ _) | (with_reducible refine Kd.C_drew ?_))); (case side2 => exact (Kd.N_reads' HO401.out).2.1); rintro e w19 ⟨rfl, hb⟩; refine ⟨_, rfl, ?_⟩; have n0_ := Aside0.mk (Kd.N_below (by (with_reducible repeat (first | apply Kd.N_alloc | apply Kd.N_drewN | apply Kd.N_drew)); exact HO401.out) hb); have n1_ := Aside0.mk (below_step (by repeat (first | (with_reducible first | exact HB.out | apply below_alloc | apply pw_below_drewN | apply below_drew1) | exact HB.out)) hb); clear HO401; clear HB; have HO401 := n0_; have HB := n1_; clear n0_ n1_; (try clear hb); (try clear hb2); (try clear hk); (try clear hi)) | ((with_reducible refine gate_dst (N := 2) rfl ?_); (try (refine gate_guard (by rfl) ?_; dsimp only)); refine box_event ?hg (N := 2) ?hd (cs := #[.int .i64 0, .int .i64 0]) (t := 37) ?hr ?_; (case hd => rfl); (case hg => rfl); (case hr => first | (go_simp; done) | (go_simp; rfl)); intro gb405 hg w20 hbox hb; have n0_ := Aside0.mk (Kd.N_below (Kd.N_elderB (by (with_reducible repeat (first | apply Kd.N_alloc | apply Kd.N_drewN | apply Kd.N_drew)); exact HO401.out) gb405 (Nat.le_of_eq hg.symm)) hb); have n1_ := Aside0.mk (below_step (by repeat (first | (with_reducible first | exact HB.out | apply below_alloc | apply pw_below_drewN | apply below_drew1) | exact HB.out)) hb); have n2_ := Aside0.mk (hbox); have n3_ := Aside0.mk ((by rw [hg]; exact (below_size (by repeat (first | (with_reducible first | exact HB.out | apply below_alloc | apply pw_below_drewN | apply below_drew1) | exact HB.out))) : w.heap.size ≤ gb405)); have n4_ := Aside0.mk ((by rw [hg]; exact (below_size (by repeat (first | (with_reducible first | exact HB.out | apply below_alloc | apply pw_below_drewN | apply below_drew1) | exact HB.out))) : w.heap.size ≤ gb405)); clear HO401; clear HB; have HO401 := n0_; have HB := n1_; have BK405 := n2_; have GW405 := n3_; have GE405 := n4_; clear n0_ n1_ n2_ n3_ n4_; clear hb hbox hg; have hcz21_0 : w20.cell? ⟨gb405, 0, none⟩ = some (.int .i64 0) := (blk_cell BK405.out 0).trans rfl; have hcz21_1 : w20.cell? ⟨gb405, 1, none⟩ = some (.int .i64 0) := (blk_cell BK405.out 1).trans rfl; have hfz21_0 := blk_frozen BK405.out 0; have hfz21_1 := blk_frozen BK405.out 1) | ((with_reducible refine gate_callee (f := 15) rfl ?_); refine goesL_ (some 19) rfl rfl Try.func15 (by kernel_rfl) rfl #[.slice Ao18 y399.length co18] rfl (by (try simp only [List.map_toArray, List.map_cons, List.map_nil]); first | done | rfl | (simp only [List.length_drop, List.length_take]; rfl)) ?_; (with_reducible refine (line_Eigen.calls k _ _ y399 t406 t407 _ ?side1 ?side2 A2.out).mono ?_); (case side1 => refine (Kd.N_reads' (e := 26) (base := w.heap.size) (ok := fun k_ => (True ∧ k_ ≠ gb405)) (n := y399.length) (c := co18) ?_).2.2; exact (by (with_reducible repeat (first | apply Kd.N_alloc | apply Kd.N_drewN | apply Kd.N_drew)); exact (Kd.N_mono (Kd.N_far (p := ⟨gb405, 1, none⟩) (Kd.N_far (p := ⟨gb405, 0, none⟩) (Kd.N_mono HO401.out (fun k_ hk => (⟨hk, hk.2⟩ : _ ∧ k_ ≠ gb405))) (fun _ hk => hk.2) (.int .i64 t402)) (fun _ hk => hk.2) (.int .i64 t403)) (fun _ h_ => h_.1)))); (case side2 => exact (Kd.N_reads' HO401.out).2.1); rintro e w22 ⟨v408, rfl, ho0, hb⟩; refine ⟨_, rfl, ?_⟩; have n0_ := Aside0.mk (Kd.N_elder' (by (with_reducible repeat (first | apply Kd.N_alloc | apply Kd.N_drewN | apply Kd.N_drew)); exact (Kd.N_mono (Kd.N_far (p := ⟨gb405, 1, none⟩) (Kd.N_far (p := ⟨gb405, 0, none⟩) (Kd.N_mono HO401.out (fun k_ hk => (⟨hk, hk.2⟩ : _ ∧ k_ ≠ gb405))) (fun _ hk => hk.2) (.int .i64 t402)) (fun _ hk => hk.2) (.int .i64 t403)) (fun _ h_ => h_.1))) (Kd.R_base ho0) hb); have n1_ := Aside0.mk (Kd.R_lower ho0 (below_size (by repeat (first | (with_reducible first | exact HB.out | apply below_alloc | apply pw_below_drewN | apply below_drew1 | refine below_set ?_ GE405.out) | exact HB.out)))); have n2_ := Aside0.mk (blk_below (g := gb405) (o := .cells #[.int .i64 t402, .int .i64 t403] 37 (0, 0)) (by (with_reducible repeat (first | refine blk_drewN ?_ _ | refine blk_drew ?_ | refine blk_alloc ?_ _)); refine blk_put (cs := #[.int .i64 t402, .int .i64 0]) ?_ 1 _ rfl; (with_reducible repeat (first | refine blk_drewN ?_ _ | refine blk_drew ?_ | refine blk_alloc ?_ _)); refine blk_put (cs := #[.int .i64 0, .int .i64 0]) ?_ 0 _ rfl; (with_reducible repeat (first | refine blk_drewN ?_ _ | refine blk_drew ?_ | refine blk_alloc ?_ _)); exact BK405.out) hb); have n3_ := Aside0.mk (below_step (by repeat (first | (with_reducible first | exact HB.out | apply below_alloc | apply pw_below_drewN | apply below_drew1 | refine below_set ?_ GE405.out) | exact HB.out)) hb); clear HO401; clear BK405; clear HB; have HO401 := n0_; have HO409 := n1_; have BK405 := n2_; have HB := n3_; clear n0_ n1_ n2_ n3_; (try clear hb); (try clear hb2); (try clear hk); (try clear hi); (try clear ho0)) | ((with_reducible refine gate_callee (f := 18) rfl ?_); refine goesL_ (some 24) rfl rfl Try.func18 (by kernel_rfl) rfl #[.slice Ao18 y399.length co18] rfl (by (try simp only [List.map_toArray, List.map_cons, List.map_nil]); first | done | rfl | (simp only [List.length_drop, List.length_take]; rfl)) ?_; (with_reducible refine (line_Regime.calls k _ _ y399 t410 t411 t412 _ ?side1 ?side2 A3.out).mono ?_); (case side1 => repeat (first | exact (Kd.N_reads' HO401.out).2.2 | (with_reducible refine Kd.C_alloc ?_ _) | (with_reducible refine Kd.C_drewN ?_ _) | (with_reducible refine Kd.C_drew ?_))); (case side2 => exact (Kd.N_reads' HO401.out).2.1); rintro e w23 ⟨rfl, hb⟩; refine ⟨_, rfl, ?_⟩; have n0_ := Aside0.mk (Kd.N_below (by (with_reducible repeat (first | apply Kd.N_alloc | apply Kd.N_drewN | apply Kd.N_drew)); exact HO401.out) hb); have n1_ := Aside0.mk (Kd.R_below (by (with_reducible repeat (first | apply Kd.R_alloc | apply Kd.R_drewN | apply Kd.R_drew)); exact HO409.out) hb); have n2_ := Aside0.mk (blk_below (g := gb405) (o := .cells #[.int .i64 t402, .int .i64 t403] 37 (0, 0)) (by (with_reducible repeat (first | refine blk_drewN ?_ _ | refine blk_drew ?_ | refine blk_alloc ?_ _)); exact BK405.out) hb); have n3_ := Aside0.mk (below_step (by repeat (first | (with_reducible first | exact HB.out | apply below_alloc | apply pw_below_drewN | apply below_drew1 | refine below_set ?_ GE405.out) | exact HB.out)) hb); clear HO401; clear HO409; clear BK405; clear HB; have HO401 := n0_; have HO409 := n1_; have BK405 := n2_; have HB := n3_; clear n0_ n1_ n2_ n3_; (try clear hb); (try clear hb2); (try clear hk); (try clear hi); have hcz24_0 : w23.cell? ⟨gb405, 0, none⟩ = some (.int .i64 t402) := (blk_cell BK405.out 0).trans rfl; have hcz24_1 : w23.cell? ⟨gb405, 1, none⟩ = some (.int .i64 t403) := (blk_cell BK405.out 1).trans rfl; have hfz24_0 := blk_frozen BK405.out 0; have hfz24_1 := blk_frozen BK405.out 1) | ((with_reducible refine gate_dst (N := 41) rfl ?_); (try (refine gate_guard (by rfl) ?_; dsimp only)); refine Kd.R_lit (Kd.int .i64) _ 3 ?hg (N := 41) ?hd (xs := ([5, 0] : List Int)) (inner := [.int .i64 5, .int .i64 0]) (ok := fun _ => True) (okp := fun _ => True) ?hr ?hp (fun _ hk => hk) trivial (Below.refl _ _) (Nat.le_refl _) (by simp) ?_; (case hd => rfl); (case hg => rfl); (case hr => first | (go_simp; done) | (go_simp; rfl)); (case hp => exact (Reps.one (show Kd.M (Kd.int .i64) _ _ _ 5 [.int .i64 5] from rfl) (Reps.one (show Kd.M (Kd.int .i64) _ _ _ 0 [.int .i64 0] from rfl) (Reps.none _ _)))); intro v414 w25 ho26 hb hg_ hnew_; clear hg_ hnew_; (first | rw [← Ny413.out] at ho26 | (simp only [Int.reduceToNat] at ho26; rw [← Ny413.out] at ho26)); have n0_ := Aside0.mk (Kd.N_elder' (by (with_reducible repeat (first | apply Kd.N_alloc | apply Kd.N_drewN | apply Kd.N_drew)); exact HO401.out) (Kd.R_base ho26) hb); have n1_ := Aside0.mk (Kd.R_elder' (by (with_reducible repeat (first | apply Kd.R_alloc | apply Kd.R_drewN | apply Kd.R_drew)); exact HO409.out) (Kd.R_base ho26) hb); have n2_ := Aside0.mk (Kd.R_lower (Kd.R_new' ho26 (Kd.R_lt (by (with_reducible repeat (first | apply Kd.R_alloc | apply Kd.R_drewN | apply Kd.R_drew)); exact HO409.out))) (below_size (by repeat (first | (with_reducible first | exact HB.out | apply below_alloc | apply pw_below_drewN | apply below_drew1 | refine below_set ?_ GE405.out) | exact HB.out)))); have n3_ := Aside0.mk (blk_below (g := gb405) (o := .cells #[.int .i64 t402, .int .i64 t403] 37 (0, 0)) (by (with_reducible repeat (first | refine blk_drewN ?_ _ | refine blk_drew ?_ | refine blk_alloc ?_ _)); exact BK405.out) hb); have n4_ := Aside0.mk (below_step (by repeat (first | (with_reducible first | exact HB.out | apply below_alloc | apply pw_below_drewN | apply below_drew1 | refine below_set ?_ GE405.out) | exact HB.out)) hb); clear HO401; clear HO409; clear BK405; clear HB; have HO401 := n0_; have HO409 := n1_; have HO415 := n2_; have BK405 := n3_; have HB := n4_; clear n0_ n1_ n2_ n3_ n4_; clear hb ho26; obtain ⟨Ao27, co27, eo27⟩ := Kd.R_slice HO409.out; subst eo27; obtain ⟨Ao28, co28, eo28⟩ := Kd.R_slice HO415.out; subst eo28) | (go_at_call 17; (with_reducible refine (l5same.calls k _ _ t406 _ _ y413 true _ ?side1 ?side2 ?side3 ?side4 A7.out).mono ?_); (case side1 => repeat (first | exact (Kd.R_reads' HO409.out).2.2 | (with_reducible refine Kd.C_alloc ?_ _) | (with_reducible refine Kd.C_drewN ?_ _) | (with_reducible refine Kd.C_drew ?_))); (case side2 => exact (Kd.R_reads' HO409.out).2.1); (case side3 => repeat (first | exact (Kd.R_reads' HO415.out).2.2 | (with_reducible refine Kd.C_alloc ?_ _) | (with_reducible refine Kd.C_drewN ?_ _) | (with_reducible refine Kd.C_drew ?_))); (case side4 => exact (Kd.R_reads' HO415.out).2.1); rintro e w' ⟨rfl, ⟨nd, rfl⟩⟩))
      go_ret
      exact ⟨by first | rfl | (simp [errW_none, errW_some] <;> rfl) | (simp [*, errW_none, errW_some] <;> rfl), by repeat (first | (with_reducible first | exact HB.out | apply below_alloc | apply pw_below_drewN | apply below_drew1 | refine below_set ?_ GE405.out) | exact HB.out)⟩
     ·
      rw [if_neg c9] at H
      have c9b0 : (t412 == 0) = false := beq_eq_false_iff_ne.mpr c9
      have c9b1 : (t412 != 0) = true := bne_iff_ne.mpr c9
      exact absurd (H.trans (congrArg some hr_.out)) (by simp)
    ·
     replace c8 := Bool.eq_false_iff.mpr c8
     subst c8
     have H1 : (some false) = some r := by rw [if_neg (show ¬ (false = true) by decide)] at H; exact H
     clear H
     have H := H1
     clear H1
     exact absurd (H.trans (congrArg some hr_.out)) (by simp)
   ·
    rw [if_neg c6] at H
    have c6b0 : (t407 == 0) = false := beq_eq_false_iff_ne.mpr c6
    exact absurd (H.trans (congrArg some hr_.out)) (by simp)
  ·
   rw [if_neg c5] at H
   have c5b0 : (t402 == 9 && (t403 == 2)) = false := by simpa using c5
   (try (have c5b1 : decide (t402 = 9 && (t403 == 2)) = false := by simpa using c5))
   (try (have c5b2 : (t402 == 9 && (t403 == 2)) = false := by simpa using c5))
   (try (have c5b3 : ¬ (t402 = 9 && (t403 == 2)) := by simpa using c5))
   clear c5
   exact absurd (H.trans (congrArg some hr_.out)) (by simp)
 ·
  rw [if_neg c4] at H
  have c4b0 : (t404 == 0) = false := beq_eq_false_iff_ne.mpr c4
  exact absurd (H.trans (congrArg some hr_.out)) (by simp)
set_option maxRecDepth 100000 in
theorem l5alive.yes : ∀ k r, l5alive.f k = some r → r = true := by
 intro k r h
 have h1 : l5alive.f 100 = some true := by decide +kernel
 have h2 := at_rounds l5alive.mono (Nat.le_max_left k 100) h
 have h3 := at_rounds l5alive.mono (Nat.le_max_right k 100) h1
 exact Option.some.inj (h2.symm.trans h3)
theorem l5alive.calls (k : Nat)  (r : Bool) (w : World) (h : l5alive.f k  = some r) :
  Calls Try.prog 13 #[] w fun e w' => e = .returned (.bool r) ∧ Below w.heap.size w w' := l5alive.callsT k r w h ⟨l5alive.yes k r h⟩
end

def line_steps.f (a0 : Int) : Option (Bool) := if a0 ≥ 0 then (some (decide (a0 ≤ 1048576))) else (some false)
set_option maxHeartbeats 8000000 in
set_option maxRecDepth 100000 in
theorem line_steps.calls (a0 : Int) (r : Bool) (w : World) (h : line_steps.f a0 = some r) :
  Calls Try.prog 67 #[.int .i64 a0] w fun e w' => e = .returned (.bool r) ∧ Drawn0 w w' := by
 have H : (if a0 ≥ 0 then (some (decide (a0 ≤ 1048576))) else (some false)) = some r := h
 clear h
 by_cases c2 : a0 ≥ 0
 ·
  rw [if_pos c2] at H
  have c2b0 : decide (0 ≤ a0) = true := decide_eq_true c2
  clear c2
  obtain rfl := Option.some.inj H
  go_enter Try.func67, Try.ntmps67
  go_wp2
  go_ret
  exact ⟨by first | rfl | (simp; done) | (simp [*]; done), by repeat (first | exact Drawn0.refl _ | apply Drawn0.step)⟩
 ·
  rw [if_neg c2] at H
  have c2b0 : decide (0 ≤ a0) = false := decide_eq_false c2
  clear c2
  obtain rfl := Option.some.inj H
  go_enter Try.func67, Try.ntmps67
  go_wp2
  go_ret
  exact ⟨by first | rfl | (simp; done) | (simp [*]; done), by repeat (first | exact Drawn0.refl _ | apply Drawn0.step)⟩

mutual
def lgon.l0 : Nat → List (List Int) → List Int → List Int → Int → Int → Option (List Int)
 | 0, _, _, _, _, _ => none
 | k + 1, x0, x1, x5, x13, x14 => if x14 < x13 then ((line_never_int.f).bind fun t758 => (lgon.l1 k x0 x1 x5 x14 t758 x13 x14 (x0.length : Int) 0)) else (some x5)
def lgon.l1 : Nat → List (List Int) → List Int → List Int → Int → Int → Int → Int → Int → Int → Option (List Int)
 | 0, _, _, _, _, _, _, _, _, _ => none
 | k + 1, x0, x1, x5, x6, x7, x13, x14, x19, x20 => if x20 < x19 then (if 0 ≤ x6 then (if x6 < (x0.length : Int) then (if 0 ≤ x20 then (if x20 < ((rd_L1 x0 x6).length : Int) then (if x20 < (x1.length : Int) then ((line_both_int.f (rd (rd_L1 x0 x6) x20) (rd x1 x20)).bind fun t762 => (lgon.l1 k x0 x1 x5 x6 (mx x7 t762) x13 x14 x19 (wrap64 (x20 + 1)))) else (none)) else (none)) else (none)) else (none)) else (none)) else (if 0 ≤ x6 then (if x6 < (x5.length : Int) then (lgon.l0 k x0 x1 (x5.set (x6 : Int).toNat x7) x13 (wrap64 (x14 + 1))) else (none)) else (none))
end
def lgon.f (k : Nat) (l0 : List (List Int)) (l1 : List Int) : Option (List Int) := if 0 ≤ (l0.length : Int) then (if ((l0.length : Int) : Int).toNat ≤ 35184372088832 then (lgon.l0 k l0 l1 (List.replicate ((l0.length : Int) : Int).toNat 0) (l0.length : Int) 0) else (none)) else (none)
theorem lgon.mono_l : ∀ k, (∀ y0 y1 y2 y3 y4, LeO (lgon.l0 k y0 y1 y2 y3 y4) (lgon.l0 (k + 1) y0 y1 y2 y3 y4)) ∧ (∀ y0 y1 y2 y3 y4 y5 y6 y7 y8, LeO (lgon.l1 k y0 y1 y2 y3 y4 y5 y6 y7 y8) (lgon.l1 (k + 1) y0 y1 y2 y3 y4 y5 y6 y7 y8))
 | 0 => ⟨fun _ _ _ _ _ r h => by simp [lgon.l0] at h, fun _ _ _ _ _ _ _ _ _ r h => by simp [lgon.l1] at h⟩
 | k + 1 => by
  obtain ⟨ih0, ih1⟩ := lgon.mono_l k
  refine ⟨?_, ?_⟩
  ·
   intro y0 y1 y2 y3 y4
   unfold lgon.l0
   repeat' first
   | (with_reducible exact LeO.refl _)
   | (with_reducible exact LeO.none _)
   | (with_reducible refine LeO.ite ?_ ?_)
   | (with_reducible refine LeO.bind ?_ (fun _ => ?_))
   | exact ih0 _ _ _ _ _
   | exact ih1 _ _ _ _ _ _ _ _ _
   | exact LeO.none _
   | refine LeO.ite ?_ ?_
   | refine LeO.bind ?_ (fun _ => ?_)
  ·
   intro y0 y1 y2 y3 y4 y5 y6 y7 y8
   unfold lgon.l1
   repeat' first
   | (with_reducible exact LeO.refl _)
   | (with_reducible exact LeO.none _)
   | (with_reducible refine LeO.ite ?_ ?_)
   | (with_reducible refine LeO.bind ?_ (fun _ => ?_))
   | exact ih0 _ _ _ _ _
   | exact ih1 _ _ _ _ _ _ _ _ _
   | exact LeO.none _
   | refine LeO.ite ?_ ?_
   | refine LeO.bind ?_ (fun _ => ?_)
theorem lgon.mono : ∀ a0 a1 k, LeO (lgon.f k a0 a1) (lgon.f (k + 1) a0 a1) := by
 intro a0 a1 k
 obtain ⟨ih0, ih1⟩ := lgon.mono_l k
 unfold lgon.f
 repeat' first
   | (with_reducible exact LeO.refl _)
   | (with_reducible exact LeO.none _)
   | (with_reducible refine LeO.ite ?_ ?_)
   | (with_reducible refine LeO.bind ?_ (fun _ => ?_))
   | exact ih0 _ _ _ _ _
   | exact ih1 _ _ _ _ _ _ _ _ _
   | exact LeO.none _
   | refine LeO.ite ?_ ?_
   | refine LeO.bind ?_ (fun _ => ?_)
set_option maxHeartbeats 8000000 in
set_option maxRecDepth 100000 in
theorem lgon.calls (k : Nat) (A0 : Option Addr) (c0 : Nat) (l0 : List (List Int)) (A1 : Option Addr) (c1 : Nat) (l1 : List Int) (r : List Int) (w : World) (hr0 : Kd.C (Kd.slice 3 (Kd.int .i64)) w A0 l0.length l0) (hc0 : l0.length ≤ c0) (hr1 : Kd.C (Kd.int .i64) w A1 l1.length l1) (hc1 : l1.length ≤ c1) (h : lgon.f k l0 l1 = some r) :
  Calls Try.prog 70 #[.slice A0 l0.length c0, .slice A1 l1.length c1] w fun e w' => ∃ v0_ : Value, e = .returned (v0_) ∧ Kd.R (Kd.int .i64) 3 w' w.heap.size (fun _ => True) v0_ r ∧ Below w.heap.size w w' := by
 have HR0 := Aside0.mk hr0
 have HC0 := Aside0.mk hc0
 clear hr0 hc0
 have HR1 := Aside0.mk hr1
 have HC1 := Aside0.mk hc1
 clear hr1 hc1
 have HB := Aside0.mk (Below.refl w.heap.size w)
 have H : (if 0 ≤ (l0.length : Int) then (if ((l0.length : Int) : Int).toNat ≤ 35184372088832 then (lgon.l0 k l0 l1 (List.replicate ((l0.length : Int) : Int).toNat 0) (l0.length : Int) 0) else (none)) else (none)) = some r := h
 clear h
 by_cases c3 : 0 ≤ (l0.length : Int)
 ·
  rw [if_pos c3] at H
  have c3b0 := eq_true c3
  have c3b1 : decide (0 ≤ (l0.length : Int)) = true := decide_eq_true c3
  clear c3
  by_cases c4 : ((l0.length : Int) : Int).toNat ≤ 35184372088832
  ·
   rw [if_pos c4] at H
   have c4b0 := eq_true c4
   have c4b1 : decide (((l0.length : Int) : Int).toNat ≤ 35184372088832) = true := decide_eq_true c4
   clear c4
   obtain ⟨y755, hy755⟩ : ∃ y_ : List Int, y_ = (List.replicate ((l0.length : Int) : Int).toNat 0) := ⟨_, rfl⟩
   replace H : (lgon.l0 k l0 l1 y755 (l0.length : Int) 0) = some r := by first | (rw [hy755]; with_reducible exact H) | (have H2_ := (Option.bind_some _ _).symm.trans H; rw [hy755]; with_reducible exact H2_) | (have H2_ := (Option.bind_some _ _).symm.trans H; with_reducible exact H2_) | with_reducible exact H | (rw [hy755]; exact H) | exact H
   have Ny755 := Aside0.mk hy755
   clear hy755
   have H' := Aside0.mk H
   clear H
   go_enter Try.func70, Try.ntmps70
   go_wp2_with (first | ((with_reducible refine gate_dst (N := 11) rfl ?_); refine Kd.R_make (Kd.int .i64) _ 3 rfl (N := 11) rfl 26 _ _ rfl (l0.length : Int) rfl rfl Try.underlying26 (.int .i64 0) 8 info3 rfl (by decide) (by omega) 0 (ok := fun _ => True) (okp := fun _ => True) rfl (fun _ hk => hk) trivial (of_decide_eq_true (by first | (with_reducible assumption) | assumption)) (Nat.le_trans (Nat.mul_le_mul_right _ (of_decide_eq_true (by first | (with_reducible assumption) | assumption) : (l0.length : Int).toNat ≤ 35184372088832)) (by omega)) (Below.refl _ _) (Nat.le_refl _) ?_; intro v756 w5 ho6 hb hg_ hnew_; clear hg_ hnew_; (first | rw [← Ny755.out] at ho6 | (simp only [Int.reduceToNat] at ho6; rw [← Ny755.out] at ho6)); have n0_ := Aside0.mk (Kd.R_lower ho6 (below_size (by repeat (first | (with_reducible first | exact HB.out | apply below_alloc | apply pw_below_drewN | apply below_drew1) | exact HB.out)))); have n1_ := Aside0.mk (below_step (by repeat (first | (with_reducible first | exact HB.out | apply below_alloc | apply pw_below_drewN | apply below_drew1) | exact HB.out)) hb); clear HB; have HO757 := n0_; have HB := n1_; clear n0_ n1_; clear hb ho6))
   repeat (go_quiet (first | ((with_reducible refine gate_dst (N := 11) rfl ?_); refine Kd.R_make (Kd.int .i64) _ 3 rfl (N := 11) rfl 26 _ _ rfl (l0.length : Int) rfl rfl Try.underlying26 (.int .i64 0) 8 info3 rfl (by decide) (by omega) 0 (ok := fun _ => True) (okp := fun _ => True) rfl (fun _ hk => hk) trivial (of_decide_eq_true (by first | (with_reducible assumption) | assumption)) (Nat.le_trans (Nat.mul_le_mul_right _ (of_decide_eq_true (by first | (with_reducible assumption) | assumption) : (l0.length : Int).toNat ≤ 35184372088832)) (by omega)) (Below.refl _ _) (Nat.le_refl _) ?_; intro v756 w5 ho6 hb hg_ hnew_; clear hg_ hnew_; (first | rw [← Ny755.out] at ho6 | (simp only [Int.reduceToNat] at ho6; rw [← Ny755.out] at ho6)); have n0_ := Aside0.mk (Kd.R_lower ho6 (below_size (by repeat (first | (with_reducible first | exact HB.out | apply below_alloc | apply pw_below_drewN | apply below_drew1) | exact HB.out)))); have n1_ := Aside0.mk (below_step (by repeat (first | (with_reducible first | exact HB.out | apply below_alloc | apply pw_below_drewN | apply below_drew1) | exact HB.out)) hb); clear HB; have HO757 := n0_; have HB := n1_; clear n0_ n1_; clear hb ho6)); try go_wp2_with (first | ((with_reducible refine gate_dst (N := 11) rfl ?_); refine Kd.R_make (Kd.int .i64) _ 3 rfl (N := 11) rfl 26 _ _ rfl (l0.length : Int) rfl rfl Try.underlying26 (.int .i64 0) 8 info3 rfl (by decide) (by omega) 0 (ok := fun _ => True) (okp := fun _ => True) rfl (fun _ hk => hk) trivial (of_decide_eq_true (by first | (with_reducible assumption) | assumption)) (Nat.le_trans (Nat.mul_le_mul_right _ (of_decide_eq_true (by first | (with_reducible assumption) | assumption) : (l0.length : Int).toNat ≤ 35184372088832)) (by omega)) (Below.refl _ _) (Nat.le_refl _) ?_; intro v756 w5 ho6 hb hg_ hnew_; clear hg_ hnew_; (first | rw [← Ny755.out] at ho6 | (simp only [Int.reduceToNat] at ho6; rw [← Ny755.out] at ho6)); have n0_ := Aside0.mk (Kd.R_lower ho6 (below_size (by repeat (first | (with_reducible first | exact HB.out | apply below_alloc | apply pw_below_drewN | apply below_drew1) | exact HB.out)))); have n1_ := Aside0.mk (below_step (by repeat (first | (with_reducible first | exact HB.out | apply below_alloc | apply pw_below_drewN | apply below_drew1) | exact HB.out)) hb); clear HB; have HO757 := n0_; have HB := n1_; clear n0_ n1_; clear hb ho6)))
   go_loopg [14] k (fun kq v14 w' => ∃ (x5_1 : List Int) (x14_1 : Int), v14 = .int .i64 x14_1 ∧ Aside0 (lgon.l0 kq l0 l1 x5_1 (l0.length : Int) x14_1 = some r) ∧ Aside0 (kq ≤ k) ∧ Aside0 (Kd.R (Kd.int .i64) 3 w' w.heap.size (fun _ => True) v756 x5_1) ∧ Aside0 (Below w.heap.size w w'))
   case atStart => exact ⟨(y755), (0), (by first | rfl | (simp; done) | (simp [*]; done)), H', ⟨Nat.le_refl _⟩, ⟨by (with_reducible repeat (first | apply Kd.R_alloc | apply Kd.R_drewN | apply Kd.R_drew)); exact HO757.out⟩, ⟨by repeat (first | (with_reducible first | exact HB.out | apply below_alloc | apply pw_below_drewN | apply below_drew1) | exact HB.out)⟩⟩
   case round =>
    clear H'
    try clear c1
    try clear p2
    try clear c3
    try clear c3b0
    try clear c3b1
    try clear c4
    try clear c4b0
    try clear c4b1
    obtain ⟨x5_1, x14_1, rfl, HA, HK1, HO_5, HB⟩ := hrel
    cases gk with
    | zero => exact absurd HA.out (by simp [lgon.l0])
    | succ k1 =>
     have H := HA.out
     clear HA
     simp only [lgon.l0] at H
     by_cases c7 : x14_1 < (l0.length : Int)
     ·
      rw [if_pos c7] at H
      have c7b0 : decide (x14_1 < (l0.length : Int)) = true := decide_eq_true c7
      clear c7
      replace H := Option.bind_eq_some_iff.mp H
      obtain ⟨t758, A80, H⟩ := H
      replace H : (lgon.l1 k1 l0 l1 x5_1 x14_1 t758 (l0.length : Int) x14_1 (l0.length : Int) 0) = some r := H
      have A8 := Aside0.mk A80
      clear A80
      have H' := Aside0.mk H
      clear H
      go_wp2_with (first | (go_at_call 83; (with_reducible refine (line_never_int.calls  t758 _ A8.out).mono ?_); rintro e w' ⟨rfl, ⟨nd, rfl⟩⟩; (try first | exact ⟨rfl, _, World.drewN_drewN _ _ _⟩ | exact ⟨rfl, _, Eq.trans (World.drewN_drewN _ _ _) (congrArg (World.drewN _) (Nat.add_assoc _ _ _))⟩)))
      go_loopg [7, 20] k1 (fun kq v7 v20 w' => ∃ (x7_2 : Int) (x20_2 : Int), v7 = .int .i64 x7_2 ∧ v20 = .int .i64 x20_2 ∧ Aside0 (lgon.l1 kq l0 l1 x5_1 x14_1 x7_2 (l0.length : Int) x14_1 (l0.length : Int) x20_2 = some r) ∧ Aside0 (kq ≤ k1) ∧ Aside0 (Kd.R (Kd.int .i64) 3 w' w.heap.size (fun _ => True) v756 x5_1) ∧ Aside0 (Below w.heap.size w w'))
      case atStart => exact ⟨(t758), (0), rfl, rfl, H', ⟨Nat.le_refl _⟩, ⟨by exact HO_5.out⟩, ⟨by repeat (first | exact HB.out | apply below_alloc | apply pw_below_drewN | apply below_drew1)⟩⟩
      case round =>
       clear H'
       obtain ⟨x7_2, x20_2, rfl, rfl, HA, HK2, HO_5, HB⟩ := hrel
       cases gk with
       | zero => exact absurd HA.out (by simp [lgon.l1])
       | succ k2 =>
        have H := HA.out
        clear HA
        simp only [lgon.l1] at H
        by_cases c9 : x20_2 < (l0.length : Int)
        ·
         rw [if_pos c9] at H
         have c9b0 : decide (x20_2 < (l0.length : Int)) = true := decide_eq_true c9
         clear c9
         by_cases c10 : 0 ≤ x14_1
         ·
          rw [if_pos c10] at H
          have c10b0 : decide (0 ≤ x14_1) = true := decide_eq_true c10
          clear c10
          by_cases c11 : x14_1 < (l0.length : Int)
          ·
           rw [if_pos c11] at H
           have c11b0 : decide (x14_1 < (l0.length : Int)) = true := decide_eq_true c11
           clear c11
           by_cases c12 : 0 ≤ x20_2
           ·
            rw [if_pos c12] at H
            have c12b0 : decide (0 ≤ x20_2) = true := decide_eq_true c12
            clear c12
            by_cases c13 : x20_2 < ((rd_L1 l0 x14_1).length : Int)
            ·
             rw [if_pos c13] at H
             have c13b0 : decide (x20_2 < ((rd_L1 l0 x14_1).length : Int)) = true := decide_eq_true c13
             clear c13
             by_cases c14 : x20_2 < (l1.length : Int)
             ·
              rw [if_pos c14] at H
              have c14b0 : decide (x20_2 < (l1.length : Int)) = true := decide_eq_true c14
              clear c14
              replace H := Option.bind_eq_some_iff.mp H
              obtain ⟨t762, A150, H⟩ := H
              replace H : (lgon.l1 k2 l0 l1 x5_1 x14_1 (mx x7_2 t762) (l0.length : Int) x14_1 (l0.length : Int) (wrap64 (x20_2 + 1))) = some r := H
              have A15 := Aside0.mk A150
              clear A150
              obtain ⟨ji16, hji16⟩ : ∃ j_ : Int, (mx x7_2 t762) = j_ := ⟨_, rfl⟩
              replace H : (lgon.l1 k2 l0 l1 x5_1 x14_1 ji16 (l0.length : Int) x14_1 (l0.length : Int) (wrap64 (x20_2 + 1))) = some r := by first | (rw [hji16] at H; exact H) | (simp only [hji16] at H ⊢; exact H)
              (try rw [hji16] at A15)
              have hji16_ : (if x7_2 < t762 then t762 else x7_2) = ji16 := hji16
              have H' := Aside0.mk H
              clear H
              have p759 : 0 ≤ (x14_1 : Int) := of_decide_eq_true (by assumption)
              have q759 : x14_1 < (l0.length : Int) := of_decide_eq_true (by assumption)
              obtain ⟨ad759, A759_0, c759_0, e759, hx759_0, hl759_0, hi759_0⟩ := at_L1 HR0.out x14_1 p759 q759
              cases e759
              replace hx759_0 := (HB.out.cell (World.block_lt_of_cell? w _ hx759_0)).trans hx759_0
              have HR759_0 := Aside0.mk hi759_0
              have HC759_0 := Aside0.mk hl759_0
              clear hi759_0 hl759_0
              replace p759 := eq_true p759
              replace q759 := eq_true q759
              have p760 : 0 ≤ (x20_2 : Int) := of_decide_eq_true (by assumption)
              have q760 : x20_2 < ((rd_L1 l0 x14_1).length : Int) := of_decide_eq_true (by assumption)
              obtain ⟨ad760, e760, hx760_0⟩ := Kd.at_int HR759_0.out x20_2 p760 q760
              cases e760
              replace hx760_0 := (HB.out.cell (World.block_lt_of_cell? w _ hx760_0)).trans hx760_0
              replace p760 := eq_true p760
              replace q760 := eq_true q760
              have p761 : 0 ≤ (x20_2 : Int) := of_decide_eq_true (by assumption)
              have q761 : x20_2 < (l1.length : Int) := of_decide_eq_true (by assumption)
              obtain ⟨ad761, e761, hx761_0⟩ := Kd.at_int HR1.out x20_2 p761 q761
              cases e761
              replace hx761_0 := (HB.out.cell (World.block_lt_of_cell? w _ hx761_0)).trans hx761_0
              replace p761 := eq_true p761
              replace q761 := eq_true q761
              go_wp2_with (first | (go_at_call 91; (with_reducible refine (line_both_int.calls (rd (rd_L1 l0 x14_1) x20_2) (rd l1 x20_2) t762 _ A15.out).mono ?_); rintro e w' ⟨rfl, ⟨nd, rfl⟩⟩; (try first | exact ⟨rfl, _, World.drewN_drewN _ _ _⟩ | exact ⟨rfl, _, Eq.trans (World.drewN_drewN _ _ _) (congrArg (World.drewN _) (Nat.add_assoc _ _ _))⟩)))
              repeat (go_quiet (first | (go_at_call 91; (with_reducible refine (line_both_int.calls (rd (rd_L1 l0 x14_1) x20_2) (rd l1 x20_2) t762 _ A15.out).mono ?_); rintro e w' ⟨rfl, ⟨nd, rfl⟩⟩; (try first | exact ⟨rfl, _, World.drewN_drewN _ _ _⟩ | exact ⟨rfl, _, Eq.trans (World.drewN_drewN _ _ _) (congrArg (World.drewN _) (Nat.add_assoc _ _ _))⟩))); try go_wp2_with (first | (go_at_call 91; (with_reducible refine (line_both_int.calls (rd (rd_L1 l0 x14_1) x20_2) (rd l1 x20_2) t762 _ A15.out).mono ?_); rintro e w' ⟨rfl, ⟨nd, rfl⟩⟩; (try first | exact ⟨rfl, _, World.drewN_drewN _ _ _⟩ | exact ⟨rfl, _, Eq.trans (World.drewN_drewN _ _ _) (congrArg (World.drewN _) (Nat.add_assoc _ _ _))⟩))))
              go_roundg k2
              case measure => have := HK1.out; have := HK2.out; omega
              case rel => exact ⟨(ji16), (wrap64 (x20_2 + 1)), (by first | rfl | (simp; done) | (simp only [← hji16] <;> (first | rfl | simp)) | (simp [*]; done)), rfl, H', ⟨by have := HK1.out; have := HK2.out; omega⟩, ⟨by exact HO_5.out⟩, ⟨by repeat (first | exact HB.out | apply below_alloc | apply pw_below_drewN | apply below_drew1)⟩⟩
             ·
              rw [if_neg c14] at H
              exact absurd H (by simp)
            ·
             rw [if_neg c13] at H
             exact absurd H (by simp)
           ·
            rw [if_neg c12] at H
            exact absurd H (by simp)
          ·
           rw [if_neg c11] at H
           exact absurd H (by simp)
         ·
          rw [if_neg c10] at H
          exact absurd H (by simp)
        ·
         rw [if_neg c9] at H
         have c9b0 : decide (x20_2 < (l0.length : Int)) = false := decide_eq_false c9
         clear c9
         by_cases c17 : 0 ≤ x14_1
         ·
          rw [if_pos c17] at H
          have c17b0 : decide (0 ≤ x14_1) = true := decide_eq_true c17
          clear c17
          by_cases c18 : x14_1 < (x5_1.length : Int)
          ·
           rw [if_pos c18] at H
           have c18b0 : decide (x14_1 < (x5_1.length : Int)) = true := decide_eq_true c18
           clear c18
           obtain ⟨y763, hy763⟩ : ∃ y_ : List Int, y_ = (x5_1.set (x14_1 : Int).toNat x7_2) := ⟨_, rfl⟩
           replace H : (lgon.l0 k2 l0 l1 y763 (l0.length : Int) (wrap64 (x14_1 + 1))) = some r := by rw [hy763]; exact H
           have Ny763 := Aside0.mk hy763
           clear hy763
           have H' := Aside0.mk H
           clear H
           have p19 : 0 ≤ (x14_1 : Int) := of_decide_eq_true (by assumption)
           have q19 : (x14_1 : Int) < ((x5_1.length : Int) : Int) := of_decide_eq_true (by assumption)
           obtain ⟨go19, co19, eo19, gb19, gl19, cl19, HG19⟩ := Kd.R_form HO_5.out (by omega)
           (first | cases eo19 | (injection eo19 with ea_ en_ ec_; (first | subst ea_ | (injection ea_ with ea_; subst ea_)); subst ec_; clear en_))
           have GB19 := Aside0.mk gb19
           have GG19 := Aside0.mk HG19
           clear gb19 gl19 HG19
           obtain ⟨hx19_0, hf19_0⟩ := Kd.R_celln 0 HO_5.out (x14_1 : Int) p19 q19
           replace p19 := eq_true p19
           replace q19 := eq_true q19
           have HP20 := Kd.R_putg HO_5.out (x14_1 : Int) x7_2
           go_wp2_with (first | ((with_reducible refine gate_store (t := 3) (p := 41) rfl ?_); (try (rw [drewN_self wr]; generalize hq_ : World.drewN wr _ = wr; have n0_ := Aside0.mk (Kd.R_at hq_ HO_5.out); have n1_ := Aside0.mk (below_at hq_ HB.out); clear hq_ HO_5 HB; have HO_5 := n0_; have HB := n1_; clear n0_ n1_; (try (have HP20 := Kd.R_putg HO_5.out (x14_1 : Int) x7_2)))); refine store_event (t := 3) (p := 41) (v := ?vo_w21) (w1 := (wr.setCell ⟨go19, (x14_1 : Int).toNat, none⟩ (.int .i64 x7_2))) ?hg ?ho ?hn ?hr ?_; (case ho => rfl); (case hg => rfl); (case hn => rfl); (case hr => go_simp); intro w21 hw; have hg : wr.grownBy w21 (some go19) := (by rw [hw]; exact HP20.2); have hp_ : Kd.R (Kd.int .i64) 3 w21 w.heap.size (fun _ => True) (.slice (some ⟨go19, 0, none⟩) x5_1.length co19) y763 := (by rw [hw, Ny763.out]; exact HP20.1); clear HP20; have n0_ := Aside0.mk (hp_); have n1_ := Aside0.mk ((by rw [hw]; exact below_set (HB.out) GB19.out : Below w.heap.size w w21)); clear HO_5; clear HB; have HO_5 := n0_; have HB := n1_; clear n0_ n1_; clear hg hw hp_))
           go_roundg k2
           case measure => have := HK1.out; have := HK2.out; omega
           case rel => exact ⟨(y763), (wrap64 (x14_1 + 1)), rfl, H', ⟨by have := HK1.out; have := HK2.out; omega⟩, ⟨by exact HO_5.out⟩, ⟨HB.out⟩⟩
          ·
           rw [if_neg c18] at H
           exact absurd H (by simp)
         ·
          rw [if_neg c17] at H
          exact absurd H (by simp)
     ·
      rw [if_neg c7] at H
      have c7b0 : decide (x14_1 < (l0.length : Int)) = false := decide_eq_false c7
      clear c7
      obtain rfl := Option.some.inj H
      go_wp2
      go_ret
      exact ⟨_, rfl, by exact HO_5.out, HB.out⟩
  ·
   rw [if_neg c4] at H
   exact absurd H (by simp)
 ·
  rw [if_neg c3] at H
  exact absurd H (by simp)

def line_Run_1.f (a0 : Int) : Option (Bool) := if a0 = (-1152921504606846976) then (some false) else (if a0 < (-1125899906842624) then (some true) else (some (decide (a0 > 562949953421312))))
set_option maxHeartbeats 8000000 in
set_option maxRecDepth 100000 in
theorem line_Run_1.calls (a0 : Int) (r : Bool) (w : World) (h : line_Run_1.f a0 = some r) :
  Calls Try.prog 69 #[.int .i64 a0] w fun e w' => e = .returned (.bool r) ∧ Drawn0 w w' := by
 have H : (if a0 = (-1152921504606846976) then (some false) else (if a0 < (-1125899906842624) then (some true) else (some (decide (a0 > 562949953421312))))) = some r := h
 clear h
 by_cases c2 : a0 = (-1152921504606846976)
 ·
  rw [if_pos c2] at H
  have c2b0 : (a0 == (-1152921504606846976)) = true := beq_iff_eq.mpr c2
  have c2b1 : (a0 != (-1152921504606846976)) = false := bne_eq_false_iff_eq.mpr c2
  clear c2
  obtain rfl := Option.some.inj H
  go_enter Try.func69, Try.ntmps69
  go_wp2
  go_ret
  exact ⟨by first | rfl | (simp; done) | (simp [*]; done), by repeat (first | exact Drawn0.refl _ | apply Drawn0.step)⟩
 ·
  rw [if_neg c2] at H
  have c2b0 : (a0 == (-1152921504606846976)) = false := beq_eq_false_iff_ne.mpr c2
  by_cases c3 : a0 < (-1125899906842624)
  ·
   rw [if_pos c3] at H
   have c3b0 : decide (a0 < (-1125899906842624)) = true := decide_eq_true c3
   clear c3
   obtain rfl := Option.some.inj H
   go_enter Try.func69, Try.ntmps69
   go_wp2
   go_ret
   exact ⟨by first | rfl | (simp; done) | (simp [*]; done), by repeat (first | exact Drawn0.refl _ | apply Drawn0.step)⟩
  ·
   rw [if_neg c3] at H
   have c3b0 : decide (a0 < (-1125899906842624)) = false := decide_eq_false c3
   clear c3
   obtain rfl := Option.some.inj H
   go_enter Try.func69, Try.ntmps69
   go_wp2
   go_ret
   exact ⟨by first | rfl | (simp; done) | (simp [*]; done), by repeat (first | exact Drawn0.refl _ | apply Drawn0.step)⟩

def sifRun_1.l0 : Nat → List Int → Int → Int → Option (Int)
 | 0, _, _, _ => none
 | k + 1, x0, x7, x8 => if x8 < x7 then (if 0 ≤ x8 then (if x8 < (x0.length : Int) then ((line_Run_1.f (rd x0 x8)).bind fun t765 => (if t765 = true then (some x8) else (sifRun_1.l0 k x0 x7 (wrap64 (x8 + 1))))) else (none)) else (none)) else (some (-1))
def sifRun_1.f (k : Nat) (l0 : List Int) (a1 : Int) : Option (Int) := sifRun_1.l0 k l0 (l0.length : Int) 0
theorem sifRun_1.mono_l : ∀ k, (∀ y0 y1 y2, LeO (sifRun_1.l0 k y0 y1 y2) (sifRun_1.l0 (k + 1) y0 y1 y2))
 | 0 => fun _ _ _ r h => by simp [sifRun_1.l0] at h
 | k + 1 => by
  have ih0 := sifRun_1.mono_l k
  ·
   intro y0 y1 y2
   unfold sifRun_1.l0
   repeat' first
   | (with_reducible exact ih0 _ _ _)
   | (with_reducible exact LeO.refl _)
   | (with_reducible exact LeO.none _)
   | (with_reducible refine LeO.ite ?_ ?_)
   | (with_reducible refine LeO.bind ?_ (fun _ => ?_))
   | exact ih0 _ _ _
   | exact LeO.none _
   | refine LeO.ite ?_ ?_
   | refine LeO.bind ?_ (fun _ => ?_)
theorem sifRun_1.mono : ∀ a0 a1 k, LeO (sifRun_1.f k a0 a1) (sifRun_1.f (k + 1) a0 a1) := by
 intro a0 a1 k
 have ih0 := sifRun_1.mono_l k
 unfold sifRun_1.f
 repeat' first
   | exact ih0 _ _ _
   | exact LeO.none _
   | refine LeO.ite ?_ ?_
   | refine LeO.bind ?_ (fun _ => ?_)
set_option maxHeartbeats 8000000 in
set_option maxRecDepth 100000 in
theorem sifRun_1.calls (k : Nat) (A0 : Option Addr) (c0 : Nat) (l0 : List Int) (a1 : Int) (r : Int) (w : World) (hr0 : Kd.C (Kd.int .i64) w A0 l0.length l0) (hc0 : l0.length ≤ c0) (h : sifRun_1.f k l0 a1 = some r) :
  Calls Try.prog 93 #[.slice A0 l0.length c0, .func (.func 69) #[] #[]] w fun e w' => e = .returned (.int .i64 r) ∧ Drawn0 w w' := by
 have HR0 := Aside0.mk hr0
 have HC0 := Aside0.mk hc0
 clear hr0 hc0
 have H : (sifRun_1.l0 k l0 (l0.length : Int) 0) = some r := h
 clear h
 have H' := Aside0.mk H
 clear H
 go_enter Try.func93, Try.ntmps93
 go_wp2
 go_loopg [8] k (fun kq v8 w' => ∃ (x8_1 : Int), v8 = .int .i64 x8_1 ∧ Aside0 (sifRun_1.l0 kq l0 (l0.length : Int) x8_1 = some r) ∧ Aside0 (kq ≤ k) ∧ Drawn0 w w')
 case atStart => exact ⟨(0), rfl, H', ⟨Nat.le_refl _⟩, by repeat (first | exact Drawn0.refl _ | apply Drawn0.step)⟩
 case round =>
  clear H'
  obtain ⟨x8_1, rfl, HA, HK1, ⟨m1, rfl⟩⟩ := hrel
  cases gk with
  | zero => exact absurd HA.out (by simp [sifRun_1.l0])
  | succ k1 =>
   have H := HA.out
   clear HA
   simp only [sifRun_1.l0] at H
   by_cases c3 : x8_1 < (l0.length : Int)
   ·
    rw [if_pos c3] at H
    have c3b0 : decide (x8_1 < (l0.length : Int)) = true := decide_eq_true c3
    clear c3
    by_cases c4 : 0 ≤ x8_1
    ·
     rw [if_pos c4] at H
     have c4b0 : decide (0 ≤ x8_1) = true := decide_eq_true c4
     clear c4
     by_cases c5 : x8_1 < (l0.length : Int)
     ·
      rw [if_pos c5] at H
      have c5b0 : decide (x8_1 < (l0.length : Int)) = true := decide_eq_true c5
      clear c5
      replace H := Option.bind_eq_some_iff.mp H
      obtain ⟨t765, A60, H⟩ := H
      replace H : (if t765 = true then (some x8_1) else (sifRun_1.l0 k1 l0 (l0.length : Int) (wrap64 (x8_1 + 1)))) = some r := H
      have A6 := Aside0.mk A60
      clear A60
      by_cases c7 : t765 = true
      ·
       subst c7
       have H1 : (some x8_1) = some r := by rw [if_pos rfl] at H; exact H
       clear H
       have H := H1
       clear H1
       obtain rfl := Option.some.inj H
       have p764 : 0 ≤ (x8_1 : Int) := of_decide_eq_true (by assumption)
       have q764 : x8_1 < (l0.length : Int) := of_decide_eq_true (by assumption)
       obtain ⟨ad764, e764, hx764_0⟩ := Kd.at_int HR0.out x8_1 p764 q764
       cases e764
       replace p764 := eq_true p764
       replace q764 := eq_true q764
       go_wp2_with (first | (go_at_call 69; (with_reducible refine (line_Run_1.calls (rd l0 x8_1) true _ A6.out).mono ?_); rintro e w' ⟨rfl, ⟨nd, rfl⟩⟩))
       go_ret
       exact ⟨by first | rfl | (simp; done) | (simp [*]; done), by repeat (first | exact Drawn0.refl _ | apply Drawn0.step)⟩
      ·
       replace c7 := Bool.eq_false_iff.mpr c7
       subst c7
       have H1 : (sifRun_1.l0 k1 l0 (l0.length : Int) (wrap64 (x8_1 + 1))) = some r := by rw [if_neg (show ¬ (false = true) by decide)] at H; exact H
       clear H
       have H := H1
       clear H1
       have H' := Aside0.mk H
       clear H
       have p764 : 0 ≤ (x8_1 : Int) := of_decide_eq_true (by assumption)
       have q764 : x8_1 < (l0.length : Int) := of_decide_eq_true (by assumption)
       obtain ⟨ad764, e764, hx764_0⟩ := Kd.at_int HR0.out x8_1 p764 q764
       cases e764
       replace p764 := eq_true p764
       replace q764 := eq_true q764
       go_wp2_with (first | (go_at_call 69; (with_reducible refine (line_Run_1.calls (rd l0 x8_1) false _ A6.out).mono ?_); rintro e w' ⟨rfl, ⟨nd, rfl⟩⟩))
       go_roundg k1
       case measure => have := HK1.out; omega
       case rel => exact ⟨(wrap64 (x8_1 + 1)), rfl, H', ⟨by have := HK1.out; omega⟩, by repeat (first | exact Drawn0.refl _ | apply Drawn0.step)⟩
     ·
      rw [if_neg c5] at H
      exact absurd H (by simp)
    ·
     rw [if_neg c4] at H
     exact absurd H (by simp)
   ·
    rw [if_neg c3] at H
    have c3b0 : decide (x8_1 < (l0.length : Int)) = false := decide_eq_false c3
    clear c3
    obtain rfl := Option.some.inj H
    go_wp2
    go_ret
    exact ⟨by first | rfl | (simp; done) | (simp [*]; done), by repeat (first | exact Drawn0.refl _ | apply Drawn0.step)⟩

def scfRun_1.f (k : Nat) (l0 : List Int) (a1 : Int) : Option (Bool) := (sifRun_1.f k l0 a1).bind fun t766 => (some (decide (t766 ≥ 0)))
theorem scfRun_1.mono : ∀ a0 a1 k, LeO (scfRun_1.f k a0 a1) (scfRun_1.f (k + 1) a0 a1) := by
 intro a0 a1 k
 unfold scfRun_1.f
 repeat' first
   | (with_reducible exact sifRun_1.mono _ _ _)
   | (with_reducible exact LeO.refl _)
   | (with_reducible exact LeO.none _)
   | (with_reducible refine LeO.ite ?_ ?_)
   | (with_reducible refine LeO.bind ?_ (fun _ => ?_))
   | exact sifRun_1.mono _ _ _
   | exact LeO.none _
   | refine LeO.ite ?_ ?_
   | refine LeO.bind ?_ (fun _ => ?_)
set_option maxHeartbeats 8000000 in
set_option maxRecDepth 100000 in
theorem scfRun_1.calls (k : Nat) (A0 : Option Addr) (c0 : Nat) (l0 : List Int) (a1 : Int) (r : Bool) (w : World) (hr0 : Kd.C (Kd.int .i64) w A0 l0.length l0) (hc0 : l0.length ≤ c0) (h : scfRun_1.f k l0 a1 = some r) :
  Calls Try.prog 68 #[.slice A0 l0.length c0, .func (.func 69) #[] #[]] w fun e w' => e = .returned (.bool r) ∧ Drawn0 w w' := by
 have HR0 := Aside0.mk hr0
 have HC0 := Aside0.mk hc0
 clear hr0 hc0
 have H : ((sifRun_1.f k l0 a1).bind fun t766 => (some (decide (t766 ≥ 0)))) = some r := h
 clear h
 replace H := Option.bind_eq_some_iff.mp H
 obtain ⟨t766, A30, H⟩ := H
 replace H : (some (decide (t766 ≥ 0))) = some r := H
 have A3 := Aside0.mk A30
 clear A30
 obtain rfl := Option.some.inj H
 go_enter Try.func68, Try.ntmps68
 go_wp2_with (first | ((with_reducible refine gate_callee (f := 93) rfl ?_); refine goesL_ (some 7) rfl rfl Try.func93 (by kernel_rfl) rfl #[.slice A0 l0.length c0, .func (.func 69) #[] #[]] rfl (by (try simp only [List.map_toArray, List.map_cons, List.map_nil]); first | done | rfl | (simp only [List.length_drop, List.length_take]; rfl)) ?_; (with_reducible refine (sifRun_1.calls k _ _ l0 a1 t766 _ ?side1 ?side2 A3.out).mono ?_); (case side1 => repeat (first | exact HR0.out)); (case side2 => exact HC0.out); rintro e w' ⟨rfl, ⟨nd, rfl⟩⟩; refine ⟨_, rfl, ?_⟩))
 go_ret
 exact ⟨by first | rfl | (simp; done) | (simp [*]; done), by repeat (first | exact Drawn0.refl _ | apply Drawn0.step)⟩

def line_Run_2.f (a0 : Int) : Option (Bool) := if a0 = (-1152921504606846976) then (some false) else (if a0 < (-1125899906842624) then (some true) else (some (decide (a0 > 1125899906842624))))
set_option maxHeartbeats 8000000 in
set_option maxRecDepth 100000 in
theorem line_Run_2.calls (a0 : Int) (r : Bool) (w : World) (h : line_Run_2.f a0 = some r) :
  Calls Try.prog 71 #[.int .i64 a0] w fun e w' => e = .returned (.bool r) ∧ Drawn0 w w' := by
 have H : (if a0 = (-1152921504606846976) then (some false) else (if a0 < (-1125899906842624) then (some true) else (some (decide (a0 > 1125899906842624))))) = some r := h
 clear h
 by_cases c2 : a0 = (-1152921504606846976)
 ·
  rw [if_pos c2] at H
  have c2b0 : (a0 == (-1152921504606846976)) = true := beq_iff_eq.mpr c2
  have c2b1 : (a0 != (-1152921504606846976)) = false := bne_eq_false_iff_eq.mpr c2
  clear c2
  obtain rfl := Option.some.inj H
  go_enter Try.func71, Try.ntmps71
  go_wp2
  go_ret
  exact ⟨by first | rfl | (simp; done) | (simp [*]; done), by repeat (first | exact Drawn0.refl _ | apply Drawn0.step)⟩
 ·
  rw [if_neg c2] at H
  have c2b0 : (a0 == (-1152921504606846976)) = false := beq_eq_false_iff_ne.mpr c2
  by_cases c3 : a0 < (-1125899906842624)
  ·
   rw [if_pos c3] at H
   have c3b0 : decide (a0 < (-1125899906842624)) = true := decide_eq_true c3
   clear c3
   obtain rfl := Option.some.inj H
   go_enter Try.func71, Try.ntmps71
   go_wp2
   go_ret
   exact ⟨by first | rfl | (simp; done) | (simp [*]; done), by repeat (first | exact Drawn0.refl _ | apply Drawn0.step)⟩
  ·
   rw [if_neg c3] at H
   have c3b0 : decide (a0 < (-1125899906842624)) = false := decide_eq_false c3
   clear c3
   obtain rfl := Option.some.inj H
   go_enter Try.func71, Try.ntmps71
   go_wp2
   go_ret
   exact ⟨by first | rfl | (simp; done) | (simp [*]; done), by repeat (first | exact Drawn0.refl _ | apply Drawn0.step)⟩

def sifRun_2.l0 : Nat → List Int → Int → Int → Option (Int)
 | 0, _, _, _ => none
 | k + 1, x0, x7, x8 => if x8 < x7 then (if 0 ≤ x8 then (if x8 < (x0.length : Int) then ((line_Run_2.f (rd x0 x8)).bind fun t768 => (if t768 = true then (some x8) else (sifRun_2.l0 k x0 x7 (wrap64 (x8 + 1))))) else (none)) else (none)) else (some (-1))
def sifRun_2.f (k : Nat) (l0 : List Int) (a1 : Int) : Option (Int) := sifRun_2.l0 k l0 (l0.length : Int) 0
theorem sifRun_2.mono_l : ∀ k, (∀ y0 y1 y2, LeO (sifRun_2.l0 k y0 y1 y2) (sifRun_2.l0 (k + 1) y0 y1 y2))
 | 0 => fun _ _ _ r h => by simp [sifRun_2.l0] at h
 | k + 1 => by
  have ih0 := sifRun_2.mono_l k
  ·
   intro y0 y1 y2
   unfold sifRun_2.l0
   repeat' first
   | (with_reducible exact ih0 _ _ _)
   | (with_reducible exact LeO.refl _)
   | (with_reducible exact LeO.none _)
   | (with_reducible refine LeO.ite ?_ ?_)
   | (with_reducible refine LeO.bind ?_ (fun _ => ?_))
   | exact ih0 _ _ _
   | exact LeO.none _
   | refine LeO.ite ?_ ?_
   | refine LeO.bind ?_ (fun _ => ?_)
theorem sifRun_2.mono : ∀ a0 a1 k, LeO (sifRun_2.f k a0 a1) (sifRun_2.f (k + 1) a0 a1) := by
 intro a0 a1 k
 have ih0 := sifRun_2.mono_l k
 unfold sifRun_2.f
 repeat' first
   | exact ih0 _ _ _
   | exact LeO.none _
   | refine LeO.ite ?_ ?_
   | refine LeO.bind ?_ (fun _ => ?_)
set_option maxHeartbeats 8000000 in
set_option maxRecDepth 100000 in
theorem sifRun_2.calls (k : Nat) (A0 : Option Addr) (c0 : Nat) (l0 : List Int) (a1 : Int) (r : Int) (w : World) (hr0 : Kd.C (Kd.int .i64) w A0 l0.length l0) (hc0 : l0.length ≤ c0) (h : sifRun_2.f k l0 a1 = some r) :
  Calls Try.prog 93 #[.slice A0 l0.length c0, .func (.func 71) #[] #[]] w fun e w' => e = .returned (.int .i64 r) ∧ Drawn0 w w' := by
 have HR0 := Aside0.mk hr0
 have HC0 := Aside0.mk hc0
 clear hr0 hc0
 have H : (sifRun_2.l0 k l0 (l0.length : Int) 0) = some r := h
 clear h
 have H' := Aside0.mk H
 clear H
 go_enter Try.func93, Try.ntmps93
 go_wp2
 go_loopg [8] k (fun kq v8 w' => ∃ (x8_1 : Int), v8 = .int .i64 x8_1 ∧ Aside0 (sifRun_2.l0 kq l0 (l0.length : Int) x8_1 = some r) ∧ Aside0 (kq ≤ k) ∧ Drawn0 w w')
 case atStart => exact ⟨(0), rfl, H', ⟨Nat.le_refl _⟩, by repeat (first | exact Drawn0.refl _ | apply Drawn0.step)⟩
 case round =>
  clear H'
  obtain ⟨x8_1, rfl, HA, HK1, ⟨m1, rfl⟩⟩ := hrel
  cases gk with
  | zero => exact absurd HA.out (by simp [sifRun_2.l0])
  | succ k1 =>
   have H := HA.out
   clear HA
   simp only [sifRun_2.l0] at H
   by_cases c3 : x8_1 < (l0.length : Int)
   ·
    rw [if_pos c3] at H
    have c3b0 : decide (x8_1 < (l0.length : Int)) = true := decide_eq_true c3
    clear c3
    by_cases c4 : 0 ≤ x8_1
    ·
     rw [if_pos c4] at H
     have c4b0 : decide (0 ≤ x8_1) = true := decide_eq_true c4
     clear c4
     by_cases c5 : x8_1 < (l0.length : Int)
     ·
      rw [if_pos c5] at H
      have c5b0 : decide (x8_1 < (l0.length : Int)) = true := decide_eq_true c5
      clear c5
      replace H := Option.bind_eq_some_iff.mp H
      obtain ⟨t768, A60, H⟩ := H
      replace H : (if t768 = true then (some x8_1) else (sifRun_2.l0 k1 l0 (l0.length : Int) (wrap64 (x8_1 + 1)))) = some r := H
      have A6 := Aside0.mk A60
      clear A60
      by_cases c7 : t768 = true
      ·
       subst c7
       have H1 : (some x8_1) = some r := by rw [if_pos rfl] at H; exact H
       clear H
       have H := H1
       clear H1
       obtain rfl := Option.some.inj H
       have p767 : 0 ≤ (x8_1 : Int) := of_decide_eq_true (by assumption)
       have q767 : x8_1 < (l0.length : Int) := of_decide_eq_true (by assumption)
       obtain ⟨ad767, e767, hx767_0⟩ := Kd.at_int HR0.out x8_1 p767 q767
       cases e767
       replace p767 := eq_true p767
       replace q767 := eq_true q767
       go_wp2_with (first | (go_at_call 71; (with_reducible refine (line_Run_2.calls (rd l0 x8_1) true _ A6.out).mono ?_); rintro e w' ⟨rfl, ⟨nd, rfl⟩⟩))
       go_ret
       exact ⟨by first | rfl | (simp; done) | (simp [*]; done), by repeat (first | exact Drawn0.refl _ | apply Drawn0.step)⟩
      ·
       replace c7 := Bool.eq_false_iff.mpr c7
       subst c7
       have H1 : (sifRun_2.l0 k1 l0 (l0.length : Int) (wrap64 (x8_1 + 1))) = some r := by rw [if_neg (show ¬ (false = true) by decide)] at H; exact H
       clear H
       have H := H1
       clear H1
       have H' := Aside0.mk H
       clear H
       have p767 : 0 ≤ (x8_1 : Int) := of_decide_eq_true (by assumption)
       have q767 : x8_1 < (l0.length : Int) := of_decide_eq_true (by assumption)
       obtain ⟨ad767, e767, hx767_0⟩ := Kd.at_int HR0.out x8_1 p767 q767
       cases e767
       replace p767 := eq_true p767
       replace q767 := eq_true q767
       go_wp2_with (first | (go_at_call 71; (with_reducible refine (line_Run_2.calls (rd l0 x8_1) false _ A6.out).mono ?_); rintro e w' ⟨rfl, ⟨nd, rfl⟩⟩))
       go_roundg k1
       case measure => have := HK1.out; omega
       case rel => exact ⟨(wrap64 (x8_1 + 1)), rfl, H', ⟨by have := HK1.out; omega⟩, by repeat (first | exact Drawn0.refl _ | apply Drawn0.step)⟩
     ·
      rw [if_neg c5] at H
      exact absurd H (by simp)
    ·
     rw [if_neg c4] at H
     exact absurd H (by simp)
   ·
    rw [if_neg c3] at H
    have c3b0 : decide (x8_1 < (l0.length : Int)) = false := decide_eq_false c3
    clear c3
    obtain rfl := Option.some.inj H
    go_wp2
    go_ret
    exact ⟨by first | rfl | (simp; done) | (simp [*]; done), by repeat (first | exact Drawn0.refl _ | apply Drawn0.step)⟩

def scfRun_2.f (k : Nat) (l0 : List Int) (a1 : Int) : Option (Bool) := (sifRun_2.f k l0 a1).bind fun t769 => (some (decide (t769 ≥ 0)))
theorem scfRun_2.mono : ∀ a0 a1 k, LeO (scfRun_2.f k a0 a1) (scfRun_2.f (k + 1) a0 a1) := by
 intro a0 a1 k
 unfold scfRun_2.f
 repeat' first
   | (with_reducible exact sifRun_2.mono _ _ _)
   | (with_reducible exact LeO.refl _)
   | (with_reducible exact LeO.none _)
   | (with_reducible refine LeO.ite ?_ ?_)
   | (with_reducible refine LeO.bind ?_ (fun _ => ?_))
   | exact sifRun_2.mono _ _ _
   | exact LeO.none _
   | refine LeO.ite ?_ ?_
   | refine LeO.bind ?_ (fun _ => ?_)
set_option maxHeartbeats 8000000 in
set_option maxRecDepth 100000 in
theorem scfRun_2.calls (k : Nat) (A0 : Option Addr) (c0 : Nat) (l0 : List Int) (a1 : Int) (r : Bool) (w : World) (hr0 : Kd.C (Kd.int .i64) w A0 l0.length l0) (hc0 : l0.length ≤ c0) (h : scfRun_2.f k l0 a1 = some r) :
  Calls Try.prog 68 #[.slice A0 l0.length c0, .func (.func 71) #[] #[]] w fun e w' => e = .returned (.bool r) ∧ Drawn0 w w' := by
 have HR0 := Aside0.mk hr0
 have HC0 := Aside0.mk hc0
 clear hr0 hc0
 have H : ((sifRun_2.f k l0 a1).bind fun t769 => (some (decide (t769 ≥ 0)))) = some r := h
 clear h
 replace H := Option.bind_eq_some_iff.mp H
 obtain ⟨t769, A30, H⟩ := H
 replace H : (some (decide (t769 ≥ 0))) = some r := H
 have A3 := Aside0.mk A30
 clear A30
 obtain rfl := Option.some.inj H
 go_enter Try.func68, Try.ntmps68
 go_wp2_with (first | ((with_reducible refine gate_callee (f := 93) rfl ?_); refine goesL_ (some 7) rfl rfl Try.func93 (by kernel_rfl) rfl #[.slice A0 l0.length c0, .func (.func 71) #[] #[]] rfl (by (try simp only [List.map_toArray, List.map_cons, List.map_nil]); first | done | rfl | (simp only [List.length_drop, List.length_take]; rfl)) ?_; (with_reducible refine (sifRun_2.calls k _ _ l0 a1 t769 _ ?side1 ?side2 A3.out).mono ?_); (case side1 => repeat (first | exact HR0.out)); (case side2 => exact HC0.out); rintro e w' ⟨rfl, ⟨nd, rfl⟩⟩; refine ⟨_, rfl, ?_⟩))
 go_ret
 exact ⟨by first | rfl | (simp; done) | (simp [*]; done), by repeat (first | exact Drawn0.refl _ | apply Drawn0.step)⟩

def line_Run.j0 : Nat → List Int → Int → List (List Int) → Bool → Option (List Int × Int)
 | 0, _, _, _, _ => none
 | k + 1, x1, x2, x8, x33 => if x33 = true then (some (([] : List Int), 2)) else ((lgpower.f k x8 x2).bind fun t776 => ((lgon.f k t776 x1).bind fun t779 => ((scfRun_2.f k t779 0).bind fun t782 => (if t782 = true then (some (([] : List Int), 4)) else (some (t779, 0))))))
def line_Run.f (k : Nat) (l0 : List (List Int)) (l1 : List Int) (a2 : Int) : Option (List Int × Int) := (line_of.f k l0).bind fun bt770 => (if bt770.2 = true then ((line_steps.f a2).bind fun t774 => (if t774 = true then (if (l1.length : Int) = (l0.length : Int) then ((scfRun_1.f k l1 0).bind fun t775 => (line_Run.j0 k l1 a2 bt770.1 t775)) else (line_Run.j0 k l1 a2 bt770.1 true)) else (line_Run.j0 k l1 a2 bt770.1 true))) else (line_Run.j0 k l1 a2 bt770.1 true))
theorem line_Run.mono_l : ∀ k, (∀ y0 y1 y2 y3, LeO (line_Run.j0 k y0 y1 y2 y3) (line_Run.j0 (k + 1) y0 y1 y2 y3))
 | 0 => fun _ _ _ _ r h => by simp [line_Run.j0] at h
 | k + 1 => by
  have ih0 := line_Run.mono_l k
  ·
   intro y0 y1 y2 y3
   unfold line_Run.j0
   repeat' first
   | (with_reducible exact LeO.refl _)
   | (with_reducible exact LeO.none _)
   | (with_reducible refine LeO.ite ?_ ?_)
   | (with_reducible refine LeO.bind ?_ (fun _ => ?_))
   | exact ih0 _ _ _ _
   | exact lgon.mono _ _ _
   | exact lgpower.mono _ _ _
   | exact line_of.mono _ _
   | exact scfRun_1.mono _ _ _
   | exact scfRun_2.mono _ _ _
   | exact LeO.none _
   | refine LeO.ite ?_ ?_
   | refine LeO.bind ?_ (fun _ => ?_)
theorem line_Run.mono : ∀ a0 a1 a2 k, LeO (line_Run.f k a0 a1 a2) (line_Run.f (k + 1) a0 a1 a2) := by
 intro a0 a1 a2 k
 have ih0 := line_Run.mono_l k
 unfold line_Run.f
 repeat' first
   | (with_reducible exact LeO.refl _)
   | (with_reducible exact LeO.none _)
   | (with_reducible refine LeO.ite ?_ ?_)
   | (with_reducible refine LeO.bind ?_ (fun _ => ?_))
   | exact ih0 _ _ _ _
   | exact lgon.mono _ _ _
   | exact lgpower.mono _ _ _
   | exact line_of.mono _ _
   | exact scfRun_1.mono _ _ _
   | exact scfRun_2.mono _ _ _
   | exact LeO.none _
   | refine LeO.ite ?_ ?_
   | refine LeO.bind ?_ (fun _ => ?_)
set_option maxHeartbeats 8000000 in
set_option maxRecDepth 100000 in
theorem line_Run.calls (k : Nat) (A0 : Option Addr) (c0 : Nat) (l0 : List (List Int)) (A1 : Option Addr) (c1 : Nat) (l1 : List Int) (a2 : Int) (r1 : List Int) (r2 : Int) (w : World) (hr0 : Kd.C (Kd.slice 3 (Kd.int .i64)) w A0 l0.length l0) (hc0 : l0.length ≤ c0) (hr1 : Kd.C (Kd.int .i64) w A1 l1.length l1) (hc1 : l1.length ≤ c1) (h : line_Run.f k l0 l1 a2 = some (r1, r2)) :
  Calls Try.prog 27 #[.slice A0 l0.length c0, .slice A1 l1.length c1, .int .i64 a2] w fun e w' => ∃ v0_ : Value, e = .returned (.tuple #[v0_, .int .i64 r2]) ∧ Kd.R (Kd.int .i64) 3 w' w.heap.size (fun _ => True) v0_ r1 ∧ Below w.heap.size w w' := by
 have HR0 := Aside0.mk hr0
 have HC0 := Aside0.mk hc0
 clear hr0 hc0
 have HR1 := Aside0.mk hr1
 have HC1 := Aside0.mk hc1
 clear hr1 hc1
 have HB := Aside0.mk (Below.refl w.heap.size w)
 have H : ((line_of.f k l0).bind fun bt770 => (if bt770.2 = true then ((line_steps.f a2).bind fun t774 => (if t774 = true then (if (l1.length : Int) = (l0.length : Int) then ((scfRun_1.f k l1 0).bind fun t775 => (line_Run.j0 k l1 a2 bt770.1 t775)) else (line_Run.j0 k l1 a2 bt770.1 true)) else (line_Run.j0 k l1 a2 bt770.1 true))) else (line_Run.j0 k l1 a2 bt770.1 true))) = some (r1, r2) := h
 clear h
 replace H := Option.bind_eq_some_iff.mp H
 obtain ⟨⟨t770, t773⟩, A40, H⟩ := H
 replace H : (if t773 = true then ((line_steps.f a2).bind fun t774 => (if t774 = true then (if (l1.length : Int) = (l0.length : Int) then ((scfRun_1.f k l1 0).bind fun t775 => (line_Run.j0 k l1 a2 t770 t775)) else (line_Run.j0 k l1 a2 t770 true)) else (line_Run.j0 k l1 a2 t770 true))) else (line_Run.j0 k l1 a2 t770 true)) = some (r1, r2) := H
 have A4 := Aside0.mk A40
 clear A40
 have HC5 := Aside0.mk H
 clear H
 go_enter Try.func27, Try.ntmps27
 go_upto_region 2 with (first | ((with_reducible refine gate_callee (f := 64) rfl ?_); refine goesL_ (some 13) rfl rfl Try.func64 (by kernel_rfl) rfl #[.slice A0 l0.length c0] rfl (by (try simp only [List.map_toArray, List.map_cons, List.map_nil]); rfl) ?_; (with_reducible refine (line_of.calls k (fun k_ => k_ < w.heap.size) _ _ l0 t770 t773 _ ?side1 A4.out).mono ?_); (case side1 => exact Kd.V_mk HC0.out (Kd.F_below (Kd.C_F (Kd.heap_slice 3 (Kd.heap_int .i64)) HR0.out) (HB.out))); rintro e w6 ⟨v771, rfl, ho0, hb⟩; refine ⟨_, rfl, ?_⟩; have n0_ := Aside0.mk (Kd.V_lower (Kd.V_mono (ok' := fun k_ => True) ho0 (fun k_ hk_ => trivial)) (below_size (HB.out))); have n1_ := Aside0.mk (below_step (HB.out) hb); clear HB; have HO772 := n0_; have HB := n1_; clear n0_ n1_))
 go_cut [33] (fun v33 wc => ∃ (kq : Nat) (x33_4 : Bool), v33 = .bool x33_4 ∧ Aside0 (line_Run.j0 kq l1 a2 t770 x33_4 = some (r1, r2)) ∧ Aside0 (kq ≤ k) ∧ Aside0 (Kd.V (Kd.slice 3 (Kd.int .i64)) 26 wc w.heap.size (fun _ => True) v771 t770) ∧ Aside0 (Below w.heap.size w wc))
 case first =>
  have H := HC5.out
  clear HC5
  by_cases c7 : t773 = true
  ·
   subst c7
   have H1 : ((line_steps.f a2).bind fun t774 => (if t774 = true then (if (l1.length : Int) = (l0.length : Int) then ((scfRun_1.f k l1 0).bind fun t775 => (line_Run.j0 k l1 a2 t770 t775)) else (line_Run.j0 k l1 a2 t770 true)) else (line_Run.j0 k l1 a2 t770 true))) = some (r1, r2) := by rw [if_pos rfl] at H; exact H
   clear H
   have H := H1
   clear H1
   replace H := Option.bind_eq_some_iff.mp H
   obtain ⟨t774, A80, H⟩ := H
   replace H : (if t774 = true then (if (l1.length : Int) = (l0.length : Int) then ((scfRun_1.f k l1 0).bind fun t775 => (line_Run.j0 k l1 a2 t770 t775)) else (line_Run.j0 k l1 a2 t770 true)) else (line_Run.j0 k l1 a2 t770 true)) = some (r1, r2) := H
   have A8 := Aside0.mk A80
   clear A80
   by_cases c9 : t774 = true
   ·
    subst c9
    have H1 : (if (l1.length : Int) = (l0.length : Int) then ((scfRun_1.f k l1 0).bind fun t775 => (line_Run.j0 k l1 a2 t770 t775)) else (line_Run.j0 k l1 a2 t770 true)) = some (r1, r2) := by rw [if_pos rfl] at H; exact H
    clear H
    have H := H1
    clear H1
    by_cases c10 : (l1.length : Int) = (l0.length : Int)
    ·
     rw [if_pos c10] at H
     have c10b0 : ((l1.length : Int) == (l0.length : Int)) = true := beq_iff_eq.mpr c10
     have c10b1 : ((l1.length : Int) != (l0.length : Int)) = false := bne_eq_false_iff_eq.mpr c10
     have c10b2 : (l1.length == l0.length) = true := by first | simpa using c10 | (simp at c10 ⊢; omega)
     clear c10
     (first | rw [c10b0] | (simp only [i64_w, i32_w]; rw [c10b0]) | skip)
     replace H := Option.bind_eq_some_iff.mp H
     obtain ⟨t775, A110, H⟩ := H
     replace H : (line_Run.j0 k l1 a2 t770 t775) = some (r1, r2) := H
     have A11 := Aside0.mk A110
     clear A110
     have H' := Aside0.mk H
     clear H
     go_wp2_with (first | (go_at_call 67; (with_reducible refine (line_steps.calls a2 true _ A8.out).mono ?_); rintro e w' ⟨rfl, ⟨nd, rfl⟩⟩) | (go_at_call 68; (with_reducible refine (scfRun_1.calls k _ _ l1 0 t775 _ ?side1 ?side2 A11.out).mono ?_); (case side1 => repeat (first | exact (Kd.C_below HR1.out (by repeat (first | exact HB.out | apply below_alloc | apply pw_below_drewN | apply below_drew1))))); (case side2 => exact HC1.out); rintro e w' ⟨rfl, ⟨nd, rfl⟩⟩))
     go_meet
     case rel => exact ⟨_, (t775), rfl, H', ⟨by first | omega | exact Nat.le_refl _⟩, ⟨by exact HO772.out⟩, ⟨by repeat (first | exact HB.out | apply below_alloc | apply pw_below_drewN | apply below_drew1)⟩⟩
    ·
     rw [if_neg c10] at H
     have c10b0 : ((l1.length : Int) == (l0.length : Int)) = false := beq_eq_false_iff_ne.mpr c10
     have c10b2 : (l1.length == l0.length) = false := by first | simpa using c10 | (simp at c10 ⊢; omega)
     (first | rw [c10b0] | skip)
     have H' := Aside0.mk H
     clear H
     go_wp2_with (first | (go_at_call 67; (with_reducible refine (line_steps.calls a2 true _ A8.out).mono ?_); rintro e w' ⟨rfl, ⟨nd, rfl⟩⟩))
     go_meet
     case rel => exact ⟨_, (true), rfl, H', ⟨by first | omega | exact Nat.le_refl _⟩, ⟨by exact HO772.out⟩, ⟨by repeat (first | exact HB.out | apply below_alloc | apply pw_below_drewN | apply below_drew1)⟩⟩
   ·
    replace c9 := Bool.eq_false_iff.mpr c9
    subst c9
    have H1 : (line_Run.j0 k l1 a2 t770 true) = some (r1, r2) := by rw [if_neg (show ¬ (false = true) by decide)] at H; exact H
    clear H
    have H := H1
    clear H1
    have H' := Aside0.mk H
    clear H
    go_wp2_with (first | (go_at_call 67; (with_reducible refine (line_steps.calls a2 false _ A8.out).mono ?_); rintro e w' ⟨rfl, ⟨nd, rfl⟩⟩))
    go_meet
    case rel => exact ⟨_, (true), rfl, H', ⟨by first | omega | exact Nat.le_refl _⟩, ⟨by exact HO772.out⟩, ⟨by repeat (first | exact HB.out | apply below_alloc | apply pw_below_drewN | apply below_drew1)⟩⟩
  ·
   replace c7 := Bool.eq_false_iff.mpr c7
   subst c7
   have H1 : (line_Run.j0 k l1 a2 t770 true) = some (r1, r2) := by rw [if_neg (show ¬ (false = true) by decide)] at H; exact H
   clear H
   have H := H1
   clear H1
   have H' := Aside0.mk H
   clear H
   go_wp2
   go_meet
   case rel => exact ⟨_, (true), rfl, H', ⟨by first | omega | exact Nat.le_refl _⟩, ⟨by exact HO772.out⟩, ⟨HB.out⟩⟩
 case rest =>
  clear HC5
  obtain ⟨kq, x33_4, rfl, HA, HJ4, HO_8, HB⟩ := hcut
  cases kq with
  | zero => exact absurd HA.out (by simp [line_Run.j0])
  | succ kj4 =>
   have H := HA.out
   clear HA
   simp only [line_Run.j0] at H
   by_cases c12 : x33_4 = true
   ·
    subst c12
    have H1 : (some (([] : List Int), 2)) = some (r1, r2) := by rw [if_pos rfl] at H; exact H
    clear H
    have H := H1
    clear H1
    simp only [Option.some.injEq, Prod.mk.injEq] at H
    obtain ⟨rfl, rfl⟩ := H
    go_wp2
    go_ret2
    exact ⟨_, rfl, by first | exact Kd.R_nil _ _ _ _ _ | exact Kd.N_nil _ _ _ _ _ | exact Kd.V_nil _ _ _ _ _ | exact Kd.Q_nil _ _ _ _ _ | exact Kd.S_nil _ _ _ _ _, HB.out⟩
   ·
    replace c12 := Bool.eq_false_iff.mpr c12
    subst c12
    have H1 : ((lgpower.f kj4 t770 a2).bind fun t776 => ((lgon.f kj4 t776 l1).bind fun t779 => ((scfRun_2.f kj4 t779 0).bind fun t782 => (if t782 = true then (some (([] : List Int), 4)) else (some (t779, 0)))))) = some (r1, r2) := by rw [if_neg (show ¬ (false = true) by decide)] at H; exact H
    clear H
    have H := H1
    clear H1
    replace H := Option.bind_eq_some_iff.mp H
    obtain ⟨t776, A130, H⟩ := H
    replace H : ((lgon.f kj4 t776 l1).bind fun t779 => ((scfRun_2.f kj4 t779 0).bind fun t782 => (if t782 = true then (some (([] : List Int), 4)) else (some (t779, 0))))) = some (r1, r2) := H
    have A13 := Aside0.mk A130
    clear A130
    replace H := Option.bind_eq_some_iff.mp H
    obtain ⟨t779, A140, H⟩ := H
    replace H : ((scfRun_2.f kj4 t779 0).bind fun t782 => (if t782 = true then (some (([] : List Int), 4)) else (some (t779, 0)))) = some (r1, r2) := H
    have A14 := Aside0.mk A140
    clear A140
    replace H := Option.bind_eq_some_iff.mp H
    obtain ⟨t782, A150, H⟩ := H
    replace H : (if t782 = true then (some (([] : List Int), 4)) else (some (t779, 0))) = some (r1, r2) := H
    have A15 := Aside0.mk A150
    clear A150
    by_cases c16 : t782 = true
    ·
     subst c16
     have H1 : (some (([] : List Int), 4)) = some (r1, r2) := by rw [if_pos rfl] at H; exact H
     clear H
     have H := H1
     clear H1
     simp only [Option.some.injEq, Prod.mk.injEq] at H
     obtain ⟨rfl, rfl⟩ := H
     obtain ⟨Ao17, co17, eo17⟩ := Kd.V_slice HO_8.out
     subst eo17
     go_wp2_with (first | ((with_reducible refine gate_callee (f := 56) rfl ?_); refine goesL_ (some 36) rfl rfl Try.func56 (by kernel_rfl) rfl #[.slice Ao17 t770.length co17, .int .i64 a2] rfl (by (try simp only [List.map_toArray, List.map_cons, List.map_nil]); rfl) ?_; (with_reducible refine (lgpower.calls kj4 (fun k_ => True) _ _ t770 a2 t776 _ ?side1 A13.out).mono ?_); (case side1 => exact HO_8.out); rintro e w18 ⟨v777, rfl, ho0, hb⟩; refine ⟨_, rfl, ?_⟩; have n0_ := Aside0.mk (Kd.V_elder' (by exact HO_8.out) (Kd.S_base ho0) hb); have n1_ := Aside0.mk (Kd.S_lower (Kd.S_mono (ok' := fun k_ => True) ho0 (fun _ hk_ => trivial)) (below_size (HB.out))); have n2_ := Aside0.mk (below_step (HB.out) hb); clear HO_8; clear HB; have HO_8 := n0_; have HO778 := n1_; have HB := n2_; clear n0_ n1_ n2_; obtain ⟨Ao19, co19, eo19⟩ := Kd.S_slice HO778.out; subst eo19) | ((with_reducible refine gate_callee (f := 70) rfl ?_); refine goesL_ (some 38) rfl rfl Try.func70 (by kernel_rfl) rfl #[.slice Ao19 t776.length co19, .slice A1 l1.length c1] rfl (by (try simp only [List.map_toArray, List.map_cons, List.map_nil]); rfl) ?_; (with_reducible refine (lgon.calls kj4 _ _ t776 _ _ l1 t779 _ ?side1 ?side2 ?side3 ?side4 A14.out).mono ?_); (case side1 => repeat (first | exact (Kd.S_reads' HO778.out).2.2)); (case side2 => exact (Kd.S_reads' HO778.out).2.1); (case side3 => repeat (first | exact (Kd.C_below HR1.out HB.out))); (case side4 => exact HC1.out); rintro e w20 ⟨v780, rfl, ho0, hb⟩; refine ⟨_, rfl, ?_⟩; have n0_ := Aside0.mk (Kd.V_elder' (by exact HO_8.out) (Kd.R_base ho0) hb); have n1_ := Aside0.mk (Kd.S_elder' (by exact HO778.out) (Kd.R_base ho0) hb); have n2_ := Aside0.mk (Kd.R_lower ho0 (below_size (HB.out))); have n3_ := Aside0.mk (below_step (HB.out) hb); clear HO_8; clear HO778; clear HB; have HO_8 := n0_; have HO778 := n1_; have HO781 := n2_; have HB := n3_; clear n0_ n1_ n2_ n3_; obtain ⟨Ao21, co21, eo21⟩ := Kd.R_slice HO781.out; subst eo21) | ((with_reducible refine gate_callee (f := 68) rfl ?_); refine goesL_ (some 40) rfl rfl Try.func68 (by kernel_rfl) rfl #[.slice Ao21 t779.length co21, .func (.func 71) #[] #[]] rfl (by (try simp only [List.map_toArray, List.map_cons, List.map_nil]); rfl) ?_; (with_reducible refine (scfRun_2.calls kj4 _ _ t779 0 true _ ?side1 ?side2 A15.out).mono ?_); (case side1 => repeat (first | exact (Kd.R_reads' HO781.out).2.2)); (case side2 => exact (Kd.R_reads' HO781.out).2.1); rintro e w' ⟨rfl, ⟨nd, rfl⟩⟩; refine ⟨_, rfl, ?_⟩))
     go_ret2
     exact ⟨_, rfl, by first | exact Kd.R_nil _ _ _ _ _ | exact Kd.N_nil _ _ _ _ _ | exact Kd.V_nil _ _ _ _ _ | exact Kd.Q_nil _ _ _ _ _ | exact Kd.S_nil _ _ _ _ _, by repeat (first | exact HB.out | apply below_alloc | apply pw_below_drewN | apply below_drew1)⟩
    ·
     replace c16 := Bool.eq_false_iff.mpr c16
     subst c16
     have H1 : (some (t779, 0)) = some (r1, r2) := by rw [if_neg (show ¬ (false = true) by decide)] at H; exact H
     clear H
     have H := H1
     clear H1
     simp only [Option.some.injEq, Prod.mk.injEq] at H
     obtain ⟨rfl, rfl⟩ := H
     obtain ⟨Ao22, co22, eo22⟩ := Kd.V_slice HO_8.out
     subst eo22
     go_wp2_with (first | ((with_reducible refine gate_callee (f := 56) rfl ?_); refine goesL_ (some 36) rfl rfl Try.func56 (by kernel_rfl) rfl #[.slice Ao22 t770.length co22, .int .i64 a2] rfl (by (try simp only [List.map_toArray, List.map_cons, List.map_nil]); rfl) ?_; (with_reducible refine (lgpower.calls kj4 (fun k_ => True) _ _ t770 a2 t776 _ ?side1 A13.out).mono ?_); (case side1 => exact HO_8.out); rintro e w23 ⟨v777, rfl, ho0, hb⟩; refine ⟨_, rfl, ?_⟩; have n0_ := Aside0.mk (Kd.V_elder' (by exact HO_8.out) (Kd.S_base ho0) hb); have n1_ := Aside0.mk (Kd.S_lower (Kd.S_mono (ok' := fun k_ => True) ho0 (fun _ hk_ => trivial)) (below_size (HB.out))); have n2_ := Aside0.mk (below_step (HB.out) hb); clear HO_8; clear HB; have HO_8 := n0_; have HO778 := n1_; have HB := n2_; clear n0_ n1_ n2_; obtain ⟨Ao24, co24, eo24⟩ := Kd.S_slice HO778.out; subst eo24) | ((with_reducible refine gate_callee (f := 70) rfl ?_); refine goesL_ (some 38) rfl rfl Try.func70 (by kernel_rfl) rfl #[.slice Ao24 t776.length co24, .slice A1 l1.length c1] rfl (by (try simp only [List.map_toArray, List.map_cons, List.map_nil]); rfl) ?_; (with_reducible refine (lgon.calls kj4 _ _ t776 _ _ l1 t779 _ ?side1 ?side2 ?side3 ?side4 A14.out).mono ?_); (case side1 => repeat (first | exact (Kd.S_reads' HO778.out).2.2)); (case side2 => exact (Kd.S_reads' HO778.out).2.1); (case side3 => repeat (first | exact (Kd.C_below HR1.out HB.out))); (case side4 => exact HC1.out); rintro e w25 ⟨v780, rfl, ho0, hb⟩; refine ⟨_, rfl, ?_⟩; have n0_ := Aside0.mk (Kd.V_elder' (by exact HO_8.out) (Kd.R_base ho0) hb); have n1_ := Aside0.mk (Kd.S_elder' (by exact HO778.out) (Kd.R_base ho0) hb); have n2_ := Aside0.mk (Kd.R_lower ho0 (below_size (HB.out))); have n3_ := Aside0.mk (below_step (HB.out) hb); clear HO_8; clear HO778; clear HB; have HO_8 := n0_; have HO778 := n1_; have HO781 := n2_; have HB := n3_; clear n0_ n1_ n2_ n3_; obtain ⟨Ao26, co26, eo26⟩ := Kd.R_slice HO781.out; subst eo26) | ((with_reducible refine gate_callee (f := 68) rfl ?_); refine goesL_ (some 40) rfl rfl Try.func68 (by kernel_rfl) rfl #[.slice Ao26 t779.length co26, .func (.func 71) #[] #[]] rfl (by (try simp only [List.map_toArray, List.map_cons, List.map_nil]); rfl) ?_; (with_reducible refine (scfRun_2.calls kj4 _ _ t779 0 false _ ?side1 ?side2 A15.out).mono ?_); (case side1 => repeat (first | exact (Kd.R_reads' HO781.out).2.2)); (case side2 => exact (Kd.R_reads' HO781.out).2.1); rintro e w' ⟨rfl, ⟨nd, rfl⟩⟩; refine ⟨_, rfl, ?_⟩))
     go_ret2
     exact ⟨_, rfl, by (with_reducible repeat (first | apply Kd.R_alloc | apply Kd.R_drewN | apply Kd.R_drew)); exact HO781.out, by repeat (first | exact HB.out | apply below_alloc | apply pw_below_drewN | apply below_drew1)⟩
end Go.Proofs.Ythjmfbmffchicaa.V
