/- Walks of functions that the law LineRepeats reaches: each theorem '.calls' says that the call comes to what its printed plain function says, under the conditions that stand in it. -/
import Derived.Test.YthjmfbmffchicaaProg
import Derived.Below
import Derived.Deep.Draws
import Derived.Deep.AppendLies
import Derived.Maps.AppendAt
import Derived.OwnWalk
import Derived.Laws.BytesArg
import Derived.Laws.MakeOwn
import Derived.Laws.OwnMore
import Derived.Deep.OwnRows
import Derived.Tactics
import Derived.Lib.ConvBytes
import Derived.Laws.Slices
import Derived.WalkKit
import Derived.KernelRfl
import Derived.RowKit3
import Derived.Deep.LoopGhost
import Derived.Deep.QuietTactic
import Derived.BigQuiet
import Derived.WideLaws
import Derived.Deep.DeepCutAuto
import Derived.Deep.CutBlock
import Derived.Deep.RegionHeld3
import Derived.Laws.Rows
import Derived.Lib.AppendStr
import Derived.ArgAppend
import Derived.Laws.IdiomCopy
import Derived.OrdersHeld
import Derived.Laws.BitsLemmas
import Derived.RowKit
import Derived.Test.YthjmfbmffchicaaKRAid
import Derived.Test.YthjmfbmffchicaaKRWWords
import Derived.Test.YthjmfbmffchicaaKRWLast
import Derived.Test.YthjmfbmffchicaaKRWTab
import Derived.Test.YthjmfbmffchicaaKRWFour
import Derived.Test.YthjmfbmffchicaaKRWQPut
import Derived.Test.YthjmfbmffchicaaKRWApart
import Derived.Test.YthjmfbmffchicaaKRWArr
import Derived.Test.YthjmfbmffchicaaKRWZeros
import Derived.Test.YthjmfbmffchicaaKRWFoot
import Derived.Test.YthjmfbmffchicaaKRWKept
import Derived.Test.YthjmfbmffchicaaKRWShare
import Derived.Test.YthjmfbmffchicaaKRWN
import Derived.Test.YthjmfbmffchicaaKRWFootNe
import Derived.Test.YthjmfbmffchicaaKRWAt
import Derived.Test.YthjmfbmffchicaaKRWEqStruct
import Derived.Test.YthjmfbmffchicaaKRWRepsOne
import Derived.Test.YthjmfbmffchicaaKRWInv
import Derived.Test.YthjmfbmffchicaaKRWInvWords
import Derived.Test.YthjmfbmffchicaaKRWGuard
import Derived.Test.YthjmfbmffchicaaKRWNEv
import Derived.Test.YthjmfbmffchicaaKRWMore
import Derived.Test.YthjmfbmffchicaaKRf0
import Derived.Test.YthjmfbmffchicaaKRf1
import Derived.Test.YthjmfbmffchicaaKRf2
namespace Go.Proofs.Ythjmfbmffchicaa.V
open Go.RowKit Go.Proofs.YthjmfbmffchicaaW.PrintWords Go.Proofs.YthjmfbmffchicaaW.PrintLast Go.Proofs.YthjmfbmffchicaaW.PrintMore
attribute [local go_sem] max2_int min2_int max_two min_two max_three min_three max_four min_four
set_option linter.unusedVariables false
set_option linter.unusedSimpArgs false
def line_looked.f (k : Nat) (l0 : List (List Int)) : Option ((List (List Int)) × Int × Int × (List (List Int)) × (List (List Int)) × Int) := (line_of.f k l0).bind fun bt204 => (if bt204.2 = true then ((lgpace.f k bt204.1).bind fun bt208 => (if bt208.2.2 = true then ((lgslack.f k bt204.1 bt208.1 bt208.2.1).bind fun t212 => ((lgclosed.f k t212).bind fun t215 => (some (bt204.1, bt208.1, bt208.2.1, t212, t215, 0)))) else (some (([] : List (List Int)), 0, 0, ([] : List (List Int)), ([] : List (List Int)), 10)))) else (some (([] : List (List Int)), 0, 0, ([] : List (List Int)), ([] : List (List Int)), 2)))
theorem line_looked.mono : ∀ a0 k, LeO (line_looked.f k a0) (line_looked.f (k + 1) a0) := by
 intro a0 k
 unfold line_looked.f
 repeat' first
   | (with_reducible exact LeO.refl _)
   | (with_reducible exact LeO.none _)
   | (with_reducible refine LeO.ite ?_ ?_)
   | (with_reducible refine LeO.bind ?_ (fun _ => ?_))
   | exact lgclosed.mono _ _
   | exact lgpace.mono _ _
   | exact lgslack.mono _ _ _ _
   | exact line_of.mono _ _
   | exact LeO.none _
   | refine LeO.ite ?_ ?_
   | refine LeO.bind ?_ (fun _ => ?_)
def line_looked.T8 : Bool × List (List Nat × List Nat) := (true, [([], []), ([], []), ([], []), ([], []), ([3], [3]), ([0, 1, 2, 4], [0, 1, 2, 4]), ([5, 4, 0, 1, 2, 3, 4, 5], [5]), ([6, 0, 1, 2, 3, 4, 5, 6], [])])
def line_looked.B8 : List Nat := [0, 0, 0, 0, 8, 31, 63, 127]
theorem line_looked.tab8 : rtab .any (opsOf Try.f45 8) = line_looked.T8 := by kernel_rfl
theorem line_looked.bits8 : waitsOk line_looked.T8.2 line_looked.B8 = true := by kernel_rfl
set_option maxHeartbeats 8000000 in
set_option maxRecDepth 100000 in
theorem line_looked.calls (k : Nat) (P0_ : Nat → Prop) (A0 : Option Addr) (c0 : Nat) (l0 : List (List Int)) (r1 : List (List Int)) (r2 : Int) (r3 : Int) (r4 : List (List Int)) (r5 : List (List Int)) (r6 : Int) (w : World) (hs0 : Kd.V (Kd.slice 3 (Kd.int .i64)) 26 w w.heap.size (fun k_ => P0_ k_) (.slice A0 l0.length c0) l0) (h : line_looked.f k l0 = some (r1, r2, r3, r4, r5, r6)) :
  Calls Try.prog 45 #[.slice A0 l0.length c0] w fun e w' => ∃ v0_ v3_ v4_ : Value, e = .returned (.tuple #[.agg #[v0_, .int .i64 r2, .int .i64 r3, v3_, v4_], .int .i64 r6]) ∧ Kd.V (Kd.slice 3 (Kd.int .i64)) 26 w' w.heap.size (fun k_ => (P0_ k_ ∨ w.heap.size ≤ k_) ∧ some k_ ≠ (v3_ : Value).ownBlock ∧ some k_ ≠ (v4_ : Value).ownBlock) v0_ r1 ∧ Kd.S (Kd.slice 3 (Kd.int .i64)) 26 w' w.heap.size (fun k_ => (w.heap.size ≤ k_) ∧ some k_ ≠ (v4_ : Value).ownBlock) v3_ r4 ∧ Kd.S (Kd.slice 3 (Kd.int .i64)) 26 w' w.heap.size (fun k_ => (w.heap.size ≤ k_) ∧ some k_ ≠ (v3_ : Value).ownBlock) v4_ r5 ∧ Below w.heap.size w w' := by
 have hu58 := Try.underlying58
 have hu37 := Try.underlying37
 have HO0 := Aside0.mk (show Kd.V (Kd.slice 3 (Kd.int .i64)) 26 w w.heap.size (fun k_ => (P0_ k_ ∨ w.heap.size ≤ k_)) (.slice A0 l0.length c0) l0 from Kd.V_mono hs0 (fun k_ hk => .inl hk))
 have HB := Aside0.mk (Below.refl w.heap.size w)
 have H : ((line_of.f k l0).bind fun bt204 => (if bt204.2 = true then ((lgpace.f k bt204.1).bind fun bt208 => (if bt208.2.2 = true then ((lgslack.f k bt204.1 bt208.1 bt208.2.1).bind fun t212 => ((lgclosed.f k t212).bind fun t215 => (some (bt204.1, bt208.1, bt208.2.1, t212, t215, 0)))) else (some (([] : List (List Int)), 0, 0, ([] : List (List Int)), ([] : List (List Int)), 10)))) else (some (([] : List (List Int)), 0, 0, ([] : List (List Int)), ([] : List (List Int)), 2)))) = some (r1, r2, r3, r4, r5, r6) := h
 clear h
 replace H := Option.bind_eq_some_iff.mp H
 obtain ⟨⟨t204, t207⟩, A20, H⟩ := H
 replace H : (if t207 = true then ((lgpace.f k t204).bind fun bt208 => (if bt208.2.2 = true then ((lgslack.f k t204 bt208.1 bt208.2.1).bind fun t212 => ((lgclosed.f k t212).bind fun t215 => (some (t204, bt208.1, bt208.2.1, t212, t215, 0)))) else (some (([] : List (List Int)), 0, 0, ([] : List (List Int)), ([] : List (List Int)), 10)))) else (some (([] : List (List Int)), 0, 0, ([] : List (List Int)), ([] : List (List Int)), 2))) = some (r1, r2, r3, r4, r5, r6) := H
 have A2 := Aside0.mk A20
 clear A20
 by_cases c3 : t207 = true
 ·
  subst c3
  have H1 : ((lgpace.f k t204).bind fun bt208 => (if bt208.2.2 = true then ((lgslack.f k t204 bt208.1 bt208.2.1).bind fun t212 => ((lgclosed.f k t212).bind fun t215 => (some (t204, bt208.1, bt208.2.1, t212, t215, 0)))) else (some (([] : List (List Int)), 0, 0, ([] : List (List Int)), ([] : List (List Int)), 10)))) = some (r1, r2, r3, r4, r5, r6) := by rw [if_pos rfl] at H; exact H
  clear H
  have H := H1
  clear H1
  replace H := Option.bind_eq_some_iff.mp H
  obtain ⟨⟨t208, t209, t210⟩, A40, H⟩ := H
  replace H : (if t210 = true then ((lgslack.f k t204 t208 t209).bind fun t212 => ((lgclosed.f k t212).bind fun t215 => (some (t204, t208, t209, t212, t215, 0)))) else (some (([] : List (List Int)), 0, 0, ([] : List (List Int)), ([] : List (List Int)), 10))) = some (r1, r2, r3, r4, r5, r6) := H
  have A4 := Aside0.mk A40
  clear A40
  by_cases c5 : t210 = true
  ·
   subst c5
   have H1 : ((lgslack.f k t204 t208 t209).bind fun t212 => ((lgclosed.f k t212).bind fun t215 => (some (t204, t208, t209, t212, t215, 0)))) = some (r1, r2, r3, r4, r5, r6) := by rw [if_pos rfl] at H; exact H
   clear H
   have H := H1
   clear H1
   replace H := Option.bind_eq_some_iff.mp H
   obtain ⟨t212, A60, H⟩ := H
   replace H : ((lgclosed.f k t212).bind fun t215 => (some (t204, t208, t209, t212, t215, 0))) = some (r1, r2, r3, r4, r5, r6) := H
   have A6 := Aside0.mk A60
   clear A60
   replace H := Option.bind_eq_some_iff.mp H
   obtain ⟨t215, A70, H⟩ := H
   replace H : (some (t204, t208, t209, t212, t215, 0)) = some (r1, r2, r3, r4, r5, r6) := H
   have A7 := Aside0.mk A70
   clear A70
   simp only [Option.some.injEq, Prod.mk.injEq] at H
   obtain ⟨rfl, rfl, rfl, rfl, rfl, rfl⟩ := H
   go_enter Try.func45, Try.ntmps45
   try go_wp2_with (first | ((with_reducible refine gate_dst (N := 2) rfl ?_); refine box_event ?hg (N := 2) ?hd (cs := #[.slice none 0 0, .int .i64 0, .int .i64 0, .slice none 0 0, .slice none 0 0]) (t := 58) ?hr ?_; (case hd => rfl); (case hg => rfl); (case hr => first | (go_simp; done) | (go_simp; rfl)); intro gb203 hg w8 hbox hb; have n0_ := Aside0.mk (Kd.V_below (Kd.V_elderB (by (with_reducible repeat (first | apply Kd.V_alloc | apply Kd.V_drewN | apply Kd.V_drew)); exact HO0.out) gb203 (Nat.le_of_eq hg.symm)) hb); have n1_ := Aside0.mk (below_step (by repeat (first | (with_reducible first | exact HB.out | apply below_alloc | apply pw_below_drewN | apply below_drew1) | exact HB.out)) hb); have n2_ := Aside0.mk (hbox); have n3_ := Aside0.mk ((by rw [hg]; exact (below_size (by repeat (first | (with_reducible first | exact HB.out | apply below_alloc | apply pw_below_drewN | apply below_drew1) | exact HB.out))) : w.heap.size ≤ gb203)); have n4_ := Aside0.mk ((by rw [hg]; exact (below_size (by repeat (first | (with_reducible first | exact HB.out | apply below_alloc | apply pw_below_drewN | apply below_drew1) | exact HB.out))) : w.heap.size ≤ gb203)); clear HO0; clear HB; have HO0 := n0_; have HB := n1_; have BK203 := n2_; have GW203 := n3_; have GE203 := n4_; clear n0_ n1_ n2_ n3_ n4_; clear hb hbox hg) | ((with_reducible refine gate_callee (f := 64) rfl ?_); refine goesL_ (some 11) rfl rfl Try.func64 (by kernel_rfl) rfl #[.slice A0 l0.length c0] rfl (by (try simp only [List.map_toArray, List.map_cons, List.map_nil]); first | done | rfl | (simp only [List.length_drop, List.length_take]; rfl)) ?_; (with_reducible refine (line_of.calls k (fun k_ => ((P0_ k_ ∨ w.heap.size ≤ k_) ∧ k_ ≠ gb203)) _ _ l0 t204 true _ ?side1 A2.out).mono ?_); (case side1 => exact HO0.out); rintro e w9 ⟨v205, rfl, ho0, hb⟩; refine ⟨_, rfl, ?_⟩; have n0_ := Aside0.mk (Kd.V_below (by (with_reducible repeat (first | apply Kd.V_alloc | apply Kd.V_drewN | apply Kd.V_drew)); exact HO0.out) hb); have n1_ := Aside0.mk (Kd.V_lower (Kd.V_mono (ok' := fun k_ => (P0_ k_ ∨ w.heap.size ≤ k_) ∧ k_ ≠ gb203) ho0 (fun k_ hk_ => ⟨Or.elim hk_ (fun hs_ => hs_.1) (fun hn_ => (.inr (Nat.le_trans (below_size (by repeat (first | (with_reducible first | exact HB.out | apply below_alloc | apply pw_below_drewN | apply below_drew1 | refine below_set ?_ GE203.out) | exact HB.out))) hn_))), Or.elim hk_ (fun hs_ => hs_.2) (fun hn_ => (Kd.freshB (g := gb203) (o := .cells #[.slice none 0 0, .int .i64 0, .int .i64 0, .slice none 0 0, .slice none 0 0] 58 (0, 0)) (by (with_reducible repeat (first | refine blk_drewN ?_ _ | refine blk_drew ?_ | refine blk_alloc ?_ _)); exact BK203.out) k_ hn_))⟩)) (below_size (by repeat (first | (with_reducible first | exact HB.out | apply below_alloc | apply pw_below_drewN | apply below_drew1 | refine below_set ?_ GE203.out) | exact HB.out)))); have n2_ := Aside0.mk (blk_below (g := gb203) (o := .cells #[.slice none 0 0, .int .i64 0, .int .i64 0, .slice none 0 0, .slice none 0 0] 58 (0, 0)) (by (with_reducible repeat (first | refine blk_drewN ?_ _ | refine blk_drew ?_ | refine blk_alloc ?_ _)); exact BK203.out) hb); have n3_ := Aside0.mk (below_step (by repeat (first | (with_reducible first | exact HB.out | apply below_alloc | apply pw_below_drewN | apply below_drew1 | refine below_set ?_ GE203.out) | exact HB.out)) hb); clear HO0; clear BK203; clear HB; have HO0 := n0_; have HO206 := n1_; have BK203 := n2_; have HB := n3_; clear n0_ n1_ n2_ n3_; (try clear hb); (try clear hb2); (try clear hk); (try clear hi); (try clear ho0); obtain ⟨Ao10, co10, eo10⟩ := Kd.V_slice HO206.out; subst eo10) | ((with_reducible refine gate_callee (f := 65) rfl ?_); refine goesL_ (some 19) rfl rfl Try.func65 (by kernel_rfl) rfl #[.slice Ao10 t204.length co10] rfl (by (try simp only [List.map_toArray, List.map_cons, List.map_nil]); first | done | rfl | (simp only [List.length_drop, List.length_take]; rfl)) ?_; (with_reducible refine (lgpace.calls k _ _ t204 t208 t209 true _ ?side1 ?side2 A4.out).mono ?_); (case side1 => repeat (first | exact (Kd.V_reads' HO206.out).2.2 | (with_reducible refine Kd.C_alloc ?_ _) | (with_reducible refine Kd.C_drewN ?_ _) | (with_reducible refine Kd.C_drew ?_))); (case side2 => exact (Kd.V_reads' HO206.out).2.1); rintro e w11 ⟨rfl, hb⟩; refine ⟨_, rfl, ?_⟩; have n0_ := Aside0.mk (Kd.V_below (by (with_reducible repeat (first | apply Kd.V_alloc | apply Kd.V_drewN | apply Kd.V_drew)); exact HO0.out) hb); have n1_ := Aside0.mk (Kd.V_below (by (with_reducible repeat (first | apply Kd.V_alloc | apply Kd.V_drewN | apply Kd.V_drew)); exact HO206.out) hb); have n2_ := Aside0.mk (blk_below (g := gb203) (o := .cells #[.slice none 0 0, .int .i64 0, .int .i64 0, .slice none 0 0, .slice none 0 0] 58 (0, 0)) (by (with_reducible repeat (first | refine blk_drewN ?_ _ | refine blk_drew ?_ | refine blk_alloc ?_ _)); exact BK203.out) hb); have n3_ := Aside0.mk (below_step (by repeat (first | (with_reducible first | exact HB.out | apply below_alloc | apply pw_below_drewN | apply below_drew1 | refine below_set ?_ GE203.out) | exact HB.out)) hb); clear HO0; clear HO206; clear BK203; clear HB; have HO0 := n0_; have HO206 := n1_; have BK203 := n2_; have HB := n3_; clear n0_ n1_ n2_ n3_; (try clear hb); (try clear hb2); (try clear hk); (try clear hi)) | ((with_reducible refine gate_dst (N := 6) rfl ?_); refine box_event ?hg (N := 6) ?hd (cs := #[.int .i64 0, .int .i64 0]) (t := 37) ?hr ?_; (case hd => rfl); (case hg => rfl); (case hr => first | (go_simp; done) | (go_simp; rfl)); intro gb211 hg w12 hbox hb; have n0_ := Aside0.mk (Kd.V_below (Kd.V_elderB (by (with_reducible repeat (first | apply Kd.V_alloc | apply Kd.V_drewN | apply Kd.V_drew)); exact HO0.out) gb211 (Nat.le_of_eq hg.symm)) hb); have n1_ := Aside0.mk (Kd.V_below (Kd.V_elderB (by (with_reducible repeat (first | apply Kd.V_alloc | apply Kd.V_drewN | apply Kd.V_drew)); exact HO206.out) gb211 (Nat.le_of_eq hg.symm)) hb); have n2_ := Aside0.mk (blk_below (g := gb203) (o := .cells #[.slice none 0 0, .int .i64 0, .int .i64 0, .slice none 0 0, .slice none 0 0] 58 (0, 0)) (by (with_reducible repeat (first | refine blk_drewN ?_ _ | refine blk_drew ?_ | refine blk_alloc ?_ _)); exact BK203.out) hb); have n3_ := Aside0.mk (below_step (by repeat (first | (with_reducible first | exact HB.out | apply below_alloc | apply pw_below_drewN | apply below_drew1 | refine below_set ?_ GE203.out) | exact HB.out)) hb); have n4_ := Aside0.mk (hbox); have n5_ := Aside0.mk ((by rw [hg]; exact (below_size (by repeat (first | (with_reducible first | exact HB.out | apply below_alloc | apply pw_below_drewN | apply below_drew1 | refine below_set ?_ GE203.out) | exact HB.out))) : w.heap.size ≤ gb211)); have n6_ := Aside0.mk ((by rw [hg]; exact (below_size (by repeat (first | (with_reducible first | exact HB.out | apply below_alloc | apply pw_below_drewN | apply below_drew1 | refine below_set ?_ GE203.out) | exact HB.out))) : w.heap.size ≤ gb211)); have n7_ := Aside0.mk ((by rw [hg]; exact Nat.ne_of_lt (blk_lt (g := gb203) (o := .cells #[.slice none 0 0, .int .i64 0, .int .i64 0, .slice none 0 0, .slice none 0 0] 58 (0, 0)) (by (with_reducible repeat (first | refine blk_drewN ?_ _ | refine blk_drew ?_ | refine blk_alloc ?_ _)); exact BK203.out)) : gb203 ≠ gb211)); have n8_ := Aside0.mk ((by rw [hg]; exact Nat.ne_of_gt (blk_lt (g := gb203) (o := .cells #[.slice none 0 0, .int .i64 0, .int .i64 0, .slice none 0 0, .slice none 0 0] 58 (0, 0)) (by (with_reducible repeat (first | refine blk_drewN ?_ _ | refine blk_drew ?_ | refine blk_alloc ?_ _)); exact BK203.out)) : gb211 ≠ gb203)); clear HO0; clear HO206; clear BK203; clear HB; have HO0 := n0_; have HO206 := n1_; have BK203 := n2_; have HB := n3_; have BK211 := n4_; have GW211 := n5_; have GE211 := n6_; have NB203_211 := n7_; have NB211_203 := n8_; clear n0_ n1_ n2_ n3_ n4_ n5_ n6_ n7_ n8_; clear hb hbox hg; have hnb13 := NB211_203.out; have hnc13 := NB203_211.out; have hcz14_0 : w12.cell? ⟨gb211, 0, none⟩ = some (.int .i64 0) := (blk_cell BK211.out 0).trans rfl; have hcz14_1 : w12.cell? ⟨gb211, 1, none⟩ = some (.int .i64 0) := (blk_cell BK211.out 1).trans rfl; have hfz14_0 := blk_frozen BK211.out 0; have hfz14_1 := blk_frozen BK211.out 1) | ((with_reducible refine gate_callee (f := 78) rfl ?_); refine goesL_ (some 27) rfl rfl Try.func78 (by kernel_rfl) rfl #[.slice Ao10 t204.length co10, .agg #[.int .i64 t208, .int .i64 t209]] rfl (by (try simp only [List.map_toArray, List.map_cons, List.map_nil]); first | done | rfl | (simp only [List.length_drop, List.length_take]; rfl)) ?_; (with_reducible refine (lgslack.calls k _ _ t204 t208 t209 t212 _ ?side1 ?side2 A6.out).mono ?_); (case side1 => refine (Kd.V_reads' (e := 26) (base := w.heap.size) (ok := fun k_ => (((P0_ k_ ∨ w.heap.size ≤ k_) ∧ k_ ≠ gb203) ∧ k_ ≠ gb211)) (n := t204.length) (c := co10) ?_).2.2; exact (by (with_reducible repeat (first | apply Kd.V_alloc | apply Kd.V_drewN | apply Kd.V_drew)); exact (Kd.V_mono (Kd.V_far (p := ⟨gb211, 1, none⟩) (Kd.V_far (p := ⟨gb211, 0, none⟩) (Kd.V_mono HO206.out (fun k_ hk => (⟨hk, hk.2⟩ : _ ∧ k_ ≠ gb211))) (fun _ hk => hk.2) (.int .i64 t208)) (fun _ hk => hk.2) (.int .i64 t209)) (fun _ h_ => h_.1)))); (case side2 => exact (Kd.V_reads' HO206.out).2.1); rintro e w15 ⟨v213, rfl, ho0, hb⟩; refine ⟨_, rfl, ?_⟩; have n0_ := Aside0.mk (Kd.V_elder' (by (with_reducible repeat (first | apply Kd.V_alloc | apply Kd.V_drewN | apply Kd.V_drew)); exact (Kd.V_mono (Kd.V_far (p := ⟨gb211, 1, none⟩) (Kd.V_far (p := ⟨gb211, 0, none⟩) (Kd.V_mono HO0.out (fun k_ hk => (⟨hk, hk.2⟩ : _ ∧ k_ ≠ gb211))) (fun _ hk => hk.2) (.int .i64 t208)) (fun _ hk => hk.2) (.int .i64 t209)) (fun _ h_ => h_.1))) (Kd.S_base ho0) hb); have n1_ := Aside0.mk (Kd.V_elder' (by (with_reducible repeat (first | apply Kd.V_alloc | apply Kd.V_drewN | apply Kd.V_drew)); exact (Kd.V_mono (Kd.V_far (p := ⟨gb211, 1, none⟩) (Kd.V_far (p := ⟨gb211, 0, none⟩) (Kd.V_mono HO206.out (fun k_ hk => (⟨hk, hk.2⟩ : _ ∧ k_ ≠ gb211))) (fun _ hk => hk.2) (.int .i64 t208)) (fun _ hk => hk.2) (.int .i64 t209)) (fun _ h_ => h_.1))) (Kd.S_base ho0) hb); have n2_ := Aside0.mk (Kd.S_lower (Kd.S_newM (M := fun k_ => (w.heap.size ≤ k_)) ho0 (below_size (by repeat (first | (with_reducible first | exact HB.out | apply below_alloc | apply pw_below_drewN | apply below_drew1 | refine below_set ?_ GE203.out | refine below_set ?_ GE211.out) | exact HB.out))) (fun k_ h_ => h_)) (below_size (by repeat (first | (with_reducible first | exact HB.out | apply below_alloc | apply pw_below_drewN | apply below_drew1 | refine below_set ?_ GE203.out | refine below_set ?_ GE211.out) | exact HB.out)))); have n3_ := Aside0.mk (blk_below (g := gb203) (o := .cells #[.slice none 0 0, .int .i64 0, .int .i64 0, .slice none 0 0, .slice none 0 0] 58 (0, 0)) (by (with_reducible repeat (first | refine blk_drewN ?_ _ | refine blk_drew ?_ | refine blk_alloc ?_ _)); refine blk_far ?_ NB203_211.out _; (with_reducible repeat (first | refine blk_drewN ?_ _ | refine blk_drew ?_ | refine blk_alloc ?_ _)); refine blk_far ?_ NB203_211.out _; (with_reducible repeat (first | refine blk_drewN ?_ _ | refine blk_drew ?_ | refine blk_alloc ?_ _)); exact BK203.out) hb); have n4_ := Aside0.mk (blk_below (g := gb211) (o := .cells #[.int .i64 t208, .int .i64 t209] 37 (0, 0)) (by (with_reducible repeat (first | refine blk_drewN ?_ _ | refine blk_drew ?_ | refine blk_alloc ?_ _)); refine blk_put (cs := #[.int .i64 t208, .int .i64 0]) ?_ 1 _ rfl; (with_reducible repeat (first | refine blk_drewN ?_ _ | refine blk_drew ?_ | refine blk_alloc ?_ _)); refine blk_put (cs := #[.int .i64 0, .int .i64 0]) ?_ 0 _ rfl; (with_reducible repeat (first | refine blk_drewN ?_ _ | refine blk_drew ?_ | refine blk_alloc ?_ _)); exact BK211.out) hb); have n5_ := Aside0.mk (below_step (by repeat (first | (with_reducible first | exact HB.out | apply below_alloc | apply pw_below_drewN | apply below_drew1 | refine below_set ?_ GE203.out | refine below_set ?_ GE211.out) | exact HB.out)) hb); clear HO0; clear HO206; clear BK203; clear BK211; clear HB; have HO0 := n0_; have HO206 := n1_; have HO214 := n2_; have BK203 := n3_; have BK211 := n4_; have HB := n5_; clear n0_ n1_ n2_ n3_ n4_ n5_; (try clear hb); (try clear hb2); (try clear hk); (try clear hi); (try clear ho0)))
   have n0_ := Aside0.mk (Kd.V_drew HO0.out)
   have n1_ := Aside0.mk (Kd.V_drew HO206.out)
   have n2_ := Aside0.mk (Kd.S_drew HO214.out)
   have n3_ := Aside0.mk (blk_drew BK203.out)
   have n4_ := Aside0.mk (blk_drew BK211.out)
   have n5_ := Aside0.mk (below_drew1 HB.out)
   clear HO0
   clear HO206
   clear HO214
   clear BK203
   clear BK211
   clear HB
   have HO0 := n0_
   have HO206 := n1_
   have HO214 := n2_
   have BK203 := n3_
   have BK211 := n4_
   have HB := n5_
   clear n0_ n1_ n2_ n3_ n4_ n5_
   obtain ⟨Ao17, co17, eo17⟩ := Kd.S_slice HO214.out
   (first | subst eo17 | (injection eo17 with f1_ f2_ f3_; have f4_ := f1_.symm; have f5_ := f3_.symm; clear f1_ f2_ f3_; subst f4_; subst f5_))
   refine start_ (n := 8) (S := fun w' => w'.cell? ⟨gb211, 0, none⟩ = some (.int .i64 t208) ∧ w'.cell? ⟨gb211, 1, none⟩ = some (.int .i64 t209)) (ds := []) #[false, false, false, false, false, false, false, false] (by kernel_rfl) rfl rfl ⟨(blk_cell BK211.out 0).trans rfl, (blk_cell BK211.out 1).trans rfl⟩ (fun hHeld => ?_); refine with_tabW line_looked.tab8 line_looked.bits8 (fun HT_ HW_ => ?_)
   generalize w15.drew = w16 at HO0 HO206 HO214 BK203 BK211 HB hHeld ⊢
   refine pure_ (i := 0) (N := some 28) (v := ?_) (a' := ?_) #[true, false, false, false, false, false, false, false] rfl rfl (any_of HT_.out (by kernel_rfl)) (fun _ _ _ h => h) (Or.inl ⟨by rfl, ?_⟩) ?_ ?_
   rotate_left
   ·
    intro w'
    go_simp
    with_reducible rfl
   rotate_left
   ·
    simp only [Act.put, List.setIfInBounds_toArray, List.set_cons_zero, List.set_cons_succ, i64_w, i32_w]
    rfl
   refine pure_ (i := 2) (N := some 30) (v := ?_) (a' := ?_) #[true, false, true, false, false, false, false, false] rfl rfl (any_of HT_.out (by kernel_rfl)) (fun _ _ _ h => h) (Or.inl ⟨by rfl, ?_⟩) ?_ ?_
   rotate_left
   ·
    intro w'
    go_simp
    with_reducible rfl
   rotate_left
   ·
    simp only [Act.put, List.setIfInBounds_toArray, List.set_cons_zero, List.set_cons_succ, i64_w, i32_w]
    rfl
   refine pure_ (i := 3) (N := some 31) (v := ?_) (a' := ?_) #[true, false, true, true, false, false, false, false] rfl rfl (any_of HT_.out (by kernel_rfl)) (fun _ _ _ h => h) (Or.inl ⟨by rfl, ?_⟩) ?_ ?_
   rotate_left
   ·
    intro w'
    go_simp
    with_reducible rfl
   rotate_left
   ·
    simp only [Act.put, List.setIfInBounds_toArray, List.set_cons_zero, List.set_cons_succ, i64_w, i32_w]
    rfl
   refine take_ (i := 1) (N := some 29) (v := ?_) (a' := ?_) #[true, true, true, true, false, false, false, false] rfl rfl (take_ofW HT_.out HW_.out (by kernel_rfl)) (fun _ _ _ h => h) (Or.inl ⟨by rfl, ?_⟩) hHeld ?_ ?_
   rotate_left
   ·
    rintro w' ⟨s0, s1⟩
    go_simp
    with_reducible rfl
   rotate_left
   ·
    simp only [Act.put, List.setIfInBounds_toArray, List.set_cons_zero, List.set_cons_succ, i64_w, i32_w]
    rfl
   refine one_ (i := 4) (N := some 32) #[true, true, true, true, true, false, false, false] rfl rfl (one_of HT_.out (by kernel_rfl)) (by decide) (fun K hK => ?_)
   refine goes_ Try.func66 (by kernel_rfl) rfl #[.slice Ao17 t212.length co17] (by rfl) rfl rfl (by (try simp only [List.map_toArray, List.map_cons, List.map_nil]); first | done | rfl | (simp only [List.length_drop, List.length_take]; rfl)) ?_
   with_reducible refine (lgclosed.calls k _ _ t212 t215 _ ?side1 ?side2 A7.out).mono ?_
   (case side1 => repeat (first | exact (Kd.S_reads' HO214.out).2.2))
   (case side2 => exact (Kd.S_reads' HO214.out).2.1)
   rintro e w18 ⟨v216, rfl, ho0, hb⟩
   refine ⟨_, rfl, ?_⟩
   have n0_ := Aside0.mk (Kd.V_elder' (by exact HO0.out) (Kd.S_base ho0) hb)
   have n1_ := Aside0.mk (Kd.V_elder' (by exact HO206.out) (Kd.S_base ho0) hb)
   have n2_ := Aside0.mk (Kd.S_elder' (by exact HO214.out) (Kd.S_base ho0) hb)
   have n3_ := Aside0.mk (Kd.S_lower (Kd.S_new' (Kd.S_newM (M := fun k_ => (w.heap.size ≤ k_)) ho0 (below_size (HB.out)) (fun k_ h_ => h_)) (Kd.S_lt (by exact HO214.out))) (below_size (HB.out)))
   have n4_ := Aside0.mk (blk_below (g := gb203) (o := .cells #[.slice none 0 0, .int .i64 0, .int .i64 0, .slice none 0 0, .slice none 0 0] 58 (0, 0)) (by exact BK203.out) hb)
   have n5_ := Aside0.mk (blk_below (g := gb211) (o := .cells #[.int .i64 t208, .int .i64 t209] 37 (0, 0)) (by exact BK211.out) hb)
   have n6_ := Aside0.mk (below_step (HB.out) hb)
   clear HO0
   clear HO206
   clear HO214
   clear BK203
   clear BK211
   clear HB
   have HO0 := n0_
   have HO206 := n1_
   have HO214 := n2_
   have HO217 := n3_
   have BK203 := n4_
   have BK211 := n5_
   have HB := n6_
   clear n0_ n1_ n2_ n3_ n4_ n5_ n6_
   (try clear hb)
   (try clear hb2)
   (try clear hk)
   (try clear hi)
   (try clear ho0)
   obtain ⟨Ao19, co19, eo19⟩ := Kd.S_slice HO217.out
   (first | subst eo19 | (injection eo19 with f1_ f2_ f3_; have f4_ := f1_.symm; have f5_ := f3_.symm; clear f1_ f2_ f3_; subst f4_; subst f5_))
   refine hK.out _ _ ⟨(blk_cell BK211.out 0).trans rfl, (blk_cell BK211.out 1).trans rfl⟩ (fun hHeld => ?_)
   clear hK K
   refine norm_ (a' := ?_) ?_ ?_
   rotate_left
   ·
    show Act.put _ (some 32) _ = _
    simp only [Act.put, List.setIfInBounds_toArray, List.set_cons_zero, List.set_cons_succ, i64_w, i32_w]
    rfl
   refine pure_ (i := 5) (N := some 33) (v := ?_) (a' := ?_) #[true, true, true, true, true, true, false, false] rfl rfl (any_of HT_.out (by kernel_rfl)) (fun _ _ _ h => h) (Or.inl ⟨by rfl, ?_⟩) ?_ ?_
   rotate_left
   ·
    intro w'
    go_simp
    with_reducible rfl
   rotate_left
   ·
    simp only [Act.put, List.setIfInBounds_toArray, List.set_cons_zero, List.set_cons_succ, i64_w, i32_w]
    rfl
   refine one_ (i := 6) (N := none) #[true, true, true, true, true, true, true, false] rfl rfl (one_of HT_.out (by kernel_rfl)) (by decide) (fun K hK => ?_)
   have hs20 : w18.cell? ⟨gb203, 0, none⟩ = some (.slice none 0 0) := (blk_cell BK203.out 0).trans rfl
   have hfs20 := blk_frozen BK203.out 0
   have hns20_1 := NB211_203.out
   have hms20_1 := NB203_211.out
   have hs21 : w18.cell? ⟨gb203, 1, none⟩ = some (.int .i64 0) := (blk_cell BK203.out 1).trans rfl
   have hfs21 := blk_frozen BK203.out 1
   have hns21_1 := NB211_203.out
   have hms21_1 := NB203_211.out
   have hs22 : w18.cell? ⟨gb203, 2, none⟩ = some (.int .i64 0) := (blk_cell BK203.out 2).trans rfl
   have hfs22 := blk_frozen BK203.out 2
   have hns22_1 := NB211_203.out
   have hms22_1 := NB203_211.out
   have hs23 : w18.cell? ⟨gb203, 3, none⟩ = some (.slice none 0 0) := (blk_cell BK203.out 3).trans rfl
   have hfs23 := blk_frozen BK203.out 3
   have hns23_1 := NB211_203.out
   have hms23_1 := NB203_211.out
   have hs24 : w18.cell? ⟨gb203, 4, none⟩ = some (.slice none 0 0) := (blk_cell BK203.out 4).trans rfl
   have hfs24 := blk_frozen BK203.out 4
   have hns24_1 := NB211_203.out
   have hms24_1 := NB203_211.out
   refine skip_ (w1 := ?_) (by rfl) rfl ?_ ?_
   rotate_left
   ·
    go_simp
    rfl
   refine hK.out _ _ ⟨((cell_far (p := ⟨gb203, _, none⟩) NB211_203.out _).trans (((cell_far (p := ⟨gb203, _, none⟩) NB211_203.out _).trans (((cell_far (p := ⟨gb203, _, none⟩) NB211_203.out _).trans (((cell_far (p := ⟨gb203, _, none⟩) NB211_203.out _).trans (((cell_far (p := ⟨gb203, _, none⟩) NB211_203.out _).trans (hHeld.1)))))))))), ((cell_far (p := ⟨gb203, _, none⟩) NB211_203.out _).trans (((cell_far (p := ⟨gb203, _, none⟩) NB211_203.out _).trans (((cell_far (p := ⟨gb203, _, none⟩) NB211_203.out _).trans (((cell_far (p := ⟨gb203, _, none⟩) NB211_203.out _).trans (((cell_far (p := ⟨gb203, _, none⟩) NB211_203.out _).trans (hHeld.2))))))))))⟩ (fun hHeld => ?_)
   clear hK K
   refine pure_ (i := 7) (N := some 3) (v := ?_) (a' := ?_) #[true, true, true, true, true, true, true, true] rfl rfl (any_of HT_.out (by kernel_rfl)) (fun _ _ _ h => h) (Or.inl ⟨by rfl, ?_⟩) ?_ ?_
   rotate_left
   ·
    intro w'
    go_simp
    with_reducible rfl
   rotate_left
   ·
    simp only [Act.put, List.setIfInBounds_toArray, List.set_cons_zero, List.set_cons_succ, i64_w, i32_w]
    rfl
   refine done_ (done_of HT_.out (by kernel_rfl)) ?_
   try go_wp2
   refine bodyPost_ret (results_ct rfl _ _ gb203 58 #[.slice Ao10 t204.length co10, .int .i64 t208, .int .i64 t209, .slice Ao17 t212.length co17, .slice Ao19 t215.length co19] (0, 0) _ rfl (by (with_reducible repeat (first | refine blk_drewN ?_ _ | refine blk_drew ?_ | refine blk_alloc ?_ _)); refine blk_put (cs := #[.slice Ao10 t204.length co10, .int .i64 t208, .int .i64 t209, .slice Ao17 t212.length co17, .slice none 0 0]) ?_ 4 _ rfl; (with_reducible repeat (first | refine blk_drewN ?_ _ | refine blk_drew ?_ | refine blk_alloc ?_ _)); refine blk_put (cs := #[.slice Ao10 t204.length co10, .int .i64 t208, .int .i64 t209, .slice none 0 0, .slice none 0 0]) ?_ 3 _ rfl; (with_reducible repeat (first | refine blk_drewN ?_ _ | refine blk_drew ?_ | refine blk_alloc ?_ _)); refine blk_put (cs := #[.slice Ao10 t204.length co10, .int .i64 t208, .int .i64 0, .slice none 0 0, .slice none 0 0]) ?_ 2 _ rfl; (with_reducible repeat (first | refine blk_drewN ?_ _ | refine blk_drew ?_ | refine blk_alloc ?_ _)); refine blk_put (cs := #[.slice Ao10 t204.length co10, .int .i64 0, .int .i64 0, .slice none 0 0, .slice none 0 0]) ?_ 1 _ rfl; (with_reducible repeat (first | refine blk_drewN ?_ _ | refine blk_drew ?_ | refine blk_alloc ?_ _)); refine blk_put (cs := #[.slice none 0 0, .int .i64 0, .int .i64 0, .slice none 0 0, .slice none 0 0]) ?_ 0 _ rfl; (with_reducible repeat (first | refine blk_drewN ?_ _ | refine blk_drew ?_ | refine blk_alloc ?_ _)); exact BK203.out) Try.underlying58 rfl (by kernel_rfl)) rfl ?_
   exact ⟨_, _, _, by first | rfl | (simp [errW_none, errW_some] <;> rfl) | (simp [*, errW_none, errW_some] <;> rfl), by (with_reducible repeat (first | apply Kd.V_alloc | apply Kd.V_drewN | apply Kd.V_drew)); exact Kd.V_mono (Kd.V_far (p := ⟨gb203, 4, none⟩) (Kd.V_far (p := ⟨gb203, 3, none⟩) (Kd.V_far (p := ⟨gb203, 2, none⟩) (Kd.V_far (p := ⟨gb203, 1, none⟩) (Kd.V_far (p := ⟨gb203, 0, none⟩) (Kd.V_mono HO206.out (fun k_ hk => (⟨hk, hk.1.1.1.2⟩ : _ ∧ k_ ≠ gb203))) (fun _ hk => hk.2) (.slice Ao10 t204.length co10)) (fun _ hk => hk.2) (.int .i64 t208)) (fun _ hk => hk.2) (.int .i64 t209)) (fun _ hk => hk.2) (.slice Ao17 t212.length co17)) (fun _ hk => hk.2) (.slice Ao19 t215.length co19)) (fun _ hk => ⟨hk.1.1.1.1.1, ⟨hk.1.1.2, hk.1.2⟩⟩), by (with_reducible repeat (first | apply Kd.S_alloc | apply Kd.S_drewN | apply Kd.S_drew)); exact Kd.S_mono (Kd.S_far (p := ⟨gb203, 4, none⟩) (Kd.S_far (p := ⟨gb203, 3, none⟩) (Kd.S_far (p := ⟨gb203, 2, none⟩) (Kd.S_far (p := ⟨gb203, 1, none⟩) (Kd.S_far (p := ⟨gb203, 0, none⟩) (Kd.S_types HO214.out BK203.out (by decide)) (fun _ hk => hk.2) (.slice Ao10 t204.length co10)) (fun _ hk => hk.2) (.int .i64 t208)) (fun _ hk => hk.2) (.int .i64 t209)) (fun _ hk => hk.2) (.slice Ao17 t212.length co17)) (fun _ hk => hk.2) (.slice Ao19 t215.length co19)) (fun _ hk => ⟨hk.1.1.1, hk.1.2⟩), by (with_reducible repeat (first | apply Kd.S_alloc | apply Kd.S_drewN | apply Kd.S_drew)); exact Kd.S_mono (Kd.S_far (p := ⟨gb203, 4, none⟩) (Kd.S_far (p := ⟨gb203, 3, none⟩) (Kd.S_far (p := ⟨gb203, 2, none⟩) (Kd.S_far (p := ⟨gb203, 1, none⟩) (Kd.S_far (p := ⟨gb203, 0, none⟩) (Kd.S_types HO217.out BK203.out (by decide)) (fun _ hk => hk.2) (.slice Ao10 t204.length co10)) (fun _ hk => hk.2) (.int .i64 t208)) (fun _ hk => hk.2) (.int .i64 t209)) (fun _ hk => hk.2) (.slice Ao17 t212.length co17)) (fun _ hk => hk.2) (.slice Ao19 t215.length co19)) (fun _ hk => ⟨hk.1.1.1, hk.1.2⟩), by repeat (first | (with_reducible first | exact HB.out | apply below_alloc | apply pw_below_drewN | apply below_drew1 | refine below_set ?_ GE203.out | refine below_set ?_ GE211.out) | exact HB.out)⟩
  ·
   replace c5 := Bool.eq_false_iff.mpr c5
   subst c5
   have H1 : (some (([] : List (List Int)), 0, 0, ([] : List (List Int)), ([] : List (List Int)), 10)) = some (r1, r2, r3, r4, r5, r6) := by rw [if_neg (show ¬ (false = true) by decide)] at H; exact H
   clear H
   have H := H1
   clear H1
   simp only [Option.some.injEq, Prod.mk.injEq] at H
   obtain ⟨rfl, rfl, rfl, rfl, rfl, rfl⟩ := H
   go_enter Try.func45, Try.ntmps45
   go_wp2_with (first | ((with_reducible refine gate_dst (N := 2) rfl ?_); refine box_event ?hg (N := 2) ?hd (cs := #[.slice none 0 0, .int .i64 0, .int .i64 0, .slice none 0 0, .slice none 0 0]) (t := 58) ?hr ?_; (case hd => rfl); (case hg => rfl); (case hr => first | (go_simp; done) | (go_simp; rfl)); intro gb203 hg w25 hbox hb; have n0_ := Aside0.mk (Kd.V_below (Kd.V_elderB (by (with_reducible repeat (first | apply Kd.V_alloc | apply Kd.V_drewN | apply Kd.V_drew)); exact HO0.out) gb203 (Nat.le_of_eq hg.symm)) hb); have n1_ := Aside0.mk (below_step (by repeat (first | (with_reducible first | exact HB.out | apply below_alloc | apply pw_below_drewN | apply below_drew1) | exact HB.out)) hb); have n2_ := Aside0.mk (hbox); have n3_ := Aside0.mk ((by rw [hg]; exact (below_size (by repeat (first | (with_reducible first | exact HB.out | apply below_alloc | apply pw_below_drewN | apply below_drew1) | exact HB.out))) : w.heap.size ≤ gb203)); have n4_ := Aside0.mk ((by rw [hg]; exact (below_size (by repeat (first | (with_reducible first | exact HB.out | apply below_alloc | apply pw_below_drewN | apply below_drew1) | exact HB.out))) : w.heap.size ≤ gb203)); clear HO0; clear HB; have HO0 := n0_; have HB := n1_; have BK203 := n2_; have GW203 := n3_; have GE203 := n4_; clear n0_ n1_ n2_ n3_ n4_; clear hb hbox hg) | ((with_reducible refine gate_callee (f := 64) rfl ?_); refine goesL_ (some 11) rfl rfl Try.func64 (by kernel_rfl) rfl #[.slice A0 l0.length c0] rfl (by (try simp only [List.map_toArray, List.map_cons, List.map_nil]); first | done | rfl | (simp only [List.length_drop, List.length_take]; rfl)) ?_; (with_reducible refine (line_of.calls k (fun k_ => ((P0_ k_ ∨ w.heap.size ≤ k_) ∧ k_ ≠ gb203)) _ _ l0 t204 true _ ?side1 A2.out).mono ?_); (case side1 => exact HO0.out); rintro e w26 ⟨v205, rfl, ho0, hb⟩; refine ⟨_, rfl, ?_⟩; have n0_ := Aside0.mk (Kd.V_below (by (with_reducible repeat (first | apply Kd.V_alloc | apply Kd.V_drewN | apply Kd.V_drew)); exact HO0.out) hb); have n1_ := Aside0.mk (Kd.V_lower (Kd.V_mono (ok' := fun k_ => (P0_ k_ ∨ w.heap.size ≤ k_) ∧ k_ ≠ gb203) ho0 (fun k_ hk_ => ⟨Or.elim hk_ (fun hs_ => hs_.1) (fun hn_ => (.inr (Nat.le_trans (below_size (by repeat (first | (with_reducible first | exact HB.out | apply below_alloc | apply pw_below_drewN | apply below_drew1 | refine below_set ?_ GE203.out) | exact HB.out))) hn_))), Or.elim hk_ (fun hs_ => hs_.2) (fun hn_ => (Kd.freshB (g := gb203) (o := .cells #[.slice none 0 0, .int .i64 0, .int .i64 0, .slice none 0 0, .slice none 0 0] 58 (0, 0)) (by (with_reducible repeat (first | refine blk_drewN ?_ _ | refine blk_drew ?_ | refine blk_alloc ?_ _)); exact BK203.out) k_ hn_))⟩)) (below_size (by repeat (first | (with_reducible first | exact HB.out | apply below_alloc | apply pw_below_drewN | apply below_drew1 | refine below_set ?_ GE203.out) | exact HB.out)))); have n2_ := Aside0.mk (blk_below (g := gb203) (o := .cells #[.slice none 0 0, .int .i64 0, .int .i64 0, .slice none 0 0, .slice none 0 0] 58 (0, 0)) (by (with_reducible repeat (first | refine blk_drewN ?_ _ | refine blk_drew ?_ | refine blk_alloc ?_ _)); exact BK203.out) hb); have n3_ := Aside0.mk (below_step (by repeat (first | (with_reducible first | exact HB.out | apply below_alloc | apply pw_below_drewN | apply below_drew1 | refine below_set ?_ GE203.out) | exact HB.out)) hb); clear HO0; clear BK203; clear HB; have HO0 := n0_; have HO206 := n1_; have BK203 := n2_; have HB := n3_; clear n0_ n1_ n2_ n3_; (try clear hb); (try clear hb2); (try clear hk); (try clear hi); (try clear ho0); obtain ⟨Ao27, co27, eo27⟩ := Kd.V_slice HO206.out; subst eo27) | ((with_reducible refine gate_callee (f := 65) rfl ?_); refine goesL_ (some 19) rfl rfl Try.func65 (by kernel_rfl) rfl #[.slice Ao27 t204.length co27] rfl (by (try simp only [List.map_toArray, List.map_cons, List.map_nil]); first | done | rfl | (simp only [List.length_drop, List.length_take]; rfl)) ?_; (with_reducible refine (lgpace.calls k _ _ t204 t208 t209 false _ ?side1 ?side2 A4.out).mono ?_); (case side1 => repeat (first | exact (Kd.V_reads' HO206.out).2.2 | (with_reducible refine Kd.C_alloc ?_ _) | (with_reducible refine Kd.C_drewN ?_ _) | (with_reducible refine Kd.C_drew ?_))); (case side2 => exact (Kd.V_reads' HO206.out).2.1); rintro e w28 ⟨rfl, hb⟩; refine ⟨_, rfl, ?_⟩; have n0_ := Aside0.mk (Kd.V_below (by (with_reducible repeat (first | apply Kd.V_alloc | apply Kd.V_drewN | apply Kd.V_drew)); exact HO0.out) hb); have n1_ := Aside0.mk (Kd.V_below (by (with_reducible repeat (first | apply Kd.V_alloc | apply Kd.V_drewN | apply Kd.V_drew)); exact HO206.out) hb); have n2_ := Aside0.mk (blk_below (g := gb203) (o := .cells #[.slice none 0 0, .int .i64 0, .int .i64 0, .slice none 0 0, .slice none 0 0] 58 (0, 0)) (by (with_reducible repeat (first | refine blk_drewN ?_ _ | refine blk_drew ?_ | refine blk_alloc ?_ _)); exact BK203.out) hb); have n3_ := Aside0.mk (below_step (by repeat (first | (with_reducible first | exact HB.out | apply below_alloc | apply pw_below_drewN | apply below_drew1 | refine below_set ?_ GE203.out) | exact HB.out)) hb); clear HO0; clear HO206; clear BK203; clear HB; have HO0 := n0_; have HO206 := n1_; have BK203 := n2_; have HB := n3_; clear n0_ n1_ n2_ n3_; (try clear hb); (try clear hb2); (try clear hk); (try clear hi)) | ((with_reducible refine gate_dst (N := 6) rfl ?_); refine box_event ?hg (N := 6) ?hd (cs := #[.int .i64 0, .int .i64 0]) (t := 37) ?hr ?_; (case hd => rfl); (case hg => rfl); (case hr => first | (go_simp; done) | (go_simp; rfl)); intro gb211 hg w29 hbox hb; have n0_ := Aside0.mk (Kd.V_below (Kd.V_elderB (by (with_reducible repeat (first | apply Kd.V_alloc | apply Kd.V_drewN | apply Kd.V_drew)); exact HO0.out) gb211 (Nat.le_of_eq hg.symm)) hb); have n1_ := Aside0.mk (Kd.V_below (Kd.V_elderB (by (with_reducible repeat (first | apply Kd.V_alloc | apply Kd.V_drewN | apply Kd.V_drew)); exact HO206.out) gb211 (Nat.le_of_eq hg.symm)) hb); have n2_ := Aside0.mk (blk_below (g := gb203) (o := .cells #[.slice none 0 0, .int .i64 0, .int .i64 0, .slice none 0 0, .slice none 0 0] 58 (0, 0)) (by (with_reducible repeat (first | refine blk_drewN ?_ _ | refine blk_drew ?_ | refine blk_alloc ?_ _)); exact BK203.out) hb); have n3_ := Aside0.mk (below_step (by repeat (first | (with_reducible first | exact HB.out | apply below_alloc | apply pw_below_drewN | apply below_drew1 | refine below_set ?_ GE203.out) | exact HB.out)) hb); have n4_ := Aside0.mk (hbox); have n5_ := Aside0.mk ((by rw [hg]; exact (below_size (by repeat (first | (with_reducible first | exact HB.out | apply below_alloc | apply pw_below_drewN | apply below_drew1 | refine below_set ?_ GE203.out) | exact HB.out))) : w.heap.size ≤ gb211)); have n6_ := Aside0.mk ((by rw [hg]; exact (below_size (by repeat (first | (with_reducible first | exact HB.out | apply below_alloc | apply pw_below_drewN | apply below_drew1 | refine below_set ?_ GE203.out) | exact HB.out))) : w.heap.size ≤ gb211)); have n7_ := Aside0.mk ((by rw [hg]; exact Nat.ne_of_lt (blk_lt (g := gb203) (o := .cells #[.slice none 0 0, .int .i64 0, .int .i64 0, .slice none 0 0, .slice none 0 0] 58 (0, 0)) (by (with_reducible repeat (first | refine blk_drewN ?_ _ | refine blk_drew ?_ | refine blk_alloc ?_ _)); exact BK203.out)) : gb203 ≠ gb211)); have n8_ := Aside0.mk ((by rw [hg]; exact Nat.ne_of_gt (blk_lt (g := gb203) (o := .cells #[.slice none 0 0, .int .i64 0, .int .i64 0, .slice none 0 0, .slice none 0 0] 58 (0, 0)) (by (with_reducible repeat (first | refine blk_drewN ?_ _ | refine blk_drew ?_ | refine blk_alloc ?_ _)); exact BK203.out)) : gb211 ≠ gb203)); clear HO0; clear HO206; clear BK203; clear HB; have HO0 := n0_; have HO206 := n1_; have BK203 := n2_; have HB := n3_; have BK211 := n4_; have GW211 := n5_; have GE211 := n6_; have NB203_211 := n7_; have NB211_203 := n8_; clear n0_ n1_ n2_ n3_ n4_ n5_ n6_ n7_ n8_; clear hb hbox hg; have hnb30 := NB211_203.out; have hnc30 := NB203_211.out; have hcz31_0 : w29.cell? ⟨gb211, 0, none⟩ = some (.int .i64 0) := (blk_cell BK211.out 0).trans rfl; have hcz31_1 : w29.cell? ⟨gb211, 1, none⟩ = some (.int .i64 0) := (blk_cell BK211.out 1).trans rfl; have hfz31_0 := blk_frozen BK211.out 0; have hfz31_1 := blk_frozen BK211.out 1; have hcz32_0 : w29.cell? ⟨gb203, 0, none⟩ = some (.slice none 0 0) := (blk_cell BK203.out 0).trans rfl; have hcz32_1 : w29.cell? ⟨gb203, 1, none⟩ = some (.int .i64 0) := (blk_cell BK203.out 1).trans rfl; have hcz32_2 : w29.cell? ⟨gb203, 2, none⟩ = some (.int .i64 0) := (blk_cell BK203.out 2).trans rfl; have hcz32_3 : w29.cell? ⟨gb203, 3, none⟩ = some (.slice none 0 0) := (blk_cell BK203.out 3).trans rfl; have hcz32_4 : w29.cell? ⟨gb203, 4, none⟩ = some (.slice none 0 0) := (blk_cell BK203.out 4).trans rfl; have hfz32_0 := blk_frozen BK203.out 0; have hfz32_1 := blk_frozen BK203.out 1; have hfz32_2 := blk_frozen BK203.out 2; have hfz32_3 := blk_frozen BK203.out 3; have hfz32_4 := blk_frozen BK203.out 4))
   refine bodyPost_ret (results_ct rfl _ _ gb203 58 #[.slice none 0 0, .int .i64 0, .int .i64 0, .slice none 0 0, .slice none 0 0] (0, 0) _ rfl (by (with_reducible repeat (first | refine blk_drewN ?_ _ | refine blk_drew ?_ | refine blk_alloc ?_ _)); refine blk_put (cs := #[.slice none 0 0, .int .i64 0, .int .i64 0, .slice none 0 0, .slice none 0 0]) ?_ 4 _ rfl; (with_reducible repeat (first | refine blk_drewN ?_ _ | refine blk_drew ?_ | refine blk_alloc ?_ _)); refine blk_put (cs := #[.slice none 0 0, .int .i64 0, .int .i64 0, .slice none 0 0, .slice none 0 0]) ?_ 3 _ rfl; (with_reducible repeat (first | refine blk_drewN ?_ _ | refine blk_drew ?_ | refine blk_alloc ?_ _)); refine blk_put (cs := #[.slice none 0 0, .int .i64 0, .int .i64 0, .slice none 0 0, .slice none 0 0]) ?_ 2 _ rfl; (with_reducible repeat (first | refine blk_drewN ?_ _ | refine blk_drew ?_ | refine blk_alloc ?_ _)); refine blk_put (cs := #[.slice none 0 0, .int .i64 0, .int .i64 0, .slice none 0 0, .slice none 0 0]) ?_ 1 _ rfl; (with_reducible repeat (first | refine blk_drewN ?_ _ | refine blk_drew ?_ | refine blk_alloc ?_ _)); refine blk_put (cs := #[.slice none 0 0, .int .i64 0, .int .i64 0, .slice none 0 0, .slice none 0 0]) ?_ 0 _ rfl; (with_reducible repeat (first | refine blk_drewN ?_ _ | refine blk_drew ?_ | refine blk_alloc ?_ _)); refine blk_far ?_ NB203_211.out _; (with_reducible repeat (first | refine blk_drewN ?_ _ | refine blk_drew ?_ | refine blk_alloc ?_ _)); refine blk_far ?_ NB203_211.out _; (with_reducible repeat (first | refine blk_drewN ?_ _ | refine blk_drew ?_ | refine blk_alloc ?_ _)); exact BK203.out) Try.underlying58 rfl (by kernel_rfl)) rfl ?_
   exact ⟨_, _, _, by first | rfl | (simp [errW_none, errW_some] <;> rfl) | (simp [*, errW_none, errW_some] <;> rfl), (show Kd.V _ _ _ _ _ (.slice none 0 0) _ from Kd.V_nil _ _ _ _ _), by first | exact Kd.S_nil _ _ _ _ _ | exact Kd.N_nil _ _ _ _ _ | exact Kd.V_nil _ _ _ _ _ | exact Kd.Q_nil _ _ _ _ _ | exact Kd.R_nil _ _ _ _ _, by first | exact Kd.S_nil _ _ _ _ _ | exact Kd.N_nil _ _ _ _ _ | exact Kd.V_nil _ _ _ _ _ | exact Kd.Q_nil _ _ _ _ _ | exact Kd.R_nil _ _ _ _ _, by repeat (first | (with_reducible first | exact HB.out | apply below_alloc | apply pw_below_drewN | apply below_drew1 | refine below_set ?_ GE203.out | refine below_set ?_ GE211.out) | exact HB.out)⟩
 ·
  replace c3 := Bool.eq_false_iff.mpr c3
  subst c3
  have H1 : (some (([] : List (List Int)), 0, 0, ([] : List (List Int)), ([] : List (List Int)), 2)) = some (r1, r2, r3, r4, r5, r6) := by rw [if_neg (show ¬ (false = true) by decide)] at H; exact H
  clear H
  have H := H1
  clear H1
  simp only [Option.some.injEq, Prod.mk.injEq] at H
  obtain ⟨rfl, rfl, rfl, rfl, rfl, rfl⟩ := H
  go_enter Try.func45, Try.ntmps45
  go_wp2_with (first | ((with_reducible refine gate_dst (N := 2) rfl ?_); refine box_event ?hg (N := 2) ?hd (cs := #[.slice none 0 0, .int .i64 0, .int .i64 0, .slice none 0 0, .slice none 0 0]) (t := 58) ?hr ?_; (case hd => rfl); (case hg => rfl); (case hr => first | (go_simp; done) | (go_simp; rfl)); intro gb203 hg w33 hbox hb; have n0_ := Aside0.mk (Kd.V_below (Kd.V_elderB (by (with_reducible repeat (first | apply Kd.V_alloc | apply Kd.V_drewN | apply Kd.V_drew)); exact HO0.out) gb203 (Nat.le_of_eq hg.symm)) hb); have n1_ := Aside0.mk (below_step (by repeat (first | (with_reducible first | exact HB.out | apply below_alloc | apply pw_below_drewN | apply below_drew1) | exact HB.out)) hb); have n2_ := Aside0.mk (hbox); have n3_ := Aside0.mk ((by rw [hg]; exact (below_size (by repeat (first | (with_reducible first | exact HB.out | apply below_alloc | apply pw_below_drewN | apply below_drew1) | exact HB.out))) : w.heap.size ≤ gb203)); have n4_ := Aside0.mk ((by rw [hg]; exact (below_size (by repeat (first | (with_reducible first | exact HB.out | apply below_alloc | apply pw_below_drewN | apply below_drew1) | exact HB.out))) : w.heap.size ≤ gb203)); clear HO0; clear HB; have HO0 := n0_; have HB := n1_; have BK203 := n2_; have GW203 := n3_; have GE203 := n4_; clear n0_ n1_ n2_ n3_ n4_; clear hb hbox hg) | ((with_reducible refine gate_callee (f := 64) rfl ?_); refine goesL_ (some 11) rfl rfl Try.func64 (by kernel_rfl) rfl #[.slice A0 l0.length c0] rfl (by (try simp only [List.map_toArray, List.map_cons, List.map_nil]); first | done | rfl | (simp only [List.length_drop, List.length_take]; rfl)) ?_; (with_reducible refine (line_of.calls k (fun k_ => ((P0_ k_ ∨ w.heap.size ≤ k_) ∧ k_ ≠ gb203)) _ _ l0 t204 false _ ?side1 A2.out).mono ?_); (case side1 => exact HO0.out); rintro e w34 ⟨v205, rfl, ho0, hb⟩; refine ⟨_, rfl, ?_⟩; have n0_ := Aside0.mk (Kd.V_below (by (with_reducible repeat (first | apply Kd.V_alloc | apply Kd.V_drewN | apply Kd.V_drew)); exact HO0.out) hb); have n1_ := Aside0.mk (Kd.V_lower (Kd.V_mono (ok' := fun k_ => (P0_ k_ ∨ w.heap.size ≤ k_) ∧ k_ ≠ gb203) ho0 (fun k_ hk_ => ⟨Or.elim hk_ (fun hs_ => hs_.1) (fun hn_ => (.inr (Nat.le_trans (below_size (by repeat (first | (with_reducible first | exact HB.out | apply below_alloc | apply pw_below_drewN | apply below_drew1 | refine below_set ?_ GE203.out) | exact HB.out))) hn_))), Or.elim hk_ (fun hs_ => hs_.2) (fun hn_ => (Kd.freshB (g := gb203) (o := .cells #[.slice none 0 0, .int .i64 0, .int .i64 0, .slice none 0 0, .slice none 0 0] 58 (0, 0)) (by (with_reducible repeat (first | refine blk_drewN ?_ _ | refine blk_drew ?_ | refine blk_alloc ?_ _)); exact BK203.out) k_ hn_))⟩)) (below_size (by repeat (first | (with_reducible first | exact HB.out | apply below_alloc | apply pw_below_drewN | apply below_drew1 | refine below_set ?_ GE203.out) | exact HB.out)))); have n2_ := Aside0.mk (blk_below (g := gb203) (o := .cells #[.slice none 0 0, .int .i64 0, .int .i64 0, .slice none 0 0, .slice none 0 0] 58 (0, 0)) (by (with_reducible repeat (first | refine blk_drewN ?_ _ | refine blk_drew ?_ | refine blk_alloc ?_ _)); exact BK203.out) hb); have n3_ := Aside0.mk (below_step (by repeat (first | (with_reducible first | exact HB.out | apply below_alloc | apply pw_below_drewN | apply below_drew1 | refine below_set ?_ GE203.out) | exact HB.out)) hb); clear HO0; clear BK203; clear HB; have HO0 := n0_; have HO206 := n1_; have BK203 := n2_; have HB := n3_; clear n0_ n1_ n2_ n3_; (try clear hb); (try clear hb2); (try clear hk); (try clear hi); (try clear ho0); have hcz35_0 : w34.cell? ⟨gb203, 0, none⟩ = some (.slice none 0 0) := (blk_cell BK203.out 0).trans rfl; have hcz35_1 : w34.cell? ⟨gb203, 1, none⟩ = some (.int .i64 0) := (blk_cell BK203.out 1).trans rfl; have hcz35_2 : w34.cell? ⟨gb203, 2, none⟩ = some (.int .i64 0) := (blk_cell BK203.out 2).trans rfl; have hcz35_3 : w34.cell? ⟨gb203, 3, none⟩ = some (.slice none 0 0) := (blk_cell BK203.out 3).trans rfl; have hcz35_4 : w34.cell? ⟨gb203, 4, none⟩ = some (.slice none 0 0) := (blk_cell BK203.out 4).trans rfl; have hfz35_0 := blk_frozen BK203.out 0; have hfz35_1 := blk_frozen BK203.out 1; have hfz35_2 := blk_frozen BK203.out 2; have hfz35_3 := blk_frozen BK203.out 3; have hfz35_4 := blk_frozen BK203.out 4))
  refine bodyPost_ret (results_ct rfl _ _ gb203 58 #[.slice none 0 0, .int .i64 0, .int .i64 0, .slice none 0 0, .slice none 0 0] (0, 0) _ rfl (by (with_reducible repeat (first | refine blk_drewN ?_ _ | refine blk_drew ?_ | refine blk_alloc ?_ _)); refine blk_put (cs := #[.slice none 0 0, .int .i64 0, .int .i64 0, .slice none 0 0, .slice none 0 0]) ?_ 4 _ rfl; (with_reducible repeat (first | refine blk_drewN ?_ _ | refine blk_drew ?_ | refine blk_alloc ?_ _)); refine blk_put (cs := #[.slice none 0 0, .int .i64 0, .int .i64 0, .slice none 0 0, .slice none 0 0]) ?_ 3 _ rfl; (with_reducible repeat (first | refine blk_drewN ?_ _ | refine blk_drew ?_ | refine blk_alloc ?_ _)); refine blk_put (cs := #[.slice none 0 0, .int .i64 0, .int .i64 0, .slice none 0 0, .slice none 0 0]) ?_ 2 _ rfl; (with_reducible repeat (first | refine blk_drewN ?_ _ | refine blk_drew ?_ | refine blk_alloc ?_ _)); refine blk_put (cs := #[.slice none 0 0, .int .i64 0, .int .i64 0, .slice none 0 0, .slice none 0 0]) ?_ 1 _ rfl; (with_reducible repeat (first | refine blk_drewN ?_ _ | refine blk_drew ?_ | refine blk_alloc ?_ _)); refine blk_put (cs := #[.slice none 0 0, .int .i64 0, .int .i64 0, .slice none 0 0, .slice none 0 0]) ?_ 0 _ rfl; (with_reducible repeat (first | refine blk_drewN ?_ _ | refine blk_drew ?_ | refine blk_alloc ?_ _)); exact BK203.out) Try.underlying58 rfl (by kernel_rfl)) rfl ?_
  exact ⟨_, _, _, by first | rfl | (simp [errW_none, errW_some] <;> rfl) | (simp [*, errW_none, errW_some] <;> rfl), (show Kd.V _ _ _ _ _ (.slice none 0 0) _ from Kd.V_nil _ _ _ _ _), by first | exact Kd.S_nil _ _ _ _ _ | exact Kd.N_nil _ _ _ _ _ | exact Kd.V_nil _ _ _ _ _ | exact Kd.Q_nil _ _ _ _ _ | exact Kd.R_nil _ _ _ _ _, by first | exact Kd.S_nil _ _ _ _ _ | exact Kd.N_nil _ _ _ _ _ | exact Kd.V_nil _ _ _ _ _ | exact Kd.Q_nil _ _ _ _ _ | exact Kd.R_nil _ _ _ _ _, by repeat (first | (with_reducible first | exact HB.out | apply below_alloc | apply pw_below_drewN | apply below_drew1 | refine below_set ?_ GE203.out) | exact HB.out)⟩

def lgreach.f (k : Nat) (l0 : List (List Int)) : Option ((List (List Int))) := (lgmapped_reach_1.f k l0 0).bind fun t218 => ((lgclosed.f k t218).bind fun t221 => (some t221))
theorem lgreach.mono : ∀ a0 k, LeO (lgreach.f k a0) (lgreach.f (k + 1) a0) := by
 intro a0 k
 unfold lgreach.f
 repeat' first
   | (with_reducible exact lgclosed.mono _ _)
   | (with_reducible exact lgmapped_reach_1.mono _ _ _)
   | (with_reducible exact LeO.refl _)
   | (with_reducible exact LeO.none _)
   | (with_reducible refine LeO.ite ?_ ?_)
   | (with_reducible refine LeO.bind ?_ (fun _ => ?_))
   | exact lgclosed.mono _ _
   | exact lgmapped_reach_1.mono _ _ _
   | exact LeO.none _
   | refine LeO.ite ?_ ?_
   | refine LeO.bind ?_ (fun _ => ?_)
set_option maxHeartbeats 8000000 in
set_option maxRecDepth 100000 in
theorem lgreach.calls (k : Nat) (A0 : Option Addr) (c0 : Nat) (l0 : List (List Int)) (r : List (List Int)) (w : World) (hr0 : Kd.C (Kd.slice 3 (Kd.int .i64)) w A0 l0.length l0) (hc0 : l0.length ≤ c0) (h : lgreach.f k l0 = some r) :
  Calls Try.prog 80 #[.slice A0 l0.length c0] w fun e w' => ∃ v0_ : Value, e = .returned (v0_) ∧ Kd.S (Kd.slice 3 (Kd.int .i64)) 26 w' w.heap.size (fun _ => True) v0_ r ∧ Below w.heap.size w w' := by
 have HR0 := Aside0.mk hr0
 have HC0 := Aside0.mk hc0
 clear hr0 hc0
 have HB := Aside0.mk (Below.refl w.heap.size w)
 have H : ((lgmapped_reach_1.f k l0 0).bind fun t218 => ((lgclosed.f k t218).bind fun t221 => (some t221))) = some r := h
 clear h
 replace H := Option.bind_eq_some_iff.mp H
 obtain ⟨t218, A20, H⟩ := H
 replace H : ((lgclosed.f k t218).bind fun t221 => (some t221)) = some r := H
 have A2 := Aside0.mk A20
 clear A20
 replace H := Option.bind_eq_some_iff.mp H
 obtain ⟨t221, A30, H⟩ := H
 replace H : (some t221) = some r := H
 have A3 := Aside0.mk A30
 clear A30
 obtain rfl := Option.some.inj H
 go_enter Try.func80, Try.ntmps80
 go_wp2_with (first | ((with_reducible refine gate_callee (f := 57) rfl ?_); refine goesL_ (some 4) rfl rfl Try.func57 (by kernel_rfl) rfl #[.slice A0 l0.length c0, .func (.func 98) #[] #[]] rfl (by (try simp only [List.map_toArray, List.map_cons, List.map_nil]); first | done | rfl | (simp only [List.length_drop, List.length_take]; rfl)) ?_; (with_reducible refine (lgmapped_reach_1.calls k _ _ l0 0 t218 _ ?side1 ?side2 A2.out).mono ?_); (case side1 => repeat (first | exact HR0.out)); (case side2 => exact HC0.out); rintro e w4 ⟨v219, rfl, ho0, hb⟩; refine ⟨_, rfl, ?_⟩; have n0_ := Aside0.mk (Kd.S_lower ho0 (below_size (HB.out))); have n1_ := Aside0.mk (below_step (HB.out) hb); clear HB; have HO220 := n0_; have HB := n1_; clear n0_ n1_; obtain ⟨Ao5, co5, eo5⟩ := Kd.S_slice HO220.out; subst eo5) | ((with_reducible refine gate_callee (f := 66) rfl ?_); refine goesL_ (some 5) rfl rfl Try.func66 (by kernel_rfl) rfl #[.slice Ao5 t218.length co5] rfl (by (try simp only [List.map_toArray, List.map_cons, List.map_nil]); first | done | rfl | (simp only [List.length_drop, List.length_take]; rfl)) ?_; (with_reducible refine (lgclosed.calls k _ _ t218 t221 _ ?side1 ?side2 A3.out).mono ?_); (case side1 => repeat (first | exact (Kd.S_reads' HO220.out).2.2)); (case side2 => exact (Kd.S_reads' HO220.out).2.1); rintro e w6 ⟨v222, rfl, ho0, hb⟩; refine ⟨_, rfl, ?_⟩; have n0_ := Aside0.mk (Kd.S_elder' (by exact HO220.out) (Kd.S_base ho0) hb); have n1_ := Aside0.mk (Kd.S_lower (Kd.S_new' ho0 (Kd.S_lt (by exact HO220.out))) (below_size (HB.out))); have n2_ := Aside0.mk (below_step (HB.out) hb); clear HO220; clear HB; have HO220 := n0_; have HO223 := n1_; have HB := n2_; clear n0_ n1_ n2_))
 go_ret
 exact ⟨_, rfl, by exact Kd.S_mono HO223.out (fun _ hk => trivial), HB.out⟩

def slices_Index_int_int.l0 : Nat → List Int → Int → Int → Int → Option (Int)
 | 0, _, _, _, _ => none
 | k + 1, x0, x1, x7, x8 => if x8 < x7 then (if 0 ≤ x8 then (if x8 < (x0.length : Int) then (if x1 = (rd x0 x8) then (some x8) else (slices_Index_int_int.l0 k x0 x1 x7 (wrap64 (x8 + 1)))) else (none)) else (none)) else (some (-1))
def slices_Index_int_int.f (k : Nat) (l0 : List Int) (a1 : Int) : Option (Int) := slices_Index_int_int.l0 k l0 a1 (l0.length : Int) 0
theorem slices_Index_int_int.mono_l : ∀ k, (∀ y0 y1 y2 y3, LeO (slices_Index_int_int.l0 k y0 y1 y2 y3) (slices_Index_int_int.l0 (k + 1) y0 y1 y2 y3))
 | 0 => fun _ _ _ _ r h => by simp [slices_Index_int_int.l0] at h
 | k + 1 => by
  have ih0 := slices_Index_int_int.mono_l k
  ·
   intro y0 y1 y2 y3
   unfold slices_Index_int_int.l0
   repeat' first
   | (with_reducible exact ih0 _ _ _ _)
   | (with_reducible exact LeO.refl _)
   | (with_reducible exact LeO.none _)
   | (with_reducible refine LeO.ite ?_ ?_)
   | (with_reducible refine LeO.bind ?_ (fun _ => ?_))
   | exact ih0 _ _ _ _
   | exact LeO.none _
   | refine LeO.ite ?_ ?_
   | refine LeO.bind ?_ (fun _ => ?_)
theorem slices_Index_int_int.mono : ∀ a0 a1 k, LeO (slices_Index_int_int.f k a0 a1) (slices_Index_int_int.f (k + 1) a0 a1) := by
 intro a0 a1 k
 have ih0 := slices_Index_int_int.mono_l k
 unfold slices_Index_int_int.f
 repeat' first
   | exact ih0 _ _ _ _
   | exact LeO.none _
   | refine LeO.ite ?_ ?_
   | refine LeO.bind ?_ (fun _ => ?_)
set_option maxHeartbeats 8000000 in
set_option maxRecDepth 100000 in
theorem slices_Index_int_int.calls (k : Nat) (A0 : Option Addr) (c0 : Nat) (l0 : List Int) (a1 : Int) (r : Int) (w : World) (hr0 : Kd.C (Kd.int .i64) w A0 l0.length l0) (hc0 : l0.length ≤ c0) (h : slices_Index_int_int.f k l0 a1 = some r) :
  Calls Try.prog 99 #[.slice A0 l0.length c0, .int .i64 a1] w fun e w' => e = .returned (.int .i64 r) ∧ Drawn0 w w' := by
 have HR0 := Aside0.mk hr0
 have HC0 := Aside0.mk hc0
 clear hr0 hc0
 have H : (slices_Index_int_int.l0 k l0 a1 (l0.length : Int) 0) = some r := h
 clear h
 have H' := Aside0.mk H
 clear H
 go_enter Try.func99, Try.ntmps99
 go_wp2
 go_loopg [8] k (fun kq v8 w' => ∃ (x8_1 : Int), v8 = .int .i64 x8_1 ∧ Aside0 (slices_Index_int_int.l0 kq l0 a1 (l0.length : Int) x8_1 = some r) ∧ Aside0 (kq ≤ k) ∧ Drawn0 w w')
 case atStart => exact ⟨(0), rfl, H', ⟨Nat.le_refl _⟩, by repeat (first | exact Drawn0.refl _ | apply Drawn0.step)⟩
 case round =>
  clear H'
  obtain ⟨x8_1, rfl, HA, HK1, ⟨m1, rfl⟩⟩ := hrel
  cases gk with
  | zero => exact absurd HA.out (by simp [slices_Index_int_int.l0])
  | succ k1 =>
   have H := HA.out
   clear HA
   simp only [slices_Index_int_int.l0] at H
   by_cases c3 : x8_1 < (l0.length : Int)
   ·
    rw [if_pos c3] at H
    have c3b0 : decide (x8_1 < (l0.length : Int)) = true := decide_eq_true c3
    clear c3
    by_cases c4 : 0 ≤ x8_1
    ·
     rw [if_pos c4] at H
     have c4b0 : decide (0 ≤ x8_1) = true := decide_eq_true c4
     clear c4
     by_cases c5 : x8_1 < (l0.length : Int)
     ·
      rw [if_pos c5] at H
      have c5b0 : decide (x8_1 < (l0.length : Int)) = true := decide_eq_true c5
      clear c5
      by_cases c6 : a1 = (rd l0 x8_1)
      ·
       rw [if_pos c6] at H
       have c6b0 : (a1 == (rd l0 x8_1)) = true := beq_iff_eq.mpr c6
       clear c6
       obtain rfl := Option.some.inj H
       have p224 : 0 ≤ (x8_1 : Int) := of_decide_eq_true (by assumption)
       have q224 : x8_1 < (l0.length : Int) := of_decide_eq_true (by assumption)
       obtain ⟨ad224, e224, hx224_0⟩ := Kd.at_int HR0.out x8_1 p224 q224
       cases e224
       replace p224 := eq_true p224
       replace q224 := eq_true q224
       go_wp2
       go_ret
       exact ⟨by first | rfl | (simp; done) | (simp [*]; done), by repeat (first | exact Drawn0.refl _ | apply Drawn0.step)⟩
      ·
       rw [if_neg c6] at H
       have c6b0 : (a1 == (rd l0 x8_1)) = false := beq_eq_false_iff_ne.mpr c6
       have H' := Aside0.mk H
       clear H
       have p224 : 0 ≤ (x8_1 : Int) := of_decide_eq_true (by assumption)
       have q224 : x8_1 < (l0.length : Int) := of_decide_eq_true (by assumption)
       obtain ⟨ad224, e224, hx224_0⟩ := Kd.at_int HR0.out x8_1 p224 q224
       cases e224
       replace p224 := eq_true p224
       replace q224 := eq_true q224
       go_wp2
       go_roundg k1
       case measure => have := HK1.out; omega
       case rel => exact ⟨(wrap64 (x8_1 + 1)), rfl, H', ⟨by have := HK1.out; omega⟩, by repeat (first | exact Drawn0.refl _ | apply Drawn0.step)⟩
     ·
      rw [if_neg c5] at H
      exact absurd H (by simp)
    ·
     rw [if_neg c4] at H
     exact absurd H (by simp)
   ·
    rw [if_neg c3] at H
    have c3b0 : decide (x8_1 < (l0.length : Int)) = false := decide_eq_false c3
    clear c3
    obtain rfl := Option.some.inj H
    go_wp2
    go_ret
    exact ⟨by first | rfl | (simp; done) | (simp [*]; done), by repeat (first | exact Drawn0.refl _ | apply Drawn0.step)⟩

def slices_Contains_int_int.f (k : Nat) (l0 : List Int) (a1 : Int) : Option (Bool) := (slices_Index_int_int.f k l0 a1).bind fun t225 => (some (decide (t225 ≥ 0)))
theorem slices_Contains_int_int.mono : ∀ a0 a1 k, LeO (slices_Contains_int_int.f k a0 a1) (slices_Contains_int_int.f (k + 1) a0 a1) := by
 intro a0 a1 k
 unfold slices_Contains_int_int.f
 repeat' first
   | (with_reducible exact slices_Index_int_int.mono _ _ _)
   | (with_reducible exact LeO.refl _)
   | (with_reducible exact LeO.none _)
   | (with_reducible refine LeO.ite ?_ ?_)
   | (with_reducible refine LeO.bind ?_ (fun _ => ?_))
   | exact slices_Index_int_int.mono _ _ _
   | exact LeO.none _
   | refine LeO.ite ?_ ?_
   | refine LeO.bind ?_ (fun _ => ?_)
set_option maxHeartbeats 8000000 in
set_option maxRecDepth 100000 in
theorem slices_Contains_int_int.calls (k : Nat) (A0 : Option Addr) (c0 : Nat) (l0 : List Int) (a1 : Int) (r : Bool) (w : World) (hr0 : Kd.C (Kd.int .i64) w A0 l0.length l0) (hc0 : l0.length ≤ c0) (h : slices_Contains_int_int.f k l0 a1 = some r) :
  Calls Try.prog 82 #[.slice A0 l0.length c0, .int .i64 a1] w fun e w' => e = .returned (.bool r) ∧ Drawn0 w w' := by
 have HR0 := Aside0.mk hr0
 have HC0 := Aside0.mk hc0
 clear hr0 hc0
 have H : ((slices_Index_int_int.f k l0 a1).bind fun t225 => (some (decide (t225 ≥ 0)))) = some r := h
 clear h
 replace H := Option.bind_eq_some_iff.mp H
 obtain ⟨t225, A30, H⟩ := H
 replace H : (some (decide (t225 ≥ 0))) = some r := H
 have A3 := Aside0.mk A30
 clear A30
 obtain rfl := Option.some.inj H
 go_enter Try.func82, Try.ntmps82
 go_wp2_with (first | ((with_reducible refine gate_callee (f := 99) rfl ?_); refine goesL_ (some 7) rfl rfl Try.func99 (by kernel_rfl) rfl #[.slice A0 l0.length c0, .int .i64 a1] rfl (by (try simp only [List.map_toArray, List.map_cons, List.map_nil]); first | done | rfl | (simp only [List.length_drop, List.length_take]; rfl)) ?_; (with_reducible refine (slices_Index_int_int.calls k _ _ l0 a1 t225 _ ?side1 ?side2 A3.out).mono ?_); (case side1 => repeat (first | exact HR0.out)); (case side2 => exact HC0.out); rintro e w' ⟨rfl, ⟨nd, rfl⟩⟩; refine ⟨_, rfl, ?_⟩))
 go_ret
 exact ⟨by first | rfl | (simp; done) | (simp [*]; done), by repeat (first | exact Drawn0.refl _ | apply Drawn0.step)⟩

def lgconnected_1.f (k : Nat) (l0 : List Int) : Option (Bool) := (line_never_int.f).bind fun t226 => ((slices_Contains_int_int.f k l0 t226).bind fun t227 => (some t227))
theorem lgconnected_1.mono : ∀ a0 k, LeO (lgconnected_1.f k a0) (lgconnected_1.f (k + 1) a0) := by
 intro a0 k
 unfold lgconnected_1.f
 repeat' first
   | (with_reducible exact slices_Contains_int_int.mono _ _ _)
   | (with_reducible exact LeO.refl _)
   | (with_reducible exact LeO.none _)
   | (with_reducible refine LeO.ite ?_ ?_)
   | (with_reducible refine LeO.bind ?_ (fun _ => ?_))
   | exact slices_Contains_int_int.mono _ _ _
   | exact LeO.none _
   | refine LeO.ite ?_ ?_
   | refine LeO.bind ?_ (fun _ => ?_)
set_option maxHeartbeats 8000000 in
set_option maxRecDepth 100000 in
theorem lgconnected_1.calls (k : Nat) (A0 : Option Addr) (c0 : Nat) (l0 : List Int) (r : Bool) (w : World) (hr0 : Kd.C (Kd.int .i64) w A0 l0.length l0) (hc0 : l0.length ≤ c0) (h : lgconnected_1.f k l0 = some r) :
  Calls Try.prog 81 #[.slice A0 l0.length c0] w fun e w' => e = .returned (.bool r) ∧ Drawn0 w w' := by
 have HR0 := Aside0.mk hr0
 have HC0 := Aside0.mk hc0
 clear hr0 hc0
 have H : ((line_never_int.f).bind fun t226 => ((slices_Contains_int_int.f k l0 t226).bind fun t227 => (some t227))) = some r := h
 clear h
 replace H := Option.bind_eq_some_iff.mp H
 obtain ⟨t226, A20, H⟩ := H
 replace H : ((slices_Contains_int_int.f k l0 t226).bind fun t227 => (some t227)) = some r := H
 have A2 := Aside0.mk A20
 clear A20
 replace H := Option.bind_eq_some_iff.mp H
 obtain ⟨t227, A30, H⟩ := H
 replace H : (some t227) = some r := H
 have A3 := Aside0.mk A30
 clear A30
 obtain rfl := Option.some.inj H
 go_enter Try.func81, Try.ntmps81
 go_wp2_with (first | ((with_reducible refine gate_callee (f := 83) rfl ?_); refine goesL_ (some 4) rfl rfl Try.func83 (by kernel_rfl) rfl #[] rfl (by (try simp only [List.map_toArray, List.map_cons, List.map_nil]); first | done | rfl | (simp only [List.length_drop, List.length_take]; rfl)) ?_; (with_reducible refine (line_never_int.calls  t226 _ A2.out).mono ?_); rintro e w' ⟨rfl, ⟨nd, rfl⟩⟩; refine ⟨_, rfl, ?_⟩) | ((with_reducible refine gate_callee (f := 82) rfl ?_); refine goesL_ (some 5) rfl rfl Try.func82 (by kernel_rfl) rfl #[.slice A0 l0.length c0, .int .i64 t226] rfl (by (try simp only [List.map_toArray, List.map_cons, List.map_nil]); first | done | rfl | (simp only [List.length_drop, List.length_take]; rfl)) ?_; (with_reducible refine (slices_Contains_int_int.calls k _ _ l0 t226 t227 _ ?side1 ?side2 A3.out).mono ?_); (case side1 => repeat (first | exact HR0.out)); (case side2 => exact HC0.out); rintro e w' ⟨rfl, ⟨nd, rfl⟩⟩; refine ⟨_, rfl, ?_⟩))
 go_ret
 exact ⟨by first | rfl | (simp; done) | (simp [*]; done), by repeat (first | exact Drawn0.refl _ | apply Drawn0.step)⟩

def sifconnected_1.l0 : Nat → List (List Int) → Int → Int → Option (Int)
 | 0, _, _, _ => none
 | k + 1, x0, x7, x8 => if x8 < x7 then (if 0 ≤ x8 then (if x8 < (x0.length : Int) then ((lgconnected_1.f k (rd_L1 x0 x8)).bind fun t229 => (if t229 = true then (some x8) else (sifconnected_1.l0 k x0 x7 (wrap64 (x8 + 1))))) else (none)) else (none)) else (some (-1))
def sifconnected_1.f (k : Nat) (l0 : List (List Int)) (a1 : Int) : Option (Int) := sifconnected_1.l0 k l0 (l0.length : Int) 0
theorem sifconnected_1.mono_l : ∀ k, (∀ y0 y1 y2, LeO (sifconnected_1.l0 k y0 y1 y2) (sifconnected_1.l0 (k + 1) y0 y1 y2))
 | 0 => fun _ _ _ r h => by simp [sifconnected_1.l0] at h
 | k + 1 => by
  have ih0 := sifconnected_1.mono_l k
  ·
   intro y0 y1 y2
   unfold sifconnected_1.l0
   repeat' first
   | (with_reducible exact ih0 _ _ _)
   | (with_reducible exact lgconnected_1.mono _ _)
   | (with_reducible exact LeO.refl _)
   | (with_reducible exact LeO.none _)
   | (with_reducible refine LeO.ite ?_ ?_)
   | (with_reducible refine LeO.bind ?_ (fun _ => ?_))
   | exact ih0 _ _ _
   | exact lgconnected_1.mono _ _
   | exact LeO.none _
   | refine LeO.ite ?_ ?_
   | refine LeO.bind ?_ (fun _ => ?_)
theorem sifconnected_1.mono : ∀ a0 a1 k, LeO (sifconnected_1.f k a0 a1) (sifconnected_1.f (k + 1) a0 a1) := by
 intro a0 a1 k
 have ih0 := sifconnected_1.mono_l k
 unfold sifconnected_1.f
 repeat' first
   | exact ih0 _ _ _
   | exact lgconnected_1.mono _ _
   | exact LeO.none _
   | refine LeO.ite ?_ ?_
   | refine LeO.bind ?_ (fun _ => ?_)
set_option maxHeartbeats 8000000 in
set_option maxRecDepth 100000 in
theorem sifconnected_1.calls (k : Nat) (A0 : Option Addr) (c0 : Nat) (l0 : List (List Int)) (a1 : Int) (r : Int) (w : World) (hr0 : Kd.C (Kd.slice 3 (Kd.int .i64)) w A0 l0.length l0) (hc0 : l0.length ≤ c0) (h : sifconnected_1.f k l0 a1 = some r) :
  Calls Try.prog 97 #[.slice A0 l0.length c0, .func (.func 81) #[] #[]] w fun e w' => e = .returned (.int .i64 r) ∧ Drawn0 w w' := by
 have HR0 := Aside0.mk hr0
 have HC0 := Aside0.mk hc0
 clear hr0 hc0
 have H : (sifconnected_1.l0 k l0 (l0.length : Int) 0) = some r := h
 clear h
 have H' := Aside0.mk H
 clear H
 go_enter Try.func97, Try.ntmps97
 go_wp2
 go_loopg [8] k (fun kq v8 w' => ∃ (x8_1 : Int), v8 = .int .i64 x8_1 ∧ Aside0 (sifconnected_1.l0 kq l0 (l0.length : Int) x8_1 = some r) ∧ Aside0 (kq ≤ k) ∧ Drawn0 w w')
 case atStart => exact ⟨(0), rfl, H', ⟨Nat.le_refl _⟩, by repeat (first | exact Drawn0.refl _ | apply Drawn0.step)⟩
 case round =>
  clear H'
  obtain ⟨x8_1, rfl, HA, HK1, ⟨m1, rfl⟩⟩ := hrel
  cases gk with
  | zero => exact absurd HA.out (by simp [sifconnected_1.l0])
  | succ k1 =>
   have H := HA.out
   clear HA
   simp only [sifconnected_1.l0] at H
   by_cases c3 : x8_1 < (l0.length : Int)
   ·
    rw [if_pos c3] at H
    have c3b0 : decide (x8_1 < (l0.length : Int)) = true := decide_eq_true c3
    clear c3
    by_cases c4 : 0 ≤ x8_1
    ·
     rw [if_pos c4] at H
     have c4b0 : decide (0 ≤ x8_1) = true := decide_eq_true c4
     clear c4
     by_cases c5 : x8_1 < (l0.length : Int)
     ·
      rw [if_pos c5] at H
      have c5b0 : decide (x8_1 < (l0.length : Int)) = true := decide_eq_true c5
      clear c5
      replace H := Option.bind_eq_some_iff.mp H
      obtain ⟨t229, A60, H⟩ := H
      replace H : (if t229 = true then (some x8_1) else (sifconnected_1.l0 k1 l0 (l0.length : Int) (wrap64 (x8_1 + 1)))) = some r := H
      have A6 := Aside0.mk A60
      clear A60
      by_cases c7 : t229 = true
      ·
       subst c7
       have H1 : (some x8_1) = some r := by rw [if_pos rfl] at H; exact H
       clear H
       have H := H1
       clear H1
       obtain rfl := Option.some.inj H
       have p228 : 0 ≤ (x8_1 : Int) := of_decide_eq_true (by assumption)
       have q228 : x8_1 < (l0.length : Int) := of_decide_eq_true (by assumption)
       obtain ⟨ad228, A228_0, c228_0, e228, hx228_0, hl228_0, hi228_0⟩ := at_L1 HR0.out x8_1 p228 q228
       cases e228
       have HR228_0 := Aside0.mk hi228_0
       have HC228_0 := Aside0.mk hl228_0
       clear hi228_0 hl228_0
       replace p228 := eq_true p228
       replace q228 := eq_true q228
       go_wp2_with (first | (go_at_call 81; (with_reducible refine (lgconnected_1.calls k1 _ _ (rd_L1 l0 x8_1) true _ ?side1 ?side2 A6.out).mono ?_); (case side1 => repeat (first | exact HR228_0.out)); (case side2 => exact HC228_0.out); rintro e w' ⟨rfl, ⟨nd, rfl⟩⟩))
       go_ret
       exact ⟨by first | rfl | (simp; done) | (simp [*]; done), by repeat (first | exact Drawn0.refl _ | apply Drawn0.step)⟩
      ·
       replace c7 := Bool.eq_false_iff.mpr c7
       subst c7
       have H1 : (sifconnected_1.l0 k1 l0 (l0.length : Int) (wrap64 (x8_1 + 1))) = some r := by rw [if_neg (show ¬ (false = true) by decide)] at H; exact H
       clear H
       have H := H1
       clear H1
       have H' := Aside0.mk H
       clear H
       have p228 : 0 ≤ (x8_1 : Int) := of_decide_eq_true (by assumption)
       have q228 : x8_1 < (l0.length : Int) := of_decide_eq_true (by assumption)
       obtain ⟨ad228, A228_0, c228_0, e228, hx228_0, hl228_0, hi228_0⟩ := at_L1 HR0.out x8_1 p228 q228
       cases e228
       have HR228_0 := Aside0.mk hi228_0
       have HC228_0 := Aside0.mk hl228_0
       clear hi228_0 hl228_0
       replace p228 := eq_true p228
       replace q228 := eq_true q228
       go_wp2_with (first | (go_at_call 81; (with_reducible refine (lgconnected_1.calls k1 _ _ (rd_L1 l0 x8_1) false _ ?side1 ?side2 A6.out).mono ?_); (case side1 => repeat (first | exact HR228_0.out)); (case side2 => exact HC228_0.out); rintro e w' ⟨rfl, ⟨nd, rfl⟩⟩))
       go_roundg k1
       case measure => have := HK1.out; omega
       case rel => exact ⟨(wrap64 (x8_1 + 1)), rfl, H', ⟨by have := HK1.out; omega⟩, by repeat (first | exact Drawn0.refl _ | apply Drawn0.step)⟩
     ·
      rw [if_neg c5] at H
      exact absurd H (by simp)
    ·
     rw [if_neg c4] at H
     exact absurd H (by simp)
   ·
    rw [if_neg c3] at H
    have c3b0 : decide (x8_1 < (l0.length : Int)) = false := decide_eq_false c3
    clear c3
    obtain rfl := Option.some.inj H
    go_wp2
    go_ret
    exact ⟨by first | rfl | (simp; done) | (simp [*]; done), by repeat (first | exact Drawn0.refl _ | apply Drawn0.step)⟩

def scfconnected_1.f (k : Nat) (l0 : List (List Int)) (a1 : Int) : Option (Bool) := (sifconnected_1.f k l0 a1).bind fun t230 => (some (decide (t230 ≥ 0)))
theorem scfconnected_1.mono : ∀ a0 a1 k, LeO (scfconnected_1.f k a0 a1) (scfconnected_1.f (k + 1) a0 a1) := by
 intro a0 a1 k
 unfold scfconnected_1.f
 repeat' first
   | (with_reducible exact sifconnected_1.mono _ _ _)
   | (with_reducible exact LeO.refl _)
   | (with_reducible exact LeO.none _)
   | (with_reducible refine LeO.ite ?_ ?_)
   | (with_reducible refine LeO.bind ?_ (fun _ => ?_))
   | exact sifconnected_1.mono _ _ _
   | exact LeO.none _
   | refine LeO.ite ?_ ?_
   | refine LeO.bind ?_ (fun _ => ?_)
set_option maxHeartbeats 8000000 in
set_option maxRecDepth 100000 in
theorem scfconnected_1.calls (k : Nat) (A0 : Option Addr) (c0 : Nat) (l0 : List (List Int)) (a1 : Int) (r : Bool) (w : World) (hr0 : Kd.C (Kd.slice 3 (Kd.int .i64)) w A0 l0.length l0) (hc0 : l0.length ≤ c0) (h : scfconnected_1.f k l0 a1 = some r) :
  Calls Try.prog 79 #[.slice A0 l0.length c0, .func (.func 81) #[] #[]] w fun e w' => e = .returned (.bool r) ∧ Drawn0 w w' := by
 have HR0 := Aside0.mk hr0
 have HC0 := Aside0.mk hc0
 clear hr0 hc0
 have H : ((sifconnected_1.f k l0 a1).bind fun t230 => (some (decide (t230 ≥ 0)))) = some r := h
 clear h
 replace H := Option.bind_eq_some_iff.mp H
 obtain ⟨t230, A30, H⟩ := H
 replace H : (some (decide (t230 ≥ 0))) = some r := H
 have A3 := Aside0.mk A30
 clear A30
 obtain rfl := Option.some.inj H
 go_enter Try.func79, Try.ntmps79
 go_wp2_with (first | ((with_reducible refine gate_callee (f := 97) rfl ?_); refine goesL_ (some 7) rfl rfl Try.func97 (by kernel_rfl) rfl #[.slice A0 l0.length c0, .func (.func 81) #[] #[]] rfl (by (try simp only [List.map_toArray, List.map_cons, List.map_nil]); first | done | rfl | (simp only [List.length_drop, List.length_take]; rfl)) ?_; (with_reducible refine (sifconnected_1.calls k _ _ l0 a1 t230 _ ?side1 ?side2 A3.out).mono ?_); (case side1 => repeat (first | exact HR0.out)); (case side2 => exact HC0.out); rintro e w' ⟨rfl, ⟨nd, rfl⟩⟩; refine ⟨_, rfl, ?_⟩))
 go_ret
 exact ⟨by first | rfl | (simp; done) | (simp [*]; done), by repeat (first | exact Drawn0.refl _ | apply Drawn0.step)⟩

def lgconnected.f (k : Nat) (l0 : List (List Int)) : Option (Bool) := (lgreach.f k l0).bind fun t231 => ((scfconnected_1.f k t231 0).bind fun t234 => (some (!t234)))
theorem lgconnected.mono : ∀ a0 k, LeO (lgconnected.f k a0) (lgconnected.f (k + 1) a0) := by
 intro a0 k
 unfold lgconnected.f
 repeat' first
   | (with_reducible exact lgreach.mono _ _)
   | (with_reducible exact scfconnected_1.mono _ _ _)
   | (with_reducible exact LeO.refl _)
   | (with_reducible exact LeO.none _)
   | (with_reducible refine LeO.ite ?_ ?_)
   | (with_reducible refine LeO.bind ?_ (fun _ => ?_))
   | exact lgreach.mono _ _
   | exact scfconnected_1.mono _ _ _
   | exact LeO.none _
   | refine LeO.ite ?_ ?_
   | refine LeO.bind ?_ (fun _ => ?_)
set_option maxHeartbeats 8000000 in
set_option maxRecDepth 100000 in
theorem lgconnected.calls (k : Nat) (A0 : Option Addr) (c0 : Nat) (l0 : List (List Int)) (r : Bool) (w : World) (hr0 : Kd.C (Kd.slice 3 (Kd.int .i64)) w A0 l0.length l0) (hc0 : l0.length ≤ c0) (h : lgconnected.f k l0 = some r) :
  Calls Try.prog 46 #[.slice A0 l0.length c0] w fun e w' => e = .returned (.bool r) ∧ Below w.heap.size w w' := by
 have HR0 := Aside0.mk hr0
 have HC0 := Aside0.mk hc0
 clear hr0 hc0
 have HB := Aside0.mk (Below.refl w.heap.size w)
 have H : ((lgreach.f k l0).bind fun t231 => ((scfconnected_1.f k t231 0).bind fun t234 => (some (!t234)))) = some r := h
 clear h
 replace H := Option.bind_eq_some_iff.mp H
 obtain ⟨t231, A20, H⟩ := H
 replace H : ((scfconnected_1.f k t231 0).bind fun t234 => (some (!t234))) = some r := H
 have A2 := Aside0.mk A20
 clear A20
 replace H := Option.bind_eq_some_iff.mp H
 obtain ⟨t234, A30, H⟩ := H
 replace H : (some (!t234)) = some r := H
 have A3 := Aside0.mk A30
 clear A30
 obtain rfl := Option.some.inj H
 go_enter Try.func46, Try.ntmps46
 go_wp2_with (first | ((with_reducible refine gate_callee (f := 80) rfl ?_); refine goesL_ (some 4) rfl rfl Try.func80 (by kernel_rfl) rfl #[.slice A0 l0.length c0] rfl (by (try simp only [List.map_toArray, List.map_cons, List.map_nil]); first | done | rfl | (simp only [List.length_drop, List.length_take]; rfl)) ?_; (with_reducible refine (lgreach.calls k _ _ l0 t231 _ ?side1 ?side2 A2.out).mono ?_); (case side1 => repeat (first | exact HR0.out)); (case side2 => exact HC0.out); rintro e w4 ⟨v232, rfl, ho0, hb⟩; refine ⟨_, rfl, ?_⟩; have n0_ := Aside0.mk (Kd.S_lower ho0 (below_size (HB.out))); have n1_ := Aside0.mk (below_step (HB.out) hb); clear HB; have HO233 := n0_; have HB := n1_; clear n0_ n1_; obtain ⟨Ao5, co5, eo5⟩ := Kd.S_slice HO233.out; subst eo5) | ((with_reducible refine gate_callee (f := 79) rfl ?_); refine goesL_ (some 5) rfl rfl Try.func79 (by kernel_rfl) rfl #[.slice Ao5 t231.length co5, .func (.func 81) #[] #[]] rfl (by (try simp only [List.map_toArray, List.map_cons, List.map_nil]); first | done | rfl | (simp only [List.length_drop, List.length_take]; rfl)) ?_; (with_reducible refine (scfconnected_1.calls k _ _ t231 0 t234 _ ?side1 ?side2 A3.out).mono ?_); (case side1 => repeat (first | exact (Kd.S_reads' HO233.out).2.2)); (case side2 => exact (Kd.S_reads' HO233.out).2.1); rintro e w' ⟨rfl, ⟨nd, rfl⟩⟩; refine ⟨_, rfl, ?_⟩))
 go_ret
 exact ⟨rfl, by repeat (first | exact HB.out | apply below_alloc | apply pw_below_drewN | apply below_drew1)⟩

def llcritical.f (l0_0 : List (List Int)) (a0_1 : Int) (a0_2 : Int) (l0_3 : List (List Int)) (l0_4 : List (List Int)) (a1 : Int) (a2 : Int) : Option (Bool) := if 0 ≤ a1 then (if a1 < (l0_3.length : Int) then (if 0 ≤ a2 then (if a2 < ((rd_L1 l0_3 a1).length : Int) then (if a2 < (l0_4.length : Int) then (if a1 < ((rd_L1 l0_4 a2).length : Int) then ((line_both_int.f (rd (rd_L1 l0_3 a1) a2) (rd (rd_L1 l0_4 a2) a1)).bind fun t240 => (some (t240 == 0))) else (none)) else (none)) else (none)) else (none)) else (none)) else (none)
set_option maxHeartbeats 8000000 in
set_option maxRecDepth 100000 in
theorem llcritical.calls (A0_0 : Option Addr) (c0_0 : Nat) (l0_0 : List (List Int)) (a0_1 : Int) (a0_2 : Int) (A0_3 : Option Addr) (c0_3 : Nat) (l0_3 : List (List Int)) (A0_4 : Option Addr) (c0_4 : Nat) (l0_4 : List (List Int)) (a1 : Int) (a2 : Int) (r : Bool) (w : World) (hr0_0 : Kd.C (Kd.slice 3 (Kd.int .i64)) w A0_0 l0_0.length l0_0) (hc0_0 : l0_0.length ≤ c0_0) (hr0_3 : Kd.C (Kd.slice 3 (Kd.int .i64)) w A0_3 l0_3.length l0_3) (hc0_3 : l0_3.length ≤ c0_3) (hr0_4 : Kd.C (Kd.slice 3 (Kd.int .i64)) w A0_4 l0_4.length l0_4) (hc0_4 : l0_4.length ≤ c0_4) (h : llcritical.f l0_0 a0_1 a0_2 l0_3 l0_4 a1 a2 = some r) :
  Calls Try.prog 84 #[.agg #[.slice A0_0 l0_0.length c0_0, .int .i64 a0_1, .int .i64 a0_2, .slice A0_3 l0_3.length c0_3, .slice A0_4 l0_4.length c0_4], .int .i64 a1, .int .i64 a2] w fun e w' => e = .returned (.bool r) ∧ Below w.heap.size w w' := by
 have hu58 := Try.underlying58
 have HR0_0 := Aside0.mk hr0_0
 have HC0_0 := Aside0.mk hc0_0
 clear hr0_0 hc0_0
 have HR0_3 := Aside0.mk hr0_3
 have HC0_3 := Aside0.mk hc0_3
 clear hr0_3 hc0_3
 have HR0_4 := Aside0.mk hr0_4
 have HC0_4 := Aside0.mk hc0_4
 clear hr0_4 hc0_4
 have HB := Aside0.mk (Below.refl w.heap.size w)
 have H : (if 0 ≤ a1 then (if a1 < (l0_3.length : Int) then (if 0 ≤ a2 then (if a2 < ((rd_L1 l0_3 a1).length : Int) then (if a2 < (l0_4.length : Int) then (if a1 < ((rd_L1 l0_4 a2).length : Int) then ((line_both_int.f (rd (rd_L1 l0_3 a1) a2) (rd (rd_L1 l0_4 a2) a1)).bind fun t240 => (some (t240 == 0))) else (none)) else (none)) else (none)) else (none)) else (none)) else (none)) = some r := h
 clear h
 by_cases c4 : 0 ≤ a1
 ·
  rw [if_pos c4] at H
  have c4b0 : decide (0 ≤ a1) = true := decide_eq_true c4
  clear c4
  by_cases c5 : a1 < (l0_3.length : Int)
  ·
   rw [if_pos c5] at H
   have c5b0 : decide (a1 < (l0_3.length : Int)) = true := decide_eq_true c5
   clear c5
   by_cases c6 : 0 ≤ a2
   ·
    rw [if_pos c6] at H
    have c6b0 : decide (0 ≤ a2) = true := decide_eq_true c6
    clear c6
    by_cases c7 : a2 < ((rd_L1 l0_3 a1).length : Int)
    ·
     rw [if_pos c7] at H
     have c7b0 : decide (a2 < ((rd_L1 l0_3 a1).length : Int)) = true := decide_eq_true c7
     clear c7
     by_cases c8 : a2 < (l0_4.length : Int)
     ·
      rw [if_pos c8] at H
      have c8b0 : decide (a2 < (l0_4.length : Int)) = true := decide_eq_true c8
      clear c8
      by_cases c9 : a1 < ((rd_L1 l0_4 a2).length : Int)
      ·
       rw [if_pos c9] at H
       have c9b0 : decide (a1 < ((rd_L1 l0_4 a2).length : Int)) = true := decide_eq_true c9
       clear c9
       replace H := Option.bind_eq_some_iff.mp H
       obtain ⟨t240, A100, H⟩ := H
       replace H : (some (t240 == 0)) = some r := H
       have A10 := Aside0.mk A100
       clear A100
       obtain rfl := Option.some.inj H
       go_enter Try.func84, Try.ntmps84
       go_wp2_with (first | ((with_reducible refine gate_dst (N := 3) rfl ?_); refine box_event ?hg (N := 3) ?hd (cs := #[.slice A0_0 l0_0.length c0_0, .int .i64 a0_1, .int .i64 a0_2, .slice A0_3 l0_3.length c0_3, .slice A0_4 l0_4.length c0_4]) (t := 58) ?hr ?_; (case hd => rfl); (case hg => rfl); (case hr => go_simp); intro gb235 hg w11 hbox hb; have n0_ := Aside0.mk (below_step (by repeat (first | exact HB.out | apply below_alloc | apply pw_below_drewN | apply below_drew1)) hb); have n1_ := Aside0.mk (hbox); have n2_ := Aside0.mk ((by rw [hg]; exact (below_size (by repeat (first | exact HB.out | apply below_alloc | apply pw_below_drewN | apply below_drew1))) : w.heap.size ≤ gb235)); have n3_ := Aside0.mk ((by rw [hg]; exact (below_size (by repeat (first | exact HB.out | apply below_alloc | apply pw_below_drewN | apply below_drew1))) : w.heap.size ≤ gb235)); clear HB; have HB := n0_; have BK235 := n1_; have GW235 := n2_; have GE235 := n3_; clear n0_ n1_ n2_ n3_; clear hb hbox hg; have hcz12_0 : w11.cell? ⟨gb235, 0, none⟩ = some (.slice A0_0 l0_0.length c0_0) := (blk_cell BK235.out 0).trans rfl; have hcz12_1 : w11.cell? ⟨gb235, 1, none⟩ = some (.int .i64 a0_1) := (blk_cell BK235.out 1).trans rfl; have hcz12_2 : w11.cell? ⟨gb235, 2, none⟩ = some (.int .i64 a0_2) := (blk_cell BK235.out 2).trans rfl; have hcz12_3 : w11.cell? ⟨gb235, 3, none⟩ = some (.slice A0_3 l0_3.length c0_3) := (blk_cell BK235.out 3).trans rfl; have hcz12_4 : w11.cell? ⟨gb235, 4, none⟩ = some (.slice A0_4 l0_4.length c0_4) := (blk_cell BK235.out 4).trans rfl; have hfz12_0 := blk_frozen BK235.out 0; have hfz12_1 := blk_frozen BK235.out 1; have hfz12_2 := blk_frozen BK235.out 2; have hfz12_3 := blk_frozen BK235.out 3; have hfz12_4 := blk_frozen BK235.out 4; have p236 : 0 ≤ (a1 : Int) := of_decide_eq_true (by assumption); have q236 : a1 < (l0_3.length : Int) := of_decide_eq_true (by assumption); obtain ⟨ad236, A236_0, c236_0, e236, hx236_0, hl236_0, hi236_0⟩ := at_L1 HR0_3.out a1 p236 q236; cases e236; replace hx236_0 := (HB.out.cell (World.block_lt_of_cell? w _ hx236_0)).trans hx236_0; have HR236_0 := Aside0.mk hi236_0; have HC236_0 := Aside0.mk hl236_0; clear hi236_0 hl236_0; replace p236 := eq_true p236; replace q236 := eq_true q236; have p237 : 0 ≤ (a2 : Int) := of_decide_eq_true (by assumption); have q237 : a2 < ((rd_L1 l0_3 a1).length : Int) := of_decide_eq_true (by assumption); obtain ⟨ad237, e237, hx237_0⟩ := Kd.at_int HR236_0.out a2 p237 q237; cases e237; replace hx237_0 := (HB.out.cell (World.block_lt_of_cell? w _ hx237_0)).trans hx237_0; replace p237 := eq_true p237; replace q237 := eq_true q237; have p238 : 0 ≤ (a2 : Int) := of_decide_eq_true (by assumption); have q238 : a2 < (l0_4.length : Int) := of_decide_eq_true (by assumption); obtain ⟨ad238, A238_0, c238_0, e238, hx238_0, hl238_0, hi238_0⟩ := at_L1 HR0_4.out a2 p238 q238; cases e238; replace hx238_0 := (HB.out.cell (World.block_lt_of_cell? w _ hx238_0)).trans hx238_0; have HR238_0 := Aside0.mk hi238_0; have HC238_0 := Aside0.mk hl238_0; clear hi238_0 hl238_0; replace p238 := eq_true p238; replace q238 := eq_true q238; have p239 : 0 ≤ (a1 : Int) := of_decide_eq_true (by assumption); have q239 : a1 < ((rd_L1 l0_4 a2).length : Int) := of_decide_eq_true (by assumption); obtain ⟨ad239, e239, hx239_0⟩ := Kd.at_int HR238_0.out a1 p239 q239; cases e239; replace hx239_0 := (HB.out.cell (World.block_lt_of_cell? w _ hx239_0)).trans hx239_0; replace p239 := eq_true p239; replace q239 := eq_true q239) | (go_at_call 91; (with_reducible refine (line_both_int.calls (rd (rd_L1 l0_3 a1) a2) (rd (rd_L1 l0_4 a2) a1) t240 _ A10.out).mono ?_); rintro e w' ⟨rfl, ⟨nd, rfl⟩⟩; (try first | exact ⟨rfl, _, World.drewN_drewN _ _ _⟩ | exact ⟨rfl, _, Eq.trans (World.drewN_drewN _ _ _) (congrArg (World.drewN _) (Nat.add_assoc _ _ _))⟩)))
       repeat (go_quiet (first | ((with_reducible refine gate_dst (N := 3) rfl ?_); refine box_event ?hg (N := 3) ?hd (cs := #[.slice A0_0 l0_0.length c0_0, .int .i64 a0_1, .int .i64 a0_2, .slice A0_3 l0_3.length c0_3, .slice A0_4 l0_4.length c0_4]) (t := 58) ?hr ?_; (case hd => rfl); (case hg => rfl); (case hr => go_simp); intro gb235 hg w11 hbox hb; have n0_ := Aside0.mk (below_step (by repeat (first | exact HB.out | apply below_alloc | apply pw_below_drewN | apply below_drew1)) hb); have n1_ := Aside0.mk (hbox); have n2_ := Aside0.mk ((by rw [hg]; exact (below_size (by repeat (first | exact HB.out | apply below_alloc | apply pw_below_drewN | apply below_drew1))) : w.heap.size ≤ gb235)); have n3_ := Aside0.mk ((by rw [hg]; exact (below_size (by repeat (first | exact HB.out | apply below_alloc | apply pw_below_drewN | apply below_drew1))) : w.heap.size ≤ gb235)); clear HB; have HB := n0_; have BK235 := n1_; have GW235 := n2_; have GE235 := n3_; clear n0_ n1_ n2_ n3_; clear hb hbox hg; have hcz12_0 : w11.cell? ⟨gb235, 0, none⟩ = some (.slice A0_0 l0_0.length c0_0) := (blk_cell BK235.out 0).trans rfl; have hcz12_1 : w11.cell? ⟨gb235, 1, none⟩ = some (.int .i64 a0_1) := (blk_cell BK235.out 1).trans rfl; have hcz12_2 : w11.cell? ⟨gb235, 2, none⟩ = some (.int .i64 a0_2) := (blk_cell BK235.out 2).trans rfl; have hcz12_3 : w11.cell? ⟨gb235, 3, none⟩ = some (.slice A0_3 l0_3.length c0_3) := (blk_cell BK235.out 3).trans rfl; have hcz12_4 : w11.cell? ⟨gb235, 4, none⟩ = some (.slice A0_4 l0_4.length c0_4) := (blk_cell BK235.out 4).trans rfl; have hfz12_0 := blk_frozen BK235.out 0; have hfz12_1 := blk_frozen BK235.out 1; have hfz12_2 := blk_frozen BK235.out 2; have hfz12_3 := blk_frozen BK235.out 3; have hfz12_4 := blk_frozen BK235.out 4; have p236 : 0 ≤ (a1 : Int) := of_decide_eq_true (by assumption); have q236 : a1 < (l0_3.length : Int) := of_decide_eq_true (by assumption); obtain ⟨ad236, A236_0, c236_0, e236, hx236_0, hl236_0, hi236_0⟩ := at_L1 HR0_3.out a1 p236 q236; cases e236; replace hx236_0 := (HB.out.cell (World.block_lt_of_cell? w _ hx236_0)).trans hx236_0; have HR236_0 := Aside0.mk hi236_0; have HC236_0 := Aside0.mk hl236_0; clear hi236_0 hl236_0; replace p236 := eq_true p236; replace q236 := eq_true q236; have p237 : 0 ≤ (a2 : Int) := of_decide_eq_true (by assumption); have q237 : a2 < ((rd_L1 l0_3 a1).length : Int) := of_decide_eq_true (by assumption); obtain ⟨ad237, e237, hx237_0⟩ := Kd.at_int HR236_0.out a2 p237 q237; cases e237; replace hx237_0 := (HB.out.cell (World.block_lt_of_cell? w _ hx237_0)).trans hx237_0; replace p237 := eq_true p237; replace q237 := eq_true q237; have p238 : 0 ≤ (a2 : Int) := of_decide_eq_true (by assumption); have q238 : a2 < (l0_4.length : Int) := of_decide_eq_true (by assumption); obtain ⟨ad238, A238_0, c238_0, e238, hx238_0, hl238_0, hi238_0⟩ := at_L1 HR0_4.out a2 p238 q238; cases e238; replace hx238_0 := (HB.out.cell (World.block_lt_of_cell? w _ hx238_0)).trans hx238_0; have HR238_0 := Aside0.mk hi238_0; have HC238_0 := Aside0.mk hl238_0; clear hi238_0 hl238_0; replace p238 := eq_true p238; replace q238 := eq_true q238; have p239 : 0 ≤ (a1 : Int) := of_decide_eq_true (by assumption); have q239 : a1 < ((rd_L1 l0_4 a2).length : Int) := of_decide_eq_true (by assumption); obtain ⟨ad239, e239, hx239_0⟩ := Kd.at_int HR238_0.out a1 p239 q239; cases e239; replace hx239_0 := (HB.out.cell (World.block_lt_of_cell? w _ hx239_0)).trans hx239_0; replace p239 := eq_true p239; replace q239 := eq_true q239) | (go_at_call 91; (with_reducible refine (line_both_int.calls (rd (rd_L1 l0_3 a1) a2) (rd (rd_L1 l0_4 a2) a1) t240 _ A10.out).mono ?_); rintro e w' ⟨rfl, ⟨nd, rfl⟩⟩; (try first | exact ⟨rfl, _, World.drewN_drewN _ _ _⟩ | exact ⟨rfl, _, Eq.trans (World.drewN_drewN _ _ _) (congrArg (World.drewN _) (Nat.add_assoc _ _ _))⟩))); try go_wp2_with (first | ((with_reducible refine gate_dst (N := 3) rfl ?_); refine box_event ?hg (N := 3) ?hd (cs := #[.slice A0_0 l0_0.length c0_0, .int .i64 a0_1, .int .i64 a0_2, .slice A0_3 l0_3.length c0_3, .slice A0_4 l0_4.length c0_4]) (t := 58) ?hr ?_; (case hd => rfl); (case hg => rfl); (case hr => go_simp); intro gb235 hg w11 hbox hb; have n0_ := Aside0.mk (below_step (by repeat (first | exact HB.out | apply below_alloc | apply pw_below_drewN | apply below_drew1)) hb); have n1_ := Aside0.mk (hbox); have n2_ := Aside0.mk ((by rw [hg]; exact (below_size (by repeat (first | exact HB.out | apply below_alloc | apply pw_below_drewN | apply below_drew1))) : w.heap.size ≤ gb235)); have n3_ := Aside0.mk ((by rw [hg]; exact (below_size (by repeat (first | exact HB.out | apply below_alloc | apply pw_below_drewN | apply below_drew1))) : w.heap.size ≤ gb235)); clear HB; have HB := n0_; have BK235 := n1_; have GW235 := n2_; have GE235 := n3_; clear n0_ n1_ n2_ n3_; clear hb hbox hg; have hcz12_0 : w11.cell? ⟨gb235, 0, none⟩ = some (.slice A0_0 l0_0.length c0_0) := (blk_cell BK235.out 0).trans rfl; have hcz12_1 : w11.cell? ⟨gb235, 1, none⟩ = some (.int .i64 a0_1) := (blk_cell BK235.out 1).trans rfl; have hcz12_2 : w11.cell? ⟨gb235, 2, none⟩ = some (.int .i64 a0_2) := (blk_cell BK235.out 2).trans rfl; have hcz12_3 : w11.cell? ⟨gb235, 3, none⟩ = some (.slice A0_3 l0_3.length c0_3) := (blk_cell BK235.out 3).trans rfl; have hcz12_4 : w11.cell? ⟨gb235, 4, none⟩ = some (.slice A0_4 l0_4.length c0_4) := (blk_cell BK235.out 4).trans rfl; have hfz12_0 := blk_frozen BK235.out 0; have hfz12_1 := blk_frozen BK235.out 1; have hfz12_2 := blk_frozen BK235.out 2; have hfz12_3 := blk_frozen BK235.out 3; have hfz12_4 := blk_frozen BK235.out 4; have p236 : 0 ≤ (a1 : Int) := of_decide_eq_true (by assumption); have q236 : a1 < (l0_3.length : Int) := of_decide_eq_true (by assumption); obtain ⟨ad236, A236_0, c236_0, e236, hx236_0, hl236_0, hi236_0⟩ := at_L1 HR0_3.out a1 p236 q236; cases e236; replace hx236_0 := (HB.out.cell (World.block_lt_of_cell? w _ hx236_0)).trans hx236_0; have HR236_0 := Aside0.mk hi236_0; have HC236_0 := Aside0.mk hl236_0; clear hi236_0 hl236_0; replace p236 := eq_true p236; replace q236 := eq_true q236; have p237 : 0 ≤ (a2 : Int) := of_decide_eq_true (by assumption); have q237 : a2 < ((rd_L1 l0_3 a1).length : Int) := of_decide_eq_true (by assumption); obtain ⟨ad237, e237, hx237_0⟩ := Kd.at_int HR236_0.out a2 p237 q237; cases e237; replace hx237_0 := (HB.out.cell (World.block_lt_of_cell? w _ hx237_0)).trans hx237_0; replace p237 := eq_true p237; replace q237 := eq_true q237; have p238 : 0 ≤ (a2 : Int) := of_decide_eq_true (by assumption); have q238 : a2 < (l0_4.length : Int) := of_decide_eq_true (by assumption); obtain ⟨ad238, A238_0, c238_0, e238, hx238_0, hl238_0, hi238_0⟩ := at_L1 HR0_4.out a2 p238 q238; cases e238; replace hx238_0 := (HB.out.cell (World.block_lt_of_cell? w _ hx238_0)).trans hx238_0; have HR238_0 := Aside0.mk hi238_0; have HC238_0 := Aside0.mk hl238_0; clear hi238_0 hl238_0; replace p238 := eq_true p238; replace q238 := eq_true q238; have p239 : 0 ≤ (a1 : Int) := of_decide_eq_true (by assumption); have q239 : a1 < ((rd_L1 l0_4 a2).length : Int) := of_decide_eq_true (by assumption); obtain ⟨ad239, e239, hx239_0⟩ := Kd.at_int HR238_0.out a1 p239 q239; cases e239; replace hx239_0 := (HB.out.cell (World.block_lt_of_cell? w _ hx239_0)).trans hx239_0; replace p239 := eq_true p239; replace q239 := eq_true q239) | (go_at_call 91; (with_reducible refine (line_both_int.calls (rd (rd_L1 l0_3 a1) a2) (rd (rd_L1 l0_4 a2) a1) t240 _ A10.out).mono ?_); rintro e w' ⟨rfl, ⟨nd, rfl⟩⟩; (try first | exact ⟨rfl, _, World.drewN_drewN _ _ _⟩ | exact ⟨rfl, _, Eq.trans (World.drewN_drewN _ _ _) (congrArg (World.drewN _) (Nat.add_assoc _ _ _))⟩))))
       go_ret
       exact ⟨rfl, by repeat (first | (with_reducible first | exact HB.out | apply below_alloc | apply pw_below_drewN | apply below_drew1 | refine below_set ?_ GE235.out) | exact HB.out)⟩
      ·
       rw [if_neg c9] at H
       exact absurd H (by simp)
     ·
      rw [if_neg c8] at H
      exact absurd H (by simp)
    ·
     rw [if_neg c7] at H
     exact absurd H (by simp)
   ·
    rw [if_neg c6] at H
    exact absurd H (by simp)
  ·
   rw [if_neg c5] at H
   exact absurd H (by simp)
 ·
  rw [if_neg c4] at H
  exact absurd H (by simp)

def llperiod_1.f (a0 : Int) : Option (Int) := some (-1152921504606846976)
set_option maxHeartbeats 8000000 in
set_option maxRecDepth 100000 in
theorem llperiod_1.calls (a0 : Int) (r : Int) (w : World) (h : llperiod_1.f a0 = some r) :
  Calls Try.prog 88 #[.int .i64 a0] w fun e w' => e = .returned (.int .i64 r) ∧ Drawn0 w w' := by
 have H : (some (-1152921504606846976)) = some r := h
 clear h
 obtain rfl := Option.some.inj H
 go_enter Try.func88, Try.ntmps88
 go_wp2
 go_ret
 exact ⟨by first | rfl | (simp; done) | (simp [*]; done), by repeat (first | exact Drawn0.refl _ | apply Drawn0.step)⟩

def lgmapped_period_1.f (k : Nat) (l0 : List (List Int)) (_a1 : Int) : Option ((List (List Int))) := lgmapped.f llperiod_1.f k l0 0
theorem lgmapped_period_1.mono : ∀ a0 a1 k, LeO (lgmapped_period_1.f k a0 a1) (lgmapped_period_1.f (k + 1) a0 a1) := fun a0 _ k => lgmapped.mono _ a0 0 k
theorem lgmapped_period_1.calls (k : Nat) (A0 : Option Addr) (c0 : Nat) (l0 : List (List Int)) (a1 : Int) (r : List (List Int)) (w : World) (hr0 : Kd.C (Kd.slice 3 (Kd.int .i64)) w A0 l0.length l0) (hc0 : l0.length ≤ c0) (h : lgmapped_period_1.f k l0 a1 = some r) :
  Calls Try.prog 57 #[.slice A0 l0.length c0, .func (.func 88) #[] #[]] w fun e w' => ∃ v0_ : Value, e = .returned (v0_) ∧ Kd.S (Kd.slice 3 (Kd.int .i64)) 26 w' w.heap.size (fun _ => True) v0_ r ∧ Below w.heap.size w w' :=
 lgmapped.calls _ 88 _ #[] Try.func88 (by kernel_rfl) rfl k A0 c0 l0 0 r w hr0 hc0 (fun w' _ x r hx => by simpa using llperiod_1.calls x r w' hx) h

mutual
def llperiod.l0 : Nat → Int → List (List Int) → Int → Int → List (List Int) → Int → Int → List (List Int) → List (List Int) → Option (Int)
 | 0, _, _, _, _, _, _, _, _, _ => none
 | k + 1, x3, x4, x20, x21, x294000, x294001, x294002, x294003, x294004 => if x21 < x20 then (llperiod.l1 k x3 x4 x21 x20 x21 x3 0 x294000 x294001 x294002 x294003 x294004) else ((lgclosed.f k x4).bind fun t305 => (llperiod.l2 k x3 x4 t305 1 x3 0))
def llperiod.l1 : Nat → Int → List (List Int) → Int → Int → Int → Int → Int → List (List Int) → Int → Int → List (List Int) → List (List Int) → Option (Int)
 | 0, _, _, _, _, _, _, _, _, _, _, _, _ => none
 | k + 1, x3, x4, x5, x20, x21, x24, x25, x294000, x294001, x294002, x294003, x294004 => if x25 < x24 then ((llcritical.f x294000 x294001 x294002 x294003 x294004 x5 x25).bind fun t300 => (if t300 = true then (if 0 ≤ x5 then (if x5 < (x4.length : Int) then (if 0 ≤ x25 then (if x25 < ((rd_L1 x4 x5).length : Int) then (llperiod.l1 k x3 (x4.set (x5 : Int).toNat ((rd_L1 x4 x5).set (x25 : Int).toNat 0)) x5 x20 x21 x24 (wrap64 (x25 + 1)) x294000 x294001 x294002 x294003 x294004) else (none)) else (none)) else (none)) else (none)) else (llperiod.l1 k x3 x4 x5 x20 x21 x24 (wrap64 (x25 + 1)) x294000 x294001 x294002 x294003 x294004))) else (llperiod.l0 k x3 x4 x20 (wrap64 (x21 + 1)) x294000 x294001 x294002 x294003 x294004)
def llperiod.l2 : Nat → Int → List (List Int) → List (List Int) → Int → Int → Int → Option (Int)
 | 0, _, _, _, _, _, _ => none
 | k + 1, x3, x4, x7, x8, x42, x43 => if x43 < x42 then ((line_one_int.f k x3).bind fun t308 => (llperiod.l3 k x3 x4 x7 x8 x43 0 t308 1 x42 x43)) else (some x8)
def llperiod.l3 : Nat → Int → List (List Int) → List (List Int) → Int → Int → Int → List (List Int) → Int → Int → Int → Option (Int)
 | 0, _, _, _, _, _, _, _, _, _, _ => none
 | k + 1, x3, x4, x7, x8, x9, x10, x11, x12, x42, x43 => if x12 ≤ (wrap64 (2 * x3)) then ((lgtimes.f k x11 x4).bind fun t312 => (llperiod.l4 k x3 x4 x7 x8 x9 x10 t312 x12 x42 x43 x3 0)) else (if x10 > 0 then ((line_gcd.f k x8 x10).bind fun t311 => (if t311 = 0 then (none) else (llperiod.l2 k x3 x4 x7 (wrap64 ((wrap64 (Int.tdiv x8 t311)) * x10)) x42 (wrap64 (x43 + 1))))) else (llperiod.l2 k x3 x4 x7 x8 x42 (wrap64 (x43 + 1))))
def llperiod.l4 : Nat → Int → List (List Int) → List (List Int) → Int → Int → Int → List (List Int) → Int → Int → Int → Int → Int → Option (Int)
 | 0, _, _, _, _, _, _, _, _, _, _, _, _ => none
 | k + 1, x3, x4, x7, x8, x9, x10, x11, x12, x42, x43, x57, x58 => if x58 < x57 then (if 0 ≤ x58 then (if x58 < (x11.length : Int) then (if x58 < ((rd_L1 x11 x58).length : Int) then (if (rd (rd_L1 x11 x58) x58) = 0 then (if 0 ≤ x9 then (if x9 < (x7.length : Int) then (if x58 < ((rd_L1 x7 x9).length : Int) then (if (rd (rd_L1 x7 x9) x58) = 0 then (if x58 < (x7.length : Int) then (if x9 < ((rd_L1 x7 x58).length : Int) then (if (rd (rd_L1 x7 x58) x9) = 0 then ((line_gcd.f k x10 x12).bind fun t321 => (llperiod.l4 k x3 x4 x7 x8 x9 t321 x11 x12 x42 x43 x57 (wrap64 (x58 + 1)))) else (llperiod.l4 k x3 x4 x7 x8 x9 x10 x11 x12 x42 x43 x57 (wrap64 (x58 + 1)))) else (none)) else (none)) else (llperiod.l4 k x3 x4 x7 x8 x9 x10 x11 x12 x42 x43 x57 (wrap64 (x58 + 1)))) else (none)) else (none)) else (none)) else (llperiod.l4 k x3 x4 x7 x8 x9 x10 x11 x12 x42 x43 x57 (wrap64 (x58 + 1)))) else (none)) else (none)) else (none)) else (llperiod.l3 k x3 x4 x7 x8 x9 x10 x11 (wrap64 (x12 + 1)) x42 x43)
end
def llperiod.f (k : Nat) (l0_0 : List (List Int)) (a0_1 : Int) (a0_2 : Int) (l0_3 : List (List Int)) (l0_4 : List (List Int)) : Option (Int) := (line_one_int.f k (l0_3.length : Int)).bind fun t294 => ((lgmapped_period_1.f k t294 0).bind fun t297 => (llperiod.l0 k (l0_3.length : Int) t297 (l0_3.length : Int) 0 l0_0 a0_1 a0_2 l0_3 l0_4))
theorem llperiod.mono_l : ∀ k, (∀ y0 y1 y2 y3 y4 y5 y6 y7 y8, LeO (llperiod.l0 k y0 y1 y2 y3 y4 y5 y6 y7 y8) (llperiod.l0 (k + 1) y0 y1 y2 y3 y4 y5 y6 y7 y8)) ∧ (∀ y0 y1 y2 y3 y4 y5 y6 y7 y8 y9 y10 y11, LeO (llperiod.l1 k y0 y1 y2 y3 y4 y5 y6 y7 y8 y9 y10 y11) (llperiod.l1 (k + 1) y0 y1 y2 y3 y4 y5 y6 y7 y8 y9 y10 y11)) ∧ (∀ y0 y1 y2 y3 y4 y5, LeO (llperiod.l2 k y0 y1 y2 y3 y4 y5) (llperiod.l2 (k + 1) y0 y1 y2 y3 y4 y5)) ∧ (∀ y0 y1 y2 y3 y4 y5 y6 y7 y8 y9, LeO (llperiod.l3 k y0 y1 y2 y3 y4 y5 y6 y7 y8 y9) (llperiod.l3 (k + 1) y0 y1 y2 y3 y4 y5 y6 y7 y8 y9)) ∧ (∀ y0 y1 y2 y3 y4 y5 y6 y7 y8 y9 y10 y11, LeO (llperiod.l4 k y0 y1 y2 y3 y4 y5 y6 y7 y8 y9 y10 y11) (llperiod.l4 (k + 1) y0 y1 y2 y3 y4 y5 y6 y7 y8 y9 y10 y11))
 | 0 => ⟨fun _ _ _ _ _ _ _ _ _ r h => by simp [llperiod.l0] at h, fun _ _ _ _ _ _ _ _ _ _ _ _ r h => by simp [llperiod.l1] at h, fun _ _ _ _ _ _ r h => by simp [llperiod.l2] at h, fun _ _ _ _ _ _ _ _ _ _ r h => by simp [llperiod.l3] at h, fun _ _ _ _ _ _ _ _ _ _ _ _ r h => by simp [llperiod.l4] at h⟩
 | k + 1 => by
  obtain ⟨ih0, ih1, ih2, ih3, ih4⟩ := llperiod.mono_l k
  refine ⟨?_, ?_, ?_, ?_, ?_⟩
  ·
   intro y0 y1 y2 y3 y4 y5 y6 y7 y8
   unfold llperiod.l0
   repeat' first
   | (with_reducible exact LeO.refl _)
   | (with_reducible exact LeO.none _)
   | (with_reducible refine LeO.ite ?_ ?_)
   | (with_reducible refine LeO.bind ?_ (fun _ => ?_))
   | exact ih0 _ _ _ _ _ _ _ _ _
   | exact ih1 _ _ _ _ _ _ _ _ _ _ _ _
   | exact ih2 _ _ _ _ _ _
   | exact ih3 _ _ _ _ _ _ _ _ _ _
   | exact ih4 _ _ _ _ _ _ _ _ _ _ _ _
   | exact line_gcd.mono _ _ _
   | exact lgclosed.mono _ _
   | exact lgmapped_period_1.mono _ _ _
   | exact lgtimes.mono _ _ _
   | exact line_one_int.mono _ _
   | exact LeO.none _
   | refine LeO.ite ?_ ?_
   | refine LeO.bind ?_ (fun _ => ?_)
  ·
   intro y0 y1 y2 y3 y4 y5 y6 y7 y8 y9 y10 y11
   unfold llperiod.l1
   repeat' first
   | (with_reducible exact LeO.refl _)
   | (with_reducible exact LeO.none _)
   | (with_reducible refine LeO.ite ?_ ?_)
   | (with_reducible refine LeO.bind ?_ (fun _ => ?_))
   | exact ih0 _ _ _ _ _ _ _ _ _
   | exact ih1 _ _ _ _ _ _ _ _ _ _ _ _
   | exact ih2 _ _ _ _ _ _
   | exact ih3 _ _ _ _ _ _ _ _ _ _
   | exact ih4 _ _ _ _ _ _ _ _ _ _ _ _
   | exact line_gcd.mono _ _ _
   | exact lgclosed.mono _ _
   | exact lgmapped_period_1.mono _ _ _
   | exact lgtimes.mono _ _ _
   | exact line_one_int.mono _ _
   | exact LeO.none _
   | refine LeO.ite ?_ ?_
   | refine LeO.bind ?_ (fun _ => ?_)
  ·
   intro y0 y1 y2 y3 y4 y5
   unfold llperiod.l2
   repeat' first
   | (with_reducible exact LeO.refl _)
   | (with_reducible exact LeO.none _)
   | (with_reducible refine LeO.ite ?_ ?_)
   | (with_reducible refine LeO.bind ?_ (fun _ => ?_))
   | exact ih0 _ _ _ _ _ _ _ _ _
   | exact ih1 _ _ _ _ _ _ _ _ _ _ _ _
   | exact ih2 _ _ _ _ _ _
   | exact ih3 _ _ _ _ _ _ _ _ _ _
   | exact ih4 _ _ _ _ _ _ _ _ _ _ _ _
   | exact line_gcd.mono _ _ _
   | exact lgclosed.mono _ _
   | exact lgmapped_period_1.mono _ _ _
   | exact lgtimes.mono _ _ _
   | exact line_one_int.mono _ _
   | exact LeO.none _
   | refine LeO.ite ?_ ?_
   | refine LeO.bind ?_ (fun _ => ?_)
  ·
   intro y0 y1 y2 y3 y4 y5 y6 y7 y8 y9
   unfold llperiod.l3
   repeat' first
   | (with_reducible exact LeO.refl _)
   | (with_reducible exact LeO.none _)
   | (with_reducible refine LeO.ite ?_ ?_)
   | (with_reducible refine LeO.bind ?_ (fun _ => ?_))
   | exact ih0 _ _ _ _ _ _ _ _ _
   | exact ih1 _ _ _ _ _ _ _ _ _ _ _ _
   | exact ih2 _ _ _ _ _ _
   | exact ih3 _ _ _ _ _ _ _ _ _ _
   | exact ih4 _ _ _ _ _ _ _ _ _ _ _ _
   | exact line_gcd.mono _ _ _
   | exact lgclosed.mono _ _
   | exact lgmapped_period_1.mono _ _ _
   | exact lgtimes.mono _ _ _
   | exact line_one_int.mono _ _
   | exact LeO.none _
   | refine LeO.ite ?_ ?_
   | refine LeO.bind ?_ (fun _ => ?_)
  ·
   intro y0 y1 y2 y3 y4 y5 y6 y7 y8 y9 y10 y11
   unfold llperiod.l4
   repeat' first
   | (with_reducible exact LeO.refl _)
   | (with_reducible exact LeO.none _)
   | (with_reducible refine LeO.ite ?_ ?_)
   | (with_reducible refine LeO.bind ?_ (fun _ => ?_))
   | exact ih0 _ _ _ _ _ _ _ _ _
   | exact ih1 _ _ _ _ _ _ _ _ _ _ _ _
   | exact ih2 _ _ _ _ _ _
   | exact ih3 _ _ _ _ _ _ _ _ _ _
   | exact ih4 _ _ _ _ _ _ _ _ _ _ _ _
   | exact line_gcd.mono _ _ _
   | exact lgclosed.mono _ _
   | exact lgmapped_period_1.mono _ _ _
   | exact lgtimes.mono _ _ _
   | exact line_one_int.mono _ _
   | exact LeO.none _
   | refine LeO.ite ?_ ?_
   | refine LeO.bind ?_ (fun _ => ?_)
theorem llperiod.mono : ∀ a0 a1 a2 a3 a4 k, LeO (llperiod.f k a0 a1 a2 a3 a4) (llperiod.f (k + 1) a0 a1 a2 a3 a4) := by
 intro a0 a1 a2 a3 a4 k
 obtain ⟨ih0, ih1, ih2, ih3, ih4⟩ := llperiod.mono_l k
 unfold llperiod.f
 repeat' first
   | (with_reducible exact LeO.refl _)
   | (with_reducible exact LeO.none _)
   | (with_reducible refine LeO.ite ?_ ?_)
   | (with_reducible refine LeO.bind ?_ (fun _ => ?_))
   | exact ih0 _ _ _ _ _ _ _ _ _
   | exact ih1 _ _ _ _ _ _ _ _ _ _ _ _
   | exact ih2 _ _ _ _ _ _
   | exact ih3 _ _ _ _ _ _ _ _ _ _
   | exact ih4 _ _ _ _ _ _ _ _ _ _ _ _
   | exact line_gcd.mono _ _ _
   | exact lgclosed.mono _ _
   | exact lgmapped_period_1.mono _ _ _
   | exact lgtimes.mono _ _ _
   | exact line_one_int.mono _ _
   | exact LeO.none _
   | refine LeO.ite ?_ ?_
   | refine LeO.bind ?_ (fun _ => ?_)
set_option maxHeartbeats 8000000 in
set_option maxRecDepth 100000 in
theorem llperiod.calls (k : Nat) (A0_0 : Option Addr) (c0_0 : Nat) (l0_0 : List (List Int)) (a0_1 : Int) (a0_2 : Int) (A0_3 : Option Addr) (c0_3 : Nat) (l0_3 : List (List Int)) (A0_4 : Option Addr) (c0_4 : Nat) (l0_4 : List (List Int)) (r : Int) (w : World) (hr0_0 : Kd.C (Kd.slice 3 (Kd.int .i64)) w A0_0 l0_0.length l0_0) (hc0_0 : l0_0.length ≤ c0_0) (hr0_3 : Kd.C (Kd.slice 3 (Kd.int .i64)) w A0_3 l0_3.length l0_3) (hc0_3 : l0_3.length ≤ c0_3) (hr0_4 : Kd.C (Kd.slice 3 (Kd.int .i64)) w A0_4 l0_4.length l0_4) (hc0_4 : l0_4.length ≤ c0_4) (h : llperiod.f k l0_0 a0_1 a0_2 l0_3 l0_4 = some r) :
  Calls Try.prog 54 #[.agg #[.slice A0_0 l0_0.length c0_0, .int .i64 a0_1, .int .i64 a0_2, .slice A0_3 l0_3.length c0_3, .slice A0_4 l0_4.length c0_4]] w fun e w' => e = .returned (.int .i64 r) ∧ Below w.heap.size w w' := by
 have hu58 := Try.underlying58
 have HR0_0 := Aside0.mk hr0_0
 have HC0_0 := Aside0.mk hc0_0
 clear hr0_0 hc0_0
 have HR0_3 := Aside0.mk hr0_3
 have HC0_3 := Aside0.mk hc0_3
 clear hr0_3 hc0_3
 have HR0_4 := Aside0.mk hr0_4
 have HC0_4 := Aside0.mk hc0_4
 clear hr0_4 hc0_4
 have HB := Aside0.mk (Below.refl w.heap.size w)
 have H : ((line_one_int.f k (l0_3.length : Int)).bind fun t294 => ((lgmapped_period_1.f k t294 0).bind fun t297 => (llperiod.l0 k (l0_3.length : Int) t297 (l0_3.length : Int) 0 l0_0 a0_1 a0_2 l0_3 l0_4))) = some r := h
 clear h
 replace H := Option.bind_eq_some_iff.mp H
 obtain ⟨t294, A20, H⟩ := H
 replace H : ((lgmapped_period_1.f k t294 0).bind fun t297 => (llperiod.l0 k (l0_3.length : Int) t297 (l0_3.length : Int) 0 l0_0 a0_1 a0_2 l0_3 l0_4)) = some r := H
 have A2 := Aside0.mk A20
 clear A20
 replace H := Option.bind_eq_some_iff.mp H
 obtain ⟨t297, A30, H⟩ := H
 replace H : (llperiod.l0 k (l0_3.length : Int) t297 (l0_3.length : Int) 0 l0_0 a0_1 a0_2 l0_3 l0_4) = some r := H
 have A3 := Aside0.mk A30
 clear A30
 have H' := Aside0.mk H
 clear H
 go_enter Try.func54, Try.ntmps54
 go_wp2_with (first | ((with_reducible refine gate_dst (N := 1) rfl ?_); refine box_event ?hg (N := 1) ?hd (cs := #[.slice A0_0 l0_0.length c0_0, .int .i64 a0_1, .int .i64 a0_2, .slice A0_3 l0_3.length c0_3, .slice A0_4 l0_4.length c0_4]) (t := 58) ?hr ?_; (case hd => rfl); (case hg => rfl); (case hr => go_simp); intro gb293 hg w4 hbox hb; have n0_ := Aside0.mk (below_step (HB.out) hb); have n1_ := Aside0.mk (hbox); have n2_ := Aside0.mk ((by rw [hg]; exact (below_size (HB.out)) : w.heap.size ≤ gb293)); have n3_ := Aside0.mk ((by rw [hg]; exact (below_size (HB.out)) : w.heap.size ≤ gb293)); clear HB; have HB := n0_; have BK293 := n1_; have GW293 := n2_; have GE293 := n3_; clear n0_ n1_ n2_ n3_; clear hb hbox hg; have hcz5_0 : w4.cell? ⟨gb293, 0, none⟩ = some (.slice A0_0 l0_0.length c0_0) := (blk_cell BK293.out 0).trans rfl; have hcz5_1 : w4.cell? ⟨gb293, 1, none⟩ = some (.int .i64 a0_1) := (blk_cell BK293.out 1).trans rfl; have hcz5_2 : w4.cell? ⟨gb293, 2, none⟩ = some (.int .i64 a0_2) := (blk_cell BK293.out 2).trans rfl; have hcz5_3 : w4.cell? ⟨gb293, 3, none⟩ = some (.slice A0_3 l0_3.length c0_3) := (blk_cell BK293.out 3).trans rfl; have hcz5_4 : w4.cell? ⟨gb293, 4, none⟩ = some (.slice A0_4 l0_4.length c0_4) := (blk_cell BK293.out 4).trans rfl; have hfz5_0 := blk_frozen BK293.out 0; have hfz5_1 := blk_frozen BK293.out 1; have hfz5_2 := blk_frozen BK293.out 2; have hfz5_3 := blk_frozen BK293.out 3; have hfz5_4 := blk_frozen BK293.out 4) | ((with_reducible refine gate_callee (f := 87) rfl ?_); refine goesL_ (some 18) rfl rfl Try.func87 (by kernel_rfl) rfl #[.int .i64 (l0_3.length : Int)] rfl (by (try simp only [List.map_toArray, List.map_cons, List.map_nil]); rfl) ?_; (with_reducible refine (line_one_int.calls k (l0_3.length : Int) t294 _ A2.out).mono ?_); rintro e w6 ⟨v295, rfl, ho0, hb⟩; refine ⟨_, rfl, ?_⟩; have n0_ := Aside0.mk (Kd.S_lower ho0 (below_size (HB.out))); have n1_ := Aside0.mk (blk_below (g := gb293) (o := .cells #[.slice A0_0 l0_0.length c0_0, .int .i64 a0_1, .int .i64 a0_2, .slice A0_3 l0_3.length c0_3, .slice A0_4 l0_4.length c0_4] 58 (0, 0)) (by exact BK293.out) hb); have n2_ := Aside0.mk (below_step (HB.out) hb); clear BK293; clear HB; have HO296 := n0_; have BK293 := n1_; have HB := n2_; clear n0_ n1_ n2_; obtain ⟨Ao7, co7, eo7⟩ := Kd.S_slice HO296.out; subst eo7) | ((with_reducible refine gate_callee (f := 57) rfl ?_); refine goesL_ (some 19) rfl rfl Try.func57 (by kernel_rfl) rfl #[.slice Ao7 t294.length co7, .func (.func 88) #[] #[]] rfl (by (try simp only [List.map_toArray, List.map_cons, List.map_nil]); rfl) ?_; (with_reducible refine (lgmapped_period_1.calls k _ _ t294 0 t297 _ ?side1 ?side2 A3.out).mono ?_); (case side1 => repeat (first | exact (Kd.S_reads' HO296.out).2.2)); (case side2 => exact (Kd.S_reads' HO296.out).2.1); rintro e w8 ⟨v298, rfl, ho0, hb⟩; refine ⟨_, rfl, ?_⟩; have n0_ := Aside0.mk (Kd.S_elder' (by exact HO296.out) (Kd.S_base ho0) hb); have n1_ := Aside0.mk (Kd.S_lower (Kd.S_new' ho0 (Kd.S_lt (by exact HO296.out))) (below_size (HB.out))); have n2_ := Aside0.mk (blk_below (g := gb293) (o := .cells #[.slice A0_0 l0_0.length c0_0, .int .i64 a0_1, .int .i64 a0_2, .slice A0_3 l0_3.length c0_3, .slice A0_4 l0_4.length c0_4] 58 (0, 0)) (by exact BK293.out) hb); have n3_ := Aside0.mk (below_step (HB.out) hb); clear HO296; clear BK293; clear HB; have HO296 := n0_; have HO299 := n1_; have BK293 := n2_; have HB := n3_; clear n0_ n1_ n2_ n3_))
 go_loopg [21] k (fun kq v21 w' => ∃ (x4_1 : List (List Int)) (x21_1 : Int), v21 = .int .i64 x21_1 ∧ Aside0 (llperiod.l0 kq (l0_3.length : Int) x4_1 (l0_3.length : Int) x21_1 l0_0 a0_1 a0_2 l0_3 l0_4 = some r) ∧ Aside0 (kq ≤ k) ∧ Aside0 (Kd.S (Kd.slice 3 (Kd.int .i64)) 26 w' w.heap.size (fun _ => True) v298 x4_1) ∧ Aside0 (w'.heap[gb293]? = some (.cells #[(.slice A0_0 l0_0.length c0_0), .int .i64 a0_1, .int .i64 a0_2, (.slice A0_3 l0_3.length c0_3), (.slice A0_4 l0_4.length c0_4)] 58 (0, 0))) ∧ Aside0 (Below w.heap.size w w'))
 case atStart => exact ⟨(t297), (0), rfl, H', ⟨Nat.le_refl _⟩, ⟨by exact Kd.S_mono HO299.out (fun _ hk => trivial)⟩, ⟨by exact BK293.out⟩, ⟨HB.out⟩⟩
 case round =>
  clear H'
  obtain ⟨x4_1, x21_1, rfl, HA, HK1, HO_4, BK293, HB⟩ := hrel
  cases gk with
  | zero => exact absurd HA.out (by simp [llperiod.l0])
  | succ k1 =>
   have H := HA.out
   clear HA
   simp only [llperiod.l0] at H
   by_cases c9 : x21_1 < (l0_3.length : Int)
   ·
    rw [if_pos c9] at H
    have c9b0 : decide (x21_1 < (l0_3.length : Int)) = true := decide_eq_true c9
    clear c9
    have H' := Aside0.mk H
    clear H
    go_wp2
    go_loopg [25] k1 (fun kq v25 w' => ∃ (x4_2 : List (List Int)) (x25_2 : Int), v25 = .int .i64 x25_2 ∧ Aside0 (llperiod.l1 kq (l0_3.length : Int) x4_2 x21_1 (l0_3.length : Int) x21_1 (l0_3.length : Int) x25_2 l0_0 a0_1 a0_2 l0_3 l0_4 = some r) ∧ Aside0 (kq ≤ k1) ∧ Aside0 (Kd.S (Kd.slice 3 (Kd.int .i64)) 26 w' w.heap.size (fun _ => True) v298 x4_2) ∧ Aside0 (w'.heap[gb293]? = some (.cells #[(.slice A0_0 l0_0.length c0_0), .int .i64 a0_1, .int .i64 a0_2, (.slice A0_3 l0_3.length c0_3), (.slice A0_4 l0_4.length c0_4)] 58 (0, 0))) ∧ Aside0 (Below w.heap.size w w'))
    case atStart => exact ⟨(x4_1), (0), rfl, H', ⟨Nat.le_refl _⟩, ⟨by exact HO_4.out⟩, ⟨by exact BK293.out⟩, ⟨HB.out⟩⟩
    case round =>
     clear H'
     obtain ⟨x4_2, x25_2, rfl, HA, HK2, HO_4, BK293, HB⟩ := hrel
     cases gk with
     | zero => exact absurd HA.out (by simp [llperiod.l1])
     | succ k2 =>
      have H := HA.out
      clear HA
      simp only [llperiod.l1] at H
      by_cases c10 : x25_2 < (l0_3.length : Int)
      ·
       rw [if_pos c10] at H
       have c10b0 : decide (x25_2 < (l0_3.length : Int)) = true := decide_eq_true c10
       clear c10
       replace H := Option.bind_eq_some_iff.mp H
       obtain ⟨t300, A110, H⟩ := H
       replace H : (if t300 = true then (if 0 ≤ x21_1 then (if x21_1 < (x4_2.length : Int) then (if 0 ≤ x25_2 then (if x25_2 < ((rd_L1 x4_2 x21_1).length : Int) then (llperiod.l1 k2 (l0_3.length : Int) (x4_2.set (x21_1 : Int).toNat ((rd_L1 x4_2 x21_1).set (x25_2 : Int).toNat 0)) x21_1 (l0_3.length : Int) x21_1 (l0_3.length : Int) (wrap64 (x25_2 + 1)) l0_0 a0_1 a0_2 l0_3 l0_4) else (none)) else (none)) else (none)) else (none)) else (llperiod.l1 k2 (l0_3.length : Int) x4_2 x21_1 (l0_3.length : Int) x21_1 (l0_3.length : Int) (wrap64 (x25_2 + 1)) l0_0 a0_1 a0_2 l0_3 l0_4)) = some r := H
       have A11 := Aside0.mk A110
       clear A110
       by_cases c12 : t300 = true
       ·
        subst c12
        have H1 : (if 0 ≤ x21_1 then (if x21_1 < (x4_2.length : Int) then (if 0 ≤ x25_2 then (if x25_2 < ((rd_L1 x4_2 x21_1).length : Int) then (llperiod.l1 k2 (l0_3.length : Int) (x4_2.set (x21_1 : Int).toNat ((rd_L1 x4_2 x21_1).set (x25_2 : Int).toNat 0)) x21_1 (l0_3.length : Int) x21_1 (l0_3.length : Int) (wrap64 (x25_2 + 1)) l0_0 a0_1 a0_2 l0_3 l0_4) else (none)) else (none)) else (none)) else (none)) = some r := by rw [if_pos rfl] at H; exact H
        clear H
        have H := H1
        clear H1
        by_cases c13 : 0 ≤ x21_1
        ·
         rw [if_pos c13] at H
         have c13b0 : decide (0 ≤ x21_1) = true := decide_eq_true c13
         clear c13
         by_cases c14 : x21_1 < (x4_2.length : Int)
         ·
          rw [if_pos c14] at H
          have c14b0 : decide (x21_1 < (x4_2.length : Int)) = true := decide_eq_true c14
          clear c14
          by_cases c15 : 0 ≤ x25_2
          ·
           rw [if_pos c15] at H
           have c15b0 : decide (0 ≤ x25_2) = true := decide_eq_true c15
           clear c15
           by_cases c16 : x25_2 < ((rd_L1 x4_2 x21_1).length : Int)
           ·
            rw [if_pos c16] at H
            have c16b0 : decide (x25_2 < ((rd_L1 x4_2 x21_1).length : Int)) = true := decide_eq_true c16
            clear c16
            obtain ⟨y302, hy302⟩ : ∃ y_ : List Int, y_ = ((rd_L1 x4_2 x21_1).set (x25_2 : Int).toNat 0) := ⟨_, rfl⟩
            replace H : (llperiod.l1 k2 (l0_3.length : Int) (x4_2.set (x21_1 : Int).toNat y302) x21_1 (l0_3.length : Int) x21_1 (l0_3.length : Int) (wrap64 (x25_2 + 1)) l0_0 a0_1 a0_2 l0_3 l0_4) = some r := by rw [hy302]; exact H
            have Ny302 := Aside0.mk hy302
            clear hy302
            obtain ⟨y304, hy304⟩ : ∃ y_ : List (List Int), y_ = (x4_2.set (x21_1 : Int).toNat y302) := ⟨_, rfl⟩
            replace H : (llperiod.l1 k2 (l0_3.length : Int) y304 x21_1 (l0_3.length : Int) x21_1 (l0_3.length : Int) (wrap64 (x25_2 + 1)) l0_0 a0_1 a0_2 l0_3 l0_4) = some r := by rw [hy304]; exact H
            have Ny304 := Aside0.mk hy304
            clear hy304
            have H' := Aside0.mk H
            clear H
            have hcz18_0 : wr.cell? ⟨gb293, 0, none⟩ = some (.slice A0_0 l0_0.length c0_0) := (blk_cell BK293.out 0).trans rfl
            have hcz18_1 : wr.cell? ⟨gb293, 1, none⟩ = some (.int .i64 a0_1) := (blk_cell BK293.out 1).trans rfl
            have hcz18_2 : wr.cell? ⟨gb293, 2, none⟩ = some (.int .i64 a0_2) := (blk_cell BK293.out 2).trans rfl
            have hcz18_3 : wr.cell? ⟨gb293, 3, none⟩ = some (.slice A0_3 l0_3.length c0_3) := (blk_cell BK293.out 3).trans rfl
            have hcz18_4 : wr.cell? ⟨gb293, 4, none⟩ = some (.slice A0_4 l0_4.length c0_4) := (blk_cell BK293.out 4).trans rfl
            have hfz18_0 := blk_frozen BK293.out 0
            have hfz18_1 := blk_frozen BK293.out 1
            have hfz18_2 := blk_frozen BK293.out 2
            have hfz18_3 := blk_frozen BK293.out 3
            have hfz18_4 := blk_frozen BK293.out 4
            go_wp2_with (first | ((with_reducible refine gate_callee (f := 84) rfl ?_); refine goesL_ (some 31) rfl rfl Try.func84 (by kernel_rfl) rfl #[.agg #[.slice A0_0 l0_0.length c0_0, .int .i64 a0_1, .int .i64 a0_2, .slice A0_3 l0_3.length c0_3, .slice A0_4 l0_4.length c0_4], .int .i64 x21_1, .int .i64 x25_2] rfl (by (try simp only [List.map_toArray, List.map_cons, List.map_nil]); rfl) ?_; (with_reducible refine (llcritical.calls _ _ l0_0 a0_1 a0_2 _ _ l0_3 _ _ l0_4 x21_1 x25_2 true _ ?side1 ?side2 ?side3 ?side4 ?side5 ?side6 A11.out).mono ?_); (case side1 => repeat (first | exact (Kd.C_below HR0_0.out HB.out))); (case side2 => exact HC0_0.out); (case side3 => repeat (first | exact (Kd.C_below HR0_3.out HB.out))); (case side4 => exact HC0_3.out); (case side5 => repeat (first | exact (Kd.C_below HR0_4.out HB.out))); (case side6 => exact HC0_4.out); rintro e w19 ⟨rfl, hb⟩; refine ⟨_, rfl, ?_⟩; have n0_ := Aside0.mk (Kd.S_below (by exact HO_4.out) hb); have n1_ := Aside0.mk (blk_below (g := gb293) (o := .cells #[.slice A0_0 l0_0.length c0_0, .int .i64 a0_1, .int .i64 a0_2, .slice A0_3 l0_3.length c0_3, .slice A0_4 l0_4.length c0_4] 58 (0, 0)) (by exact BK293.out) hb); have n2_ := Aside0.mk (below_step (HB.out) hb); clear HO_4; clear BK293; clear HB; have HO_4 := n0_; have BK293 := n1_; have HB := n2_; clear n0_ n1_ n2_; obtain ⟨Ao20, co20, eo20⟩ := Kd.S_slice HO_4.out; subst eo20; have p301 : 0 ≤ (x21_1 : Int) := of_decide_eq_true (by assumption); have q301 : x21_1 < (x4_2.length : Int) := of_decide_eq_true (by assumption); obtain ⟨ad301, A301_0, c301_0, e301, hx301_0, hl301_0, hi301_0⟩ := at_L1 (Kd.S_reads' HO_4.out).2.2 x21_1 p301 q301; cases e301; obtain ⟨ce301, hce301, hMe301, hcc301⟩ := Kd.S_get HO_4.out [] x21_1 p301 (by first | exact q301 | exact of_decide_eq_true (by assumption) | (have e_ := (Kd.S_reads' HO_4.out).1; omega)); obtain ⟨ve301_0, rfl, ge301_0⟩ := hMe301; have hv301_0 := hcc301 0 _ rfl; rw [Nat.add_zero, show ((Kd.slice 3 (Kd.int .i64))).sz = 1 from rfl, Nat.mul_one] at hv301_0; replace hv301_0 := Option.some.inj (hv301_0.symm.trans hx301_0); rw [hv301_0] at ge301_0; have HL301_0 := Aside0.mk (show Kd.R (Kd.int .i64) 3 _ _ _ _ (rd_L1 x4_2 x21_1) from ge301_0); clear hv301_0 ge301_0; have HX301_0 := Aside0.mk hx301_0; clear hcc301 hce301; have HR301_0 := Aside0.mk hi301_0; have HC301_0 := Aside0.mk hl301_0; clear hi301_0 hl301_0; replace p301 := eq_true p301; replace q301 := eq_true q301; have p17 : 0 ≤ (x25_2 : Int) := of_decide_eq_true (by assumption); have q17 : (x25_2 : Int) < (((rd_L1 x4_2 x21_1).length : Int) : Int) := of_decide_eq_true (by assumption); obtain ⟨go17, co17, eo17, gb17, gl17, cl17, HG17⟩ := Kd.R_form HL301_0.out (by omega); (first | cases eo17 | (injection eo17 with ea_ en_ ec_; (first | subst ea_ | (injection ea_ with ea_; subst ea_)); subst ec_; clear en_)); have GB17 := Aside0.mk gb17; have GG17 := Aside0.mk HG17; clear gb17 gl17 HG17; obtain ⟨hx17_0, hf17_0⟩ := Kd.R_celln 0 HL301_0.out (x25_2 : Int) p17 q17; replace p17 := eq_true p17; replace q17 := eq_true q17; have hq21 : (x21_1 : Int) < (x4_2.length : Int) := (by have h_ : (x21_1 : Int) < ((x4_2.length : Int) : Int) := of_decide_eq_true (by assumption); first | exact h_ | (have e_ := (Kd.S_reads' HO_4.out).1; omega) | simpa only [List.length_set, List.length_set] using h_); obtain ⟨oki21, ce21, hcl21, hM21, hcc21, hok21, hbk21⟩ := Kd.S_borrow HO_4.out [] (x21_1 : Int) (of_decide_eq_true (by assumption)) hq21; obtain ⟨ve21_0, rfl, ge21_0⟩ := hM21; have hv21 := hcc21 0 _ rfl; rw [Nat.add_zero, show ((Kd.slice 3 (Kd.int .i64))).sz = 1 from rfl, Nat.mul_one] at hv21; replace hv21 := Option.some.inj (hv21.symm.trans HX301_0.out); subst hv21; clear hcc21 hcl21; replace ge21_0 := (show Kd.R (Kd.int .i64) 3 _ _ _ _ (rd_L1 x4_2 x21_1) from ge21_0); have HP21 := Kd.R_putg ge21_0 (x25_2 : Int) 0) | ((with_reducible refine gate_store (t := 3) (p := 37) rfl ?_); refine store_event (t := 3) (p := 37) (v := ?vo_w22) (w1 := (w19.setCell ⟨go17, (x25_2 : Int).toNat, none⟩ (.int .i64 0))) ?hg ?ho ?hn ?hr ?_; (case ho => rfl); (case hg => rfl); (case hn => rfl); (case hr => go_simp); intro w22 hw; have hg : w19.grownBy w22 (some go17) := (by rw [hw]; exact HP21.2); have hz_ : Kd.R (Kd.int .i64) 3 w22 w.heap.size oki21 (.slice (some ⟨go17, 0, none⟩) (rd_L1 x4_2 x21_1).length c301_0) y302 := (by rw [hw, Ny302.out]; exact HP21.1); have hp_ : Kd.S (Kd.slice 3 (Kd.int .i64)) 26 w22 w.heap.size (fun _ => True) (.slice (some ad301) x4_2.length co20) y304 := (by rw [Ny304.out]; exact hbk21 hg (fun k_ e_ => by injection e_ with e_; subst e_; exact ge21_0.1 _ rfl) (Kd.M_row hz_)); have hm_ := Kd.R_mono hz_ hok21; clear HP21 hbk21; have n0_ := Aside0.mk (hp_); have n1_ := Aside0.mk (blk_grown (g := gb293) (o := .cells #[.slice A0_0 l0_0.length c0_0, .int .i64 a0_1, .int .i64 a0_2, .slice A0_3 l0_3.length c0_3, .slice A0_4 l0_4.length c0_4] 58 (0, 0)) (by exact BK293.out) hg (Kd.R_ne HL301_0.out BK293.out (by decide))); have n2_ := Aside0.mk ((by rw [hw]; exact below_set (HB.out) GB17.out : Below w.heap.size w w22)); have n3_ := Aside0.mk (hm_); have n4_ := Aside0.mk ((Kd.R_reads' hm_).2.1); clear HO_4; clear BK293; clear HB; clear HL301_0; have HO_4 := n0_; have BK293 := n1_; have HB := n2_; have HL322 := n3_; have HC303 := n4_; clear n0_ n1_ n2_ n3_ n4_; clear hg hw hp_ hz_ hm_ hok21))
            go_roundg k2
            case measure => have := HK1.out; have := HK2.out; omega
            case rel => exact ⟨(y304), (wrap64 (x25_2 + 1)), rfl, H', ⟨by have := HK1.out; have := HK2.out; omega⟩, ⟨by exact HO_4.out⟩, ⟨by exact BK293.out⟩, ⟨HB.out⟩⟩
           ·
            rw [if_neg c16] at H
            exact absurd H (by simp)
          ·
           rw [if_neg c15] at H
           exact absurd H (by simp)
         ·
          rw [if_neg c14] at H
          exact absurd H (by simp)
        ·
         rw [if_neg c13] at H
         exact absurd H (by simp)
       ·
        replace c12 := Bool.eq_false_iff.mpr c12
        subst c12
        have H1 : (llperiod.l1 k2 (l0_3.length : Int) x4_2 x21_1 (l0_3.length : Int) x21_1 (l0_3.length : Int) (wrap64 (x25_2 + 1)) l0_0 a0_1 a0_2 l0_3 l0_4) = some r := by rw [if_neg (show ¬ (false = true) by decide)] at H; exact H
        clear H
        have H := H1
        clear H1
        have H' := Aside0.mk H
        clear H
        have hcz23_0 : wr.cell? ⟨gb293, 0, none⟩ = some (.slice A0_0 l0_0.length c0_0) := (blk_cell BK293.out 0).trans rfl
        have hcz23_1 : wr.cell? ⟨gb293, 1, none⟩ = some (.int .i64 a0_1) := (blk_cell BK293.out 1).trans rfl
        have hcz23_2 : wr.cell? ⟨gb293, 2, none⟩ = some (.int .i64 a0_2) := (blk_cell BK293.out 2).trans rfl
        have hcz23_3 : wr.cell? ⟨gb293, 3, none⟩ = some (.slice A0_3 l0_3.length c0_3) := (blk_cell BK293.out 3).trans rfl
        have hcz23_4 : wr.cell? ⟨gb293, 4, none⟩ = some (.slice A0_4 l0_4.length c0_4) := (blk_cell BK293.out 4).trans rfl
        have hfz23_0 := blk_frozen BK293.out 0
        have hfz23_1 := blk_frozen BK293.out 1
        have hfz23_2 := blk_frozen BK293.out 2
        have hfz23_3 := blk_frozen BK293.out 3
        have hfz23_4 := blk_frozen BK293.out 4
        go_wp2_with (first | ((with_reducible refine gate_callee (f := 84) rfl ?_); refine goesL_ (some 31) rfl rfl Try.func84 (by kernel_rfl) rfl #[.agg #[.slice A0_0 l0_0.length c0_0, .int .i64 a0_1, .int .i64 a0_2, .slice A0_3 l0_3.length c0_3, .slice A0_4 l0_4.length c0_4], .int .i64 x21_1, .int .i64 x25_2] rfl (by (try simp only [List.map_toArray, List.map_cons, List.map_nil]); rfl) ?_; (with_reducible refine (llcritical.calls _ _ l0_0 a0_1 a0_2 _ _ l0_3 _ _ l0_4 x21_1 x25_2 false _ ?side1 ?side2 ?side3 ?side4 ?side5 ?side6 A11.out).mono ?_); (case side1 => repeat (first | exact (Kd.C_below HR0_0.out HB.out))); (case side2 => exact HC0_0.out); (case side3 => repeat (first | exact (Kd.C_below HR0_3.out HB.out))); (case side4 => exact HC0_3.out); (case side5 => repeat (first | exact (Kd.C_below HR0_4.out HB.out))); (case side6 => exact HC0_4.out); rintro e w24 ⟨rfl, hb⟩; refine ⟨_, rfl, ?_⟩; have n0_ := Aside0.mk (Kd.S_below (by exact HO_4.out) hb); have n1_ := Aside0.mk (blk_below (g := gb293) (o := .cells #[.slice A0_0 l0_0.length c0_0, .int .i64 a0_1, .int .i64 a0_2, .slice A0_3 l0_3.length c0_3, .slice A0_4 l0_4.length c0_4] 58 (0, 0)) (by exact BK293.out) hb); have n2_ := Aside0.mk (below_step (HB.out) hb); clear HO_4; clear BK293; clear HB; have HO_4 := n0_; have BK293 := n1_; have HB := n2_; clear n0_ n1_ n2_))
        go_roundg k2
        case measure => have := HK1.out; have := HK2.out; omega
        case rel => exact ⟨(x4_2), (wrap64 (x25_2 + 1)), rfl, H', ⟨by have := HK1.out; have := HK2.out; omega⟩, ⟨by exact HO_4.out⟩, ⟨by exact BK293.out⟩, ⟨HB.out⟩⟩
      ·
       rw [if_neg c10] at H
       have c10b0 : decide (x25_2 < (l0_3.length : Int)) = false := decide_eq_false c10
       clear c10
       have H' := Aside0.mk H
       clear H
       go_wp2
       go_roundg k2
       case measure => have := HK1.out; have := HK2.out; omega
       case rel => exact ⟨(x4_2), (wrap64 (x21_1 + 1)), rfl, H', ⟨by have := HK1.out; have := HK2.out; omega⟩, ⟨by exact HO_4.out⟩, ⟨by exact BK293.out⟩, ⟨HB.out⟩⟩
   ·
    rw [if_neg c9] at H
    have c9b0 : decide (x21_1 < (l0_3.length : Int)) = false := decide_eq_false c9
    clear c9
    replace H := Option.bind_eq_some_iff.mp H
    obtain ⟨t305, A250, H⟩ := H
    replace H : (llperiod.l2 k1 (l0_3.length : Int) x4_1 t305 1 (l0_3.length : Int) 0) = some r := H
    have A25 := Aside0.mk A250
    clear A250
    have H' := Aside0.mk H
    clear H
    obtain ⟨Ao26, co26, eo26⟩ := Kd.S_slice HO_4.out
    subst eo26
    go_wp2_with (first | ((with_reducible refine gate_callee (f := 66) rfl ?_); refine goesL_ (some 41) rfl rfl Try.func66 (by kernel_rfl) rfl #[.slice Ao26 x4_1.length co26] rfl (by (try simp only [List.map_toArray, List.map_cons, List.map_nil]); rfl) ?_; (with_reducible refine (lgclosed.calls k1 _ _ x4_1 t305 _ ?side1 ?side2 A25.out).mono ?_); (case side1 => repeat (first | exact (Kd.S_reads' HO_4.out).2.2)); (case side2 => exact (Kd.S_reads' HO_4.out).2.1); rintro e w27 ⟨v306, rfl, ho0, hb⟩; refine ⟨_, rfl, ?_⟩; have n0_ := Aside0.mk (Kd.S_elder' (by exact HO_4.out) (Kd.S_base ho0) hb); have n1_ := Aside0.mk (Kd.S_lower (Kd.S_new' ho0 (Kd.S_lt (by exact HO_4.out))) (below_size (HB.out))); have n2_ := Aside0.mk (blk_below (g := gb293) (o := .cells #[.slice A0_0 l0_0.length c0_0, .int .i64 a0_1, .int .i64 a0_2, .slice A0_3 l0_3.length c0_3, .slice A0_4 l0_4.length c0_4] 58 (0, 0)) (by exact BK293.out) hb); have n3_ := Aside0.mk (below_step (HB.out) hb); clear HO_4; clear BK293; clear HB; have HO_4 := n0_; have HO307 := n1_; have BK293 := n2_; have HB := n3_; clear n0_ n1_ n2_ n3_))
    go_loopg [8, 43] k1 (fun kq v8 v43 w' => ∃ (x8_2 : Int) (x43_2 : Int), v8 = .int .i64 x8_2 ∧ v43 = .int .i64 x43_2 ∧ Aside0 (llperiod.l2 kq (l0_3.length : Int) x4_1 t305 x8_2 (l0_3.length : Int) x43_2 = some r) ∧ Aside0 (kq ≤ k1) ∧ Aside0 (Kd.S (Kd.slice 3 (Kd.int .i64)) 26 w' w.heap.size (fun k_ => some k_ ≠ (v306 : Value).ownBlock) (.slice Ao26 x4_1.length co26) x4_1) ∧ Aside0 (Kd.S (Kd.slice 3 (Kd.int .i64)) 26 w' w.heap.size (fun k_ => some k_ ≠ ((.slice Ao26 x4_1.length co26) : Value).ownBlock) v306 t305) ∧ Aside0 (w'.heap[gb293]? = some (.cells #[(.slice A0_0 l0_0.length c0_0), .int .i64 a0_1, .int .i64 a0_2, (.slice A0_3 l0_3.length c0_3), (.slice A0_4 l0_4.length c0_4)] 58 (0, 0))) ∧ Aside0 (Below w.heap.size w w'))
    case atStart => exact ⟨(1), (0), rfl, rfl, H', ⟨Nat.le_refl _⟩, ⟨by exact Kd.S_mono HO_4.out (fun _ hk => hk.2)⟩, ⟨by exact Kd.S_mono HO307.out (fun _ hk => hk.2)⟩, ⟨by exact BK293.out⟩, ⟨HB.out⟩⟩
    case round =>
     clear H'
     obtain ⟨x8_2, x43_2, rfl, rfl, HA, HK2, HO_4, HO_7, BK293, HB⟩ := hrel
     cases gk with
     | zero => exact absurd HA.out (by simp [llperiod.l2])
     | succ k2 =>
      have H := HA.out
      clear HA
      simp only [llperiod.l2] at H
      by_cases c28 : x43_2 < (l0_3.length : Int)
      ·
       rw [if_pos c28] at H
       have c28b0 : decide (x43_2 < (l0_3.length : Int)) = true := decide_eq_true c28
       clear c28
       replace H := Option.bind_eq_some_iff.mp H
       obtain ⟨t308, A290, H⟩ := H
       replace H : (llperiod.l3 k2 (l0_3.length : Int) x4_1 t305 x8_2 x43_2 0 t308 1 (l0_3.length : Int) x43_2) = some r := H
       have A29 := Aside0.mk A290
       clear A290
       have H' := Aside0.mk H
       clear H
       go_wp2_with (first | ((with_reducible refine gate_callee (f := 87) rfl ?_); refine goesL_ (some 47) rfl rfl Try.func87 (by kernel_rfl) rfl #[.int .i64 (l0_3.length : Int)] rfl (by (try simp only [List.map_toArray, List.map_cons, List.map_nil]); rfl) ?_; (with_reducible refine (line_one_int.calls k2 (l0_3.length : Int) t308 _ A29.out).mono ?_); rintro e w30 ⟨v309, rfl, ho0, hb⟩; refine ⟨_, rfl, ?_⟩; have n0_ := Aside0.mk (Kd.S_elder' (by exact HO_4.out) (Kd.S_base ho0) hb); have n1_ := Aside0.mk (Kd.S_elder' (by exact HO_7.out) (Kd.S_base ho0) hb); have n2_ := Aside0.mk (Kd.S_lower (Kd.S_new' (Kd.S_new' ho0 (Kd.S_lt (by exact HO_4.out))) (Kd.S_lt (by exact HO_7.out))) (below_size (HB.out))); have n3_ := Aside0.mk (blk_below (g := gb293) (o := .cells #[.slice A0_0 l0_0.length c0_0, .int .i64 a0_1, .int .i64 a0_2, .slice A0_3 l0_3.length c0_3, .slice A0_4 l0_4.length c0_4] 58 (0, 0)) (by exact BK293.out) hb); have n4_ := Aside0.mk (below_step (HB.out) hb); clear HO_4; clear HO_7; clear BK293; clear HB; have HO_4 := n0_; have HO_7 := n1_; have HO310 := n2_; have BK293 := n3_; have HB := n4_; clear n0_ n1_ n2_ n3_ n4_))
       go_loopg [10, 11, 12] k2 (fun kq v10 v11 v12 w' => ∃ (x10_3 : Int) (x11_3 : List (List Int)) (x12_3 : Int), v10 = .int .i64 x10_3 ∧ v12 = .int .i64 x12_3 ∧ Aside0 (llperiod.l3 kq (l0_3.length : Int) x4_1 t305 x8_2 x43_2 x10_3 x11_3 x12_3 (l0_3.length : Int) x43_2 = some r) ∧ Aside0 (kq ≤ k2) ∧ Aside0 (Kd.S (Kd.slice 3 (Kd.int .i64)) 26 w' w.heap.size (fun k_ => some k_ ≠ (v306 : Value).ownBlock ∧ some k_ ≠ (v11 : Value).ownBlock) (.slice Ao26 x4_1.length co26) x4_1) ∧ Aside0 (Kd.S (Kd.slice 3 (Kd.int .i64)) 26 w' w.heap.size (fun k_ => some k_ ≠ ((.slice Ao26 x4_1.length co26) : Value).ownBlock ∧ some k_ ≠ (v11 : Value).ownBlock) v306 t305) ∧ Aside0 (Kd.S (Kd.slice 3 (Kd.int .i64)) 26 w' w.heap.size (fun k_ => some k_ ≠ ((.slice Ao26 x4_1.length co26) : Value).ownBlock ∧ some k_ ≠ (v306 : Value).ownBlock) v11 x11_3) ∧ Aside0 (w'.heap[gb293]? = some (.cells #[(.slice A0_0 l0_0.length c0_0), .int .i64 a0_1, .int .i64 a0_2, (.slice A0_3 l0_3.length c0_3), (.slice A0_4 l0_4.length c0_4)] 58 (0, 0))) ∧ Aside0 (Below w.heap.size w w'))
       case atStart => exact ⟨(0), (t308), (1), rfl, rfl, H', ⟨Nat.le_refl _⟩, ⟨by exact HO_4.out⟩, ⟨by exact HO_7.out⟩, ⟨by exact Kd.S_mono HO310.out (fun _ hk => ⟨hk.1.2, hk.2⟩)⟩, ⟨by exact BK293.out⟩, ⟨HB.out⟩⟩
       case round =>
        clear H'
        obtain ⟨x10_3, x11_3, x12_3, rfl, rfl, HA, HK3, HO_4, HO_7, HO_11, BK293, HB⟩ := hrel
        cases gk with
        | zero => exact absurd HA.out (by simp [llperiod.l3])
        | succ k3 =>
         have H := HA.out
         clear HA
         simp only [llperiod.l3] at H
         by_cases c31 : x12_3 ≤ (wrap64 (2 * (l0_3.length : Int)))
         ·
          rw [if_pos c31] at H
          have c31b0 : decide (x12_3 ≤ (wrap64 (2 * (l0_3.length : Int)))) = true := decide_eq_true c31
          clear c31
          replace H := Option.bind_eq_some_iff.mp H
          obtain ⟨t312, A320, H⟩ := H
          replace H : (llperiod.l4 k3 (l0_3.length : Int) x4_1 t305 x8_2 x43_2 x10_3 t312 x12_3 (l0_3.length : Int) x43_2 (l0_3.length : Int) 0) = some r := H
          have A32 := Aside0.mk A320
          clear A320
          have H' := Aside0.mk H
          clear H
          obtain ⟨Ao33, co33, eo33⟩ := Kd.S_slice HO_11.out
          subst eo33
          go_wp2_with (first | ((with_reducible refine gate_callee (f := 59) rfl ?_); refine goesL_ (some 56) rfl rfl Try.func59 (by kernel_rfl) rfl #[.slice Ao33 x11_3.length co33, .slice Ao26 x4_1.length co26] rfl (by (try simp only [List.map_toArray, List.map_cons, List.map_nil]); rfl) ?_; (with_reducible refine (lgtimes.calls k3 _ _ x11_3 _ _ x4_1 t312 _ ?side1 ?side2 ?side3 ?side4 A32.out).mono ?_); (case side1 => repeat (first | exact (Kd.S_reads' HO_11.out).2.2)); (case side2 => exact (Kd.S_reads' HO_11.out).2.1); (case side3 => repeat (first | exact (Kd.S_reads' HO_4.out).2.2)); (case side4 => exact (Kd.S_reads' HO_4.out).2.1); rintro e w34 ⟨v313, rfl, ho0, hb⟩; refine ⟨_, rfl, ?_⟩; have n0_ := Aside0.mk (Kd.S_elder' (by exact HO_4.out) (Kd.S_base ho0) hb); have n1_ := Aside0.mk (Kd.S_elder' (by exact HO_7.out) (Kd.S_base ho0) hb); have n2_ := Aside0.mk (Kd.S_elder' (by exact HO_11.out) (Kd.S_base ho0) hb); have n3_ := Aside0.mk (Kd.S_lower (Kd.S_new' (Kd.S_new' (Kd.S_new' ho0 (Kd.S_lt (by exact HO_4.out))) (Kd.S_lt (by exact HO_7.out))) (Kd.S_lt (by exact HO_11.out))) (below_size (HB.out))); have n4_ := Aside0.mk (blk_below (g := gb293) (o := .cells #[.slice A0_0 l0_0.length c0_0, .int .i64 a0_1, .int .i64 a0_2, .slice A0_3 l0_3.length c0_3, .slice A0_4 l0_4.length c0_4] 58 (0, 0)) (by exact BK293.out) hb); have n5_ := Aside0.mk (below_step (HB.out) hb); clear HO_4; clear HO_7; clear HO_11; clear BK293; clear HB; have HO_4 := n0_; have HO_7 := n1_; have HO_11 := n2_; have HO314 := n3_; have BK293 := n4_; have HB := n5_; clear n0_ n1_ n2_ n3_ n4_ n5_))
          go_loopg [10, 58] k3 (fun kq v10 v58 w' => ∃ (x10_4 : Int) (x58_4 : Int), v10 = .int .i64 x10_4 ∧ v58 = .int .i64 x58_4 ∧ Aside0 (llperiod.l4 kq (l0_3.length : Int) x4_1 t305 x8_2 x43_2 x10_4 t312 x12_3 (l0_3.length : Int) x43_2 (l0_3.length : Int) x58_4 = some r) ∧ Aside0 (kq ≤ k3) ∧ Aside0 (Kd.S (Kd.slice 3 (Kd.int .i64)) 26 w' w.heap.size (fun k_ => some k_ ≠ (v306 : Value).ownBlock ∧ some k_ ≠ (v313 : Value).ownBlock) (.slice Ao26 x4_1.length co26) x4_1) ∧ Aside0 (Kd.S (Kd.slice 3 (Kd.int .i64)) 26 w' w.heap.size (fun k_ => some k_ ≠ ((.slice Ao26 x4_1.length co26) : Value).ownBlock ∧ some k_ ≠ (v313 : Value).ownBlock) v306 t305) ∧ Aside0 (Kd.S (Kd.slice 3 (Kd.int .i64)) 26 w' w.heap.size (fun k_ => some k_ ≠ ((.slice Ao26 x4_1.length co26) : Value).ownBlock ∧ some k_ ≠ (v306 : Value).ownBlock) v313 t312) ∧ Aside0 (w'.heap[gb293]? = some (.cells #[(.slice A0_0 l0_0.length c0_0), .int .i64 a0_1, .int .i64 a0_2, (.slice A0_3 l0_3.length c0_3), (.slice A0_4 l0_4.length c0_4)] 58 (0, 0))) ∧ Aside0 (Below w.heap.size w w'))
          case atStart => exact ⟨(x10_3), (0), rfl, rfl, H', ⟨Nat.le_refl _⟩, ⟨by exact Kd.S_mono HO_4.out (fun _ hk => ⟨hk.1.1, hk.2⟩)⟩, ⟨by exact Kd.S_mono HO_7.out (fun _ hk => ⟨hk.1.1, hk.2⟩)⟩, ⟨by exact Kd.S_mono HO314.out (fun _ hk => ⟨hk.1.1.2, hk.1.2⟩)⟩, ⟨by exact BK293.out⟩, ⟨HB.out⟩⟩
          case round =>
           clear H'
           obtain ⟨x10_4, x58_4, rfl, rfl, HA, HK4, HO_4, HO_7, HO_11, BK293, HB⟩ := hrel
           cases gk with
           | zero => exact absurd HA.out (by simp [llperiod.l4])
           | succ k4 =>
            have H := HA.out
            clear HA
            simp only [llperiod.l4] at H
            by_cases c35 : x58_4 < (l0_3.length : Int)
            ·
             rw [if_pos c35] at H
             have c35b0 : decide (x58_4 < (l0_3.length : Int)) = true := decide_eq_true c35
             clear c35
             by_cases c36 : 0 ≤ x58_4
             ·
              rw [if_pos c36] at H
              have c36b0 : decide (0 ≤ x58_4) = true := decide_eq_true c36
              clear c36
              by_cases c37 : x58_4 < (t312.length : Int)
              ·
               rw [if_pos c37] at H
               have c37b0 : decide (x58_4 < (t312.length : Int)) = true := decide_eq_true c37
               clear c37
               by_cases c38 : x58_4 < ((rd_L1 t312 x58_4).length : Int)
               ·
                rw [if_pos c38] at H
                have c38b0 : decide (x58_4 < ((rd_L1 t312 x58_4).length : Int)) = true := decide_eq_true c38
                clear c38
                by_cases c39 : (rd (rd_L1 t312 x58_4) x58_4) = 0
                ·
                 rw [if_pos c39] at H
                 have c39b0 : ((rd (rd_L1 t312 x58_4) x58_4) == 0) = true := beq_iff_eq.mpr c39
                 clear c39
                 by_cases c40 : 0 ≤ x43_2
                 ·
                  rw [if_pos c40] at H
                  have c40b0 : decide (0 ≤ x43_2) = true := decide_eq_true c40
                  clear c40
                  by_cases c41 : x43_2 < (t305.length : Int)
                  ·
                   rw [if_pos c41] at H
                   have c41b0 : decide (x43_2 < (t305.length : Int)) = true := decide_eq_true c41
                   clear c41
                   by_cases c42 : x58_4 < ((rd_L1 t305 x43_2).length : Int)
                   ·
                    rw [if_pos c42] at H
                    have c42b0 : decide (x58_4 < ((rd_L1 t305 x43_2).length : Int)) = true := decide_eq_true c42
                    clear c42
                    by_cases c43 : (rd (rd_L1 t305 x43_2) x58_4) = 0
                    ·
                     rw [if_pos c43] at H
                     have c43b0 : ((rd (rd_L1 t305 x43_2) x58_4) == 0) = true := beq_iff_eq.mpr c43
                     clear c43
                     by_cases c44 : x58_4 < (t305.length : Int)
                     ·
                      rw [if_pos c44] at H
                      have c44b0 : decide (x58_4 < (t305.length : Int)) = true := decide_eq_true c44
                      clear c44
                      by_cases c45 : x43_2 < ((rd_L1 t305 x58_4).length : Int)
                      ·
                       rw [if_pos c45] at H
                       have c45b0 : decide (x43_2 < ((rd_L1 t305 x58_4).length : Int)) = true := decide_eq_true c45
                       clear c45
                       by_cases c46 : (rd (rd_L1 t305 x58_4) x43_2) = 0
                       ·
                        rw [if_pos c46] at H
                        have c46b0 : ((rd (rd_L1 t305 x58_4) x43_2) == 0) = true := beq_iff_eq.mpr c46
                        clear c46
                        replace H := Option.bind_eq_some_iff.mp H
                        obtain ⟨t321, A470, H⟩ := H
                        replace H : (llperiod.l4 k4 (l0_3.length : Int) x4_1 t305 x8_2 x43_2 t321 t312 x12_3 (l0_3.length : Int) x43_2 (l0_3.length : Int) (wrap64 (x58_4 + 1))) = some r := H
                        have A47 := Aside0.mk A470
                        clear A470
                        have H' := Aside0.mk H
                        clear H
                        obtain ⟨Ao48, co48, eo48⟩ := Kd.S_slice HO_11.out
                        subst eo48
                        have p315 : 0 ≤ (x58_4 : Int) := of_decide_eq_true (by assumption)
                        have q315 : x58_4 < (t312.length : Int) := of_decide_eq_true (by assumption)
                        obtain ⟨ad315, A315_0, c315_0, e315, hx315_0, hl315_0, hi315_0⟩ := at_L1 (Kd.S_reads' HO_11.out).2.2 x58_4 p315 q315
                        cases e315
                        obtain ⟨ce315, hce315, hMe315, hcc315⟩ := Kd.S_get HO_11.out [] x58_4 p315 (by first | exact q315 | exact of_decide_eq_true (by assumption) | (have e_ := (Kd.S_reads' HO_11.out).1; omega))
                        obtain ⟨ve315_0, rfl, ge315_0⟩ := hMe315
                        have hv315_0 := hcc315 0 _ rfl
                        rw [Nat.add_zero, show ((Kd.slice 3 (Kd.int .i64))).sz = 1 from rfl, Nat.mul_one] at hv315_0
                        replace hv315_0 := Option.some.inj (hv315_0.symm.trans hx315_0)
                        rw [hv315_0] at ge315_0
                        have HL315_0 := Aside0.mk (show Kd.R (Kd.int .i64) 3 _ _ _ _ (rd_L1 t312 x58_4) from ge315_0)
                        clear hv315_0 ge315_0
                        have HX315_0 := Aside0.mk hx315_0
                        clear hcc315 hce315
                        have HR315_0 := Aside0.mk hi315_0
                        have HC315_0 := Aside0.mk hl315_0
                        clear hi315_0 hl315_0
                        replace p315 := eq_true p315
                        replace q315 := eq_true q315
                        have p316 : 0 ≤ (x58_4 : Int) := of_decide_eq_true (by assumption)
                        have q316 : x58_4 < ((rd_L1 t312 x58_4).length : Int) := of_decide_eq_true (by assumption)
                        obtain ⟨ad316, e316, hx316_0⟩ := Kd.at_int (by repeat (first | (with_reducible exact HR315_0.out) | exact HR315_0.out)) x58_4 p316 q316
                        cases e316
                        replace p316 := eq_true p316
                        replace q316 := eq_true q316
                        obtain ⟨Ao49, co49, eo49⟩ := Kd.S_slice HO_7.out
                        subst eo49
                        have p317 : 0 ≤ (x43_2 : Int) := of_decide_eq_true (by assumption)
                        have q317 : x43_2 < (t305.length : Int) := of_decide_eq_true (by assumption)
                        obtain ⟨ad317, A317_0, c317_0, e317, hx317_0, hl317_0, hi317_0⟩ := at_L1 (Kd.S_reads' HO_7.out).2.2 x43_2 p317 q317
                        cases e317
                        obtain ⟨ce317, hce317, hMe317, hcc317⟩ := Kd.S_get HO_7.out [] x43_2 p317 (by first | exact q317 | exact of_decide_eq_true (by assumption) | (have e_ := (Kd.S_reads' HO_7.out).1; omega))
                        obtain ⟨ve317_0, rfl, ge317_0⟩ := hMe317
                        have hv317_0 := hcc317 0 _ rfl
                        rw [Nat.add_zero, show ((Kd.slice 3 (Kd.int .i64))).sz = 1 from rfl, Nat.mul_one] at hv317_0
                        replace hv317_0 := Option.some.inj (hv317_0.symm.trans hx317_0)
                        rw [hv317_0] at ge317_0
                        have HL317_0 := Aside0.mk (show Kd.R (Kd.int .i64) 3 _ _ _ _ (rd_L1 t305 x43_2) from ge317_0)
                        clear hv317_0 ge317_0
                        have HX317_0 := Aside0.mk hx317_0
                        clear hcc317 hce317
                        have HR317_0 := Aside0.mk hi317_0
                        have HC317_0 := Aside0.mk hl317_0
                        clear hi317_0 hl317_0
                        replace p317 := eq_true p317
                        replace q317 := eq_true q317
                        have p318 : 0 ≤ (x58_4 : Int) := of_decide_eq_true (by assumption)
                        have q318 : x58_4 < ((rd_L1 t305 x43_2).length : Int) := of_decide_eq_true (by assumption)
                        obtain ⟨ad318, e318, hx318_0⟩ := Kd.at_int (by repeat (first | (with_reducible exact HR317_0.out) | exact HR317_0.out)) x58_4 p318 q318
                        cases e318
                        replace p318 := eq_true p318
                        replace q318 := eq_true q318
                        have p319 : 0 ≤ (x58_4 : Int) := of_decide_eq_true (by assumption)
                        have q319 : x58_4 < (t305.length : Int) := of_decide_eq_true (by assumption)
                        obtain ⟨ad319, A319_0, c319_0, e319, hx319_0, hl319_0, hi319_0⟩ := at_L1 (Kd.S_reads' HO_7.out).2.2 x58_4 p319 q319
                        obtain rfl : ad317 = ad319 := (by injection e319)
                        obtain ⟨ce319, hce319, hMe319, hcc319⟩ := Kd.S_get HO_7.out [] x58_4 p319 (by first | exact q319 | exact of_decide_eq_true (by assumption) | (have e_ := (Kd.S_reads' HO_7.out).1; omega))
                        obtain ⟨ve319_0, rfl, ge319_0⟩ := hMe319
                        have hv319_0 := hcc319 0 _ rfl
                        rw [Nat.add_zero, show ((Kd.slice 3 (Kd.int .i64))).sz = 1 from rfl, Nat.mul_one] at hv319_0
                        replace hv319_0 := Option.some.inj (hv319_0.symm.trans hx319_0)
                        rw [hv319_0] at ge319_0
                        have HL319_0 := Aside0.mk (show Kd.R (Kd.int .i64) 3 _ _ _ _ (rd_L1 t305 x58_4) from ge319_0)
                        clear hv319_0 ge319_0
                        have HX319_0 := Aside0.mk hx319_0
                        clear hcc319 hce319
                        have HR319_0 := Aside0.mk hi319_0
                        have HC319_0 := Aside0.mk hl319_0
                        clear hi319_0 hl319_0
                        replace p319 := eq_true p319
                        replace q319 := eq_true q319
                        have p320 : 0 ≤ (x43_2 : Int) := of_decide_eq_true (by assumption)
                        have q320 : x43_2 < ((rd_L1 t305 x58_4).length : Int) := of_decide_eq_true (by assumption)
                        obtain ⟨ad320, e320, hx320_0⟩ := Kd.at_int (by repeat (first | (with_reducible exact HR319_0.out) | exact HR319_0.out)) x43_2 p320 q320
                        cases e320
                        replace p320 := eq_true p320
                        replace q320 := eq_true q320
                        go_wp2_with (first | ((with_reducible refine gate_callee (f := 89) rfl ?_); refine goesL_ (some 91) rfl rfl Try.func89 (by kernel_rfl) rfl #[.int .i64 x10_4, .int .i64 x12_3] rfl (by (try simp only [List.map_toArray, List.map_cons, List.map_nil]); rfl) ?_; (with_reducible refine (line_gcd.calls k4 x10_4 x12_3 t321 _ A47.out).mono ?_); rintro e w50 ⟨rfl, hb⟩; refine ⟨_, rfl, ?_⟩; have n0_ := Aside0.mk (Kd.S_below (by exact HO_4.out) hb); have n1_ := Aside0.mk (Kd.S_below (by exact HO_7.out) hb); have n2_ := Aside0.mk (Kd.S_below (by exact HO_11.out) hb); have n3_ := Aside0.mk (Kd.R_below (by exact HL315_0.out) hb); have n4_ := Aside0.mk (Kd.R_below (by exact HL317_0.out) hb); have n5_ := Aside0.mk (Kd.R_below (by exact HL319_0.out) hb); have n6_ := Aside0.mk (blk_below (g := gb293) (o := .cells #[.slice A0_0 l0_0.length c0_0, .int .i64 a0_1, .int .i64 a0_2, .slice A0_3 l0_3.length c0_3, .slice A0_4 l0_4.length c0_4] 58 (0, 0)) (by exact BK293.out) hb); have n7_ := Aside0.mk (Kd.C_below (by repeat (first | (with_reducible exact HR315_0.out) | exact HR315_0.out)) hb); have n8_ := Aside0.mk (pw_cell_below hb HX315_0.out); have n9_ := Aside0.mk (Kd.C_below (by repeat (first | (with_reducible exact HR317_0.out) | exact HR317_0.out)) hb); have n10_ := Aside0.mk (pw_cell_below hb HX317_0.out); have n11_ := Aside0.mk (Kd.C_below (by repeat (first | (with_reducible exact HR319_0.out) | exact HR319_0.out)) hb); have n12_ := Aside0.mk (pw_cell_below hb HX319_0.out); have n13_ := Aside0.mk (below_step (HB.out) hb); clear HO_4; clear HO_7; clear HO_11; clear HL315_0; clear HL317_0; clear HL319_0; clear BK293; clear HR315_0; clear HX315_0; clear HR317_0; clear HX317_0; clear HR319_0; clear HX319_0; clear HB; have HO_4 := n0_; have HO_7 := n1_; have HO_11 := n2_; have HL315_0 := n3_; have HL317_0 := n4_; have HL319_0 := n5_; have BK293 := n6_; have HR315_0 := n7_; have HX315_0 := n8_; have HR317_0 := n9_; have HX317_0 := n10_; have HR319_0 := n11_; have HX319_0 := n12_; have HB := n13_; clear n0_ n1_ n2_ n3_ n4_ n5_ n6_ n7_ n8_ n9_ n10_ n11_ n12_ n13_))
                        go_roundg k4
                        case measure => have := HK1.out; have := HK2.out; have := HK3.out; have := HK4.out; omega
                        case rel => exact ⟨(t321), (wrap64 (x58_4 + 1)), rfl, rfl, H', ⟨by have := HK1.out; have := HK2.out; have := HK3.out; have := HK4.out; omega⟩, ⟨by exact HO_4.out⟩, ⟨by exact HO_7.out⟩, ⟨by exact HO_11.out⟩, ⟨by exact BK293.out⟩, ⟨HB.out⟩⟩
                       ·
                        rw [if_neg c46] at H
                        have c46b0 : ((rd (rd_L1 t305 x58_4) x43_2) == 0) = false := beq_eq_false_iff_ne.mpr c46
                        have H' := Aside0.mk H
                        clear H
                        obtain ⟨Ao51, co51, eo51⟩ := Kd.S_slice HO_11.out
                        subst eo51
                        have p315 : 0 ≤ (x58_4 : Int) := of_decide_eq_true (by assumption)
                        have q315 : x58_4 < (t312.length : Int) := of_decide_eq_true (by assumption)
                        obtain ⟨ad315, A315_0, c315_0, e315, hx315_0, hl315_0, hi315_0⟩ := at_L1 (Kd.S_reads' HO_11.out).2.2 x58_4 p315 q315
                        cases e315
                        obtain ⟨ce315, hce315, hMe315, hcc315⟩ := Kd.S_get HO_11.out [] x58_4 p315 (by first | exact q315 | exact of_decide_eq_true (by assumption) | (have e_ := (Kd.S_reads' HO_11.out).1; omega))
                        obtain ⟨ve315_0, rfl, ge315_0⟩ := hMe315
                        have hv315_0 := hcc315 0 _ rfl
                        rw [Nat.add_zero, show ((Kd.slice 3 (Kd.int .i64))).sz = 1 from rfl, Nat.mul_one] at hv315_0
                        replace hv315_0 := Option.some.inj (hv315_0.symm.trans hx315_0)
                        rw [hv315_0] at ge315_0
                        have HL315_0 := Aside0.mk (show Kd.R (Kd.int .i64) 3 _ _ _ _ (rd_L1 t312 x58_4) from ge315_0)
                        clear hv315_0 ge315_0
                        have HX315_0 := Aside0.mk hx315_0
                        clear hcc315 hce315
                        have HR315_0 := Aside0.mk hi315_0
                        have HC315_0 := Aside0.mk hl315_0
                        clear hi315_0 hl315_0
                        replace p315 := eq_true p315
                        replace q315 := eq_true q315
                        have p316 : 0 ≤ (x58_4 : Int) := of_decide_eq_true (by assumption)
                        have q316 : x58_4 < ((rd_L1 t312 x58_4).length : Int) := of_decide_eq_true (by assumption)
                        obtain ⟨ad316, e316, hx316_0⟩ := Kd.at_int (by repeat (first | (with_reducible exact HR315_0.out) | exact HR315_0.out)) x58_4 p316 q316
                        cases e316
                        replace p316 := eq_true p316
                        replace q316 := eq_true q316
                        obtain ⟨Ao52, co52, eo52⟩ := Kd.S_slice HO_7.out
                        subst eo52
                        have p317 : 0 ≤ (x43_2 : Int) := of_decide_eq_true (by assumption)
                        have q317 : x43_2 < (t305.length : Int) := of_decide_eq_true (by assumption)
                        obtain ⟨ad317, A317_0, c317_0, e317, hx317_0, hl317_0, hi317_0⟩ := at_L1 (Kd.S_reads' HO_7.out).2.2 x43_2 p317 q317
                        cases e317
                        obtain ⟨ce317, hce317, hMe317, hcc317⟩ := Kd.S_get HO_7.out [] x43_2 p317 (by first | exact q317 | exact of_decide_eq_true (by assumption) | (have e_ := (Kd.S_reads' HO_7.out).1; omega))
                        obtain ⟨ve317_0, rfl, ge317_0⟩ := hMe317
                        have hv317_0 := hcc317 0 _ rfl
                        rw [Nat.add_zero, show ((Kd.slice 3 (Kd.int .i64))).sz = 1 from rfl, Nat.mul_one] at hv317_0
                        replace hv317_0 := Option.some.inj (hv317_0.symm.trans hx317_0)
                        rw [hv317_0] at ge317_0
                        have HL317_0 := Aside0.mk (show Kd.R (Kd.int .i64) 3 _ _ _ _ (rd_L1 t305 x43_2) from ge317_0)
                        clear hv317_0 ge317_0
                        have HX317_0 := Aside0.mk hx317_0
                        clear hcc317 hce317
                        have HR317_0 := Aside0.mk hi317_0
                        have HC317_0 := Aside0.mk hl317_0
                        clear hi317_0 hl317_0
                        replace p317 := eq_true p317
                        replace q317 := eq_true q317
                        have p318 : 0 ≤ (x58_4 : Int) := of_decide_eq_true (by assumption)
                        have q318 : x58_4 < ((rd_L1 t305 x43_2).length : Int) := of_decide_eq_true (by assumption)
                        obtain ⟨ad318, e318, hx318_0⟩ := Kd.at_int (by repeat (first | (with_reducible exact HR317_0.out) | exact HR317_0.out)) x58_4 p318 q318
                        cases e318
                        replace p318 := eq_true p318
                        replace q318 := eq_true q318
                        have p319 : 0 ≤ (x58_4 : Int) := of_decide_eq_true (by assumption)
                        have q319 : x58_4 < (t305.length : Int) := of_decide_eq_true (by assumption)
                        obtain ⟨ad319, A319_0, c319_0, e319, hx319_0, hl319_0, hi319_0⟩ := at_L1 (Kd.S_reads' HO_7.out).2.2 x58_4 p319 q319
                        obtain rfl : ad317 = ad319 := (by injection e319)
                        obtain ⟨ce319, hce319, hMe319, hcc319⟩ := Kd.S_get HO_7.out [] x58_4 p319 (by first | exact q319 | exact of_decide_eq_true (by assumption) | (have e_ := (Kd.S_reads' HO_7.out).1; omega))
                        obtain ⟨ve319_0, rfl, ge319_0⟩ := hMe319
                        have hv319_0 := hcc319 0 _ rfl
                        rw [Nat.add_zero, show ((Kd.slice 3 (Kd.int .i64))).sz = 1 from rfl, Nat.mul_one] at hv319_0
                        replace hv319_0 := Option.some.inj (hv319_0.symm.trans hx319_0)
                        rw [hv319_0] at ge319_0
                        have HL319_0 := Aside0.mk (show Kd.R (Kd.int .i64) 3 _ _ _ _ (rd_L1 t305 x58_4) from ge319_0)
                        clear hv319_0 ge319_0
                        have HX319_0 := Aside0.mk hx319_0
                        clear hcc319 hce319
                        have HR319_0 := Aside0.mk hi319_0
                        have HC319_0 := Aside0.mk hl319_0
                        clear hi319_0 hl319_0
                        replace p319 := eq_true p319
                        replace q319 := eq_true q319
                        have p320 : 0 ≤ (x43_2 : Int) := of_decide_eq_true (by assumption)
                        have q320 : x43_2 < ((rd_L1 t305 x58_4).length : Int) := of_decide_eq_true (by assumption)
                        obtain ⟨ad320, e320, hx320_0⟩ := Kd.at_int (by repeat (first | (with_reducible exact HR319_0.out) | exact HR319_0.out)) x43_2 p320 q320
                        cases e320
                        replace p320 := eq_true p320
                        replace q320 := eq_true q320
                        go_wp2
                        go_roundg k4
                        case measure => have := HK1.out; have := HK2.out; have := HK3.out; have := HK4.out; omega
                        case rel => exact ⟨(x10_4), (wrap64 (x58_4 + 1)), rfl, rfl, H', ⟨by have := HK1.out; have := HK2.out; have := HK3.out; have := HK4.out; omega⟩, ⟨by exact HO_4.out⟩, ⟨by exact HO_7.out⟩, ⟨by exact HO_11.out⟩, ⟨by exact BK293.out⟩, ⟨HB.out⟩⟩
                      ·
                       rw [if_neg c45] at H
                       exact absurd H (by simp)
                     ·
                      rw [if_neg c44] at H
                      exact absurd H (by simp)
                    ·
                     rw [if_neg c43] at H
                     have c43b0 : ((rd (rd_L1 t305 x43_2) x58_4) == 0) = false := beq_eq_false_iff_ne.mpr c43
                     have H' := Aside0.mk H
                     clear H
                     obtain ⟨Ao53, co53, eo53⟩ := Kd.S_slice HO_11.out
                     subst eo53
                     have p315 : 0 ≤ (x58_4 : Int) := of_decide_eq_true (by assumption)
                     have q315 : x58_4 < (t312.length : Int) := of_decide_eq_true (by assumption)
                     obtain ⟨ad315, A315_0, c315_0, e315, hx315_0, hl315_0, hi315_0⟩ := at_L1 (Kd.S_reads' HO_11.out).2.2 x58_4 p315 q315
                     cases e315
                     obtain ⟨ce315, hce315, hMe315, hcc315⟩ := Kd.S_get HO_11.out [] x58_4 p315 (by first | exact q315 | exact of_decide_eq_true (by assumption) | (have e_ := (Kd.S_reads' HO_11.out).1; omega))
                     obtain ⟨ve315_0, rfl, ge315_0⟩ := hMe315
                     have hv315_0 := hcc315 0 _ rfl
                     rw [Nat.add_zero, show ((Kd.slice 3 (Kd.int .i64))).sz = 1 from rfl, Nat.mul_one] at hv315_0
                     replace hv315_0 := Option.some.inj (hv315_0.symm.trans hx315_0)
                     rw [hv315_0] at ge315_0
                     have HL315_0 := Aside0.mk (show Kd.R (Kd.int .i64) 3 _ _ _ _ (rd_L1 t312 x58_4) from ge315_0)
                     clear hv315_0 ge315_0
                     have HX315_0 := Aside0.mk hx315_0
                     clear hcc315 hce315
                     have HR315_0 := Aside0.mk hi315_0
                     have HC315_0 := Aside0.mk hl315_0
                     clear hi315_0 hl315_0
                     replace p315 := eq_true p315
                     replace q315 := eq_true q315
                     have p316 : 0 ≤ (x58_4 : Int) := of_decide_eq_true (by assumption)
                     have q316 : x58_4 < ((rd_L1 t312 x58_4).length : Int) := of_decide_eq_true (by assumption)
                     obtain ⟨ad316, e316, hx316_0⟩ := Kd.at_int (by repeat (first | (with_reducible exact HR315_0.out) | exact HR315_0.out)) x58_4 p316 q316
                     cases e316
                     replace p316 := eq_true p316
                     replace q316 := eq_true q316
                     obtain ⟨Ao54, co54, eo54⟩ := Kd.S_slice HO_7.out
                     subst eo54
                     have p317 : 0 ≤ (x43_2 : Int) := of_decide_eq_true (by assumption)
                     have q317 : x43_2 < (t305.length : Int) := of_decide_eq_true (by assumption)
                     obtain ⟨ad317, A317_0, c317_0, e317, hx317_0, hl317_0, hi317_0⟩ := at_L1 (Kd.S_reads' HO_7.out).2.2 x43_2 p317 q317
                     cases e317
                     obtain ⟨ce317, hce317, hMe317, hcc317⟩ := Kd.S_get HO_7.out [] x43_2 p317 (by first | exact q317 | exact of_decide_eq_true (by assumption) | (have e_ := (Kd.S_reads' HO_7.out).1; omega))
                     obtain ⟨ve317_0, rfl, ge317_0⟩ := hMe317
                     have hv317_0 := hcc317 0 _ rfl
                     rw [Nat.add_zero, show ((Kd.slice 3 (Kd.int .i64))).sz = 1 from rfl, Nat.mul_one] at hv317_0
                     replace hv317_0 := Option.some.inj (hv317_0.symm.trans hx317_0)
                     rw [hv317_0] at ge317_0
                     have HL317_0 := Aside0.mk (show Kd.R (Kd.int .i64) 3 _ _ _ _ (rd_L1 t305 x43_2) from ge317_0)
                     clear hv317_0 ge317_0
                     have HX317_0 := Aside0.mk hx317_0
                     clear hcc317 hce317
                     have HR317_0 := Aside0.mk hi317_0
                     have HC317_0 := Aside0.mk hl317_0
                     clear hi317_0 hl317_0
                     replace p317 := eq_true p317
                     replace q317 := eq_true q317
                     have p318 : 0 ≤ (x58_4 : Int) := of_decide_eq_true (by assumption)
                     have q318 : x58_4 < ((rd_L1 t305 x43_2).length : Int) := of_decide_eq_true (by assumption)
                     obtain ⟨ad318, e318, hx318_0⟩ := Kd.at_int (by repeat (first | (with_reducible exact HR317_0.out) | exact HR317_0.out)) x58_4 p318 q318
                     cases e318
                     replace p318 := eq_true p318
                     replace q318 := eq_true q318
                     go_wp2
                     go_roundg k4
                     case measure => have := HK1.out; have := HK2.out; have := HK3.out; have := HK4.out; omega
                     case rel => exact ⟨(x10_4), (wrap64 (x58_4 + 1)), rfl, rfl, H', ⟨by have := HK1.out; have := HK2.out; have := HK3.out; have := HK4.out; omega⟩, ⟨by exact HO_4.out⟩, ⟨by exact HO_7.out⟩, ⟨by exact HO_11.out⟩, ⟨by exact BK293.out⟩, ⟨HB.out⟩⟩
                   ·
                    rw [if_neg c42] at H
                    exact absurd H (by simp)
                  ·
                   rw [if_neg c41] at H
                   exact absurd H (by simp)
                 ·
                  rw [if_neg c40] at H
                  exact absurd H (by simp)
                ·
                 rw [if_neg c39] at H
                 have c39b0 : ((rd (rd_L1 t312 x58_4) x58_4) == 0) = false := beq_eq_false_iff_ne.mpr c39
                 have H' := Aside0.mk H
                 clear H
                 obtain ⟨Ao55, co55, eo55⟩ := Kd.S_slice HO_11.out
                 subst eo55
                 have p315 : 0 ≤ (x58_4 : Int) := of_decide_eq_true (by assumption)
                 have q315 : x58_4 < (t312.length : Int) := of_decide_eq_true (by assumption)
                 obtain ⟨ad315, A315_0, c315_0, e315, hx315_0, hl315_0, hi315_0⟩ := at_L1 (Kd.S_reads' HO_11.out).2.2 x58_4 p315 q315
                 cases e315
                 obtain ⟨ce315, hce315, hMe315, hcc315⟩ := Kd.S_get HO_11.out [] x58_4 p315 (by first | exact q315 | exact of_decide_eq_true (by assumption) | (have e_ := (Kd.S_reads' HO_11.out).1; omega))
                 obtain ⟨ve315_0, rfl, ge315_0⟩ := hMe315
                 have hv315_0 := hcc315 0 _ rfl
                 rw [Nat.add_zero, show ((Kd.slice 3 (Kd.int .i64))).sz = 1 from rfl, Nat.mul_one] at hv315_0
                 replace hv315_0 := Option.some.inj (hv315_0.symm.trans hx315_0)
                 rw [hv315_0] at ge315_0
                 have HL315_0 := Aside0.mk (show Kd.R (Kd.int .i64) 3 _ _ _ _ (rd_L1 t312 x58_4) from ge315_0)
                 clear hv315_0 ge315_0
                 have HX315_0 := Aside0.mk hx315_0
                 clear hcc315 hce315
                 have HR315_0 := Aside0.mk hi315_0
                 have HC315_0 := Aside0.mk hl315_0
                 clear hi315_0 hl315_0
                 replace p315 := eq_true p315
                 replace q315 := eq_true q315
                 have p316 : 0 ≤ (x58_4 : Int) := of_decide_eq_true (by assumption)
                 have q316 : x58_4 < ((rd_L1 t312 x58_4).length : Int) := of_decide_eq_true (by assumption)
                 obtain ⟨ad316, e316, hx316_0⟩ := Kd.at_int (by repeat (first | (with_reducible exact HR315_0.out) | exact HR315_0.out)) x58_4 p316 q316
                 cases e316
                 replace p316 := eq_true p316
                 replace q316 := eq_true q316
                 go_wp2
                 go_roundg k4
                 case measure => have := HK1.out; have := HK2.out; have := HK3.out; have := HK4.out; omega
                 case rel => exact ⟨(x10_4), (wrap64 (x58_4 + 1)), rfl, rfl, H', ⟨by have := HK1.out; have := HK2.out; have := HK3.out; have := HK4.out; omega⟩, ⟨by exact HO_4.out⟩, ⟨by exact HO_7.out⟩, ⟨by exact HO_11.out⟩, ⟨by exact BK293.out⟩, ⟨HB.out⟩⟩
               ·
                rw [if_neg c38] at H
                exact absurd H (by simp)
              ·
               rw [if_neg c37] at H
               exact absurd H (by simp)
             ·
              rw [if_neg c36] at H
              exact absurd H (by simp)
            ·
             rw [if_neg c35] at H
             have c35b0 : decide (x58_4 < (l0_3.length : Int)) = false := decide_eq_false c35
             clear c35
             have H' := Aside0.mk H
             clear H
             go_wp2
             go_roundg k4
             case measure => have := HK1.out; have := HK2.out; have := HK3.out; have := HK4.out; omega
             case rel => exact ⟨(x10_4), (t312), (wrap64 (x12_3 + 1)), rfl, rfl, H', ⟨by have := HK1.out; have := HK2.out; have := HK3.out; have := HK4.out; omega⟩, ⟨by exact HO_4.out⟩, ⟨by exact HO_7.out⟩, ⟨by exact HO_11.out⟩, ⟨by exact BK293.out⟩, ⟨HB.out⟩⟩
         ·
          rw [if_neg c31] at H
          have c31b0 : decide (x12_3 ≤ (wrap64 (2 * (l0_3.length : Int)))) = false := decide_eq_false c31
          clear c31
          by_cases c56 : x10_3 > 0
          ·
           rw [if_pos c56] at H
           have c56b0 : decide (0 < x10_3) = true := decide_eq_true c56
           clear c56
           replace H := Option.bind_eq_some_iff.mp H
           obtain ⟨t311, A570, H⟩ := H
           replace H : (if t311 = 0 then (none) else (llperiod.l2 k3 (l0_3.length : Int) x4_1 t305 (wrap64 ((wrap64 (Int.tdiv x8_2 t311)) * x10_3)) (l0_3.length : Int) (wrap64 (x43_2 + 1)))) = some r := H
           have A57 := Aside0.mk A570
           clear A570
           by_cases c58 : t311 = 0
           ·
            rw [if_pos c58] at H
            exact absurd H (by simp)
           ·
            rw [if_neg c58] at H
            have c58b0 : (t311 == 0) = false := beq_eq_false_iff_ne.mpr c58
            have H' := Aside0.mk H
            clear H
            go_wp2_with (first | ((with_reducible refine gate_callee (f := 89) rfl ?_); refine goesL_ (some 98) rfl rfl Try.func89 (by kernel_rfl) rfl #[.int .i64 x8_2, .int .i64 x10_3] rfl (by (try simp only [List.map_toArray, List.map_cons, List.map_nil]); rfl) ?_; (with_reducible refine (line_gcd.calls k3 x8_2 x10_3 t311 _ A57.out).mono ?_); rintro e w59 ⟨rfl, hb⟩; refine ⟨_, rfl, ?_⟩; have n0_ := Aside0.mk (Kd.S_below (by exact HO_4.out) hb); have n1_ := Aside0.mk (Kd.S_below (by exact HO_7.out) hb); have n2_ := Aside0.mk (Kd.S_below (by exact HO_11.out) hb); have n3_ := Aside0.mk (blk_below (g := gb293) (o := .cells #[.slice A0_0 l0_0.length c0_0, .int .i64 a0_1, .int .i64 a0_2, .slice A0_3 l0_3.length c0_3, .slice A0_4 l0_4.length c0_4] 58 (0, 0)) (by exact BK293.out) hb); have n4_ := Aside0.mk (below_step (HB.out) hb); clear HO_4; clear HO_7; clear HO_11; clear BK293; clear HB; have HO_4 := n0_; have HO_7 := n1_; have HO_11 := n2_; have BK293 := n3_; have HB := n4_; clear n0_ n1_ n2_ n3_ n4_))
            go_roundg k3
            case measure => have := HK1.out; have := HK2.out; have := HK3.out; omega
            case rel => exact ⟨(wrap64 ((wrap64 (Int.tdiv x8_2 t311)) * x10_3)), (wrap64 (x43_2 + 1)), rfl, rfl, H', ⟨by have := HK1.out; have := HK2.out; have := HK3.out; omega⟩, ⟨by exact Kd.S_mono HO_4.out (fun _ hk => hk.1)⟩, ⟨by exact Kd.S_mono HO_7.out (fun _ hk => hk.1)⟩, ⟨by exact BK293.out⟩, ⟨HB.out⟩⟩
          ·
           rw [if_neg c56] at H
           have c56b0 : decide (0 < x10_3) = false := decide_eq_false c56
           clear c56
           have H' := Aside0.mk H
           clear H
           go_wp2
           go_roundg k3
           case measure => have := HK1.out; have := HK2.out; have := HK3.out; omega
           case rel => exact ⟨(x8_2), (wrap64 (x43_2 + 1)), rfl, rfl, H', ⟨by have := HK1.out; have := HK2.out; have := HK3.out; omega⟩, ⟨by exact Kd.S_mono HO_4.out (fun _ hk => hk.1)⟩, ⟨by exact Kd.S_mono HO_7.out (fun _ hk => hk.1)⟩, ⟨by exact BK293.out⟩, ⟨HB.out⟩⟩
      ·
       rw [if_neg c28] at H
       have c28b0 : decide (x43_2 < (l0_3.length : Int)) = false := decide_eq_false c28
       clear c28
       obtain rfl := Option.some.inj H
       go_wp2
       go_ret
       exact ⟨rfl, HB.out⟩
end Go.Proofs.Ythjmfbmffchicaa.V
