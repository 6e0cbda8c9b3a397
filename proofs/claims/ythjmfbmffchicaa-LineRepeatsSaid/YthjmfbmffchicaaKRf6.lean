/- Walks of functions that the law LineRepeats reaches: each theorem '.calls' says that the call comes to what its printed plain function says, under the conditions that stand in it. -/
import Derived.Test.YthjmfbmffchicaaProg
import Derived.Below
import Derived.Deep.Draws
import Derived.Deep.AppendLies
import Derived.Maps.AppendAt
import Derived.OwnWalk
import Derived.Laws.BytesArg
import Derived.Laws.MakeOwn
import Derived.Laws.OwnMore
import Derived.Deep.OwnRows
import Derived.Tactics
import Derived.Lib.ConvBytes
import Derived.Laws.Slices
import Derived.WalkKit
import Derived.KernelRfl
import Derived.RowKit3
import Derived.Deep.LoopGhost
import Derived.Deep.QuietTactic
import Derived.BigQuiet
import Derived.WideLaws
import Derived.Deep.DeepCutAuto
import Derived.Deep.CutBlock
import Derived.Deep.RegionHeld3
import Derived.Laws.Rows
import Derived.Lib.AppendStr
import Derived.ArgAppend
import Derived.Laws.IdiomCopy
import Derived.OrdersHeld
import Derived.Laws.BitsLemmas
import Derived.RowKit
import Derived.Test.YthjmfbmffchicaaKRAid
import Derived.Test.YthjmfbmffchicaaKRWWords
import Derived.Test.YthjmfbmffchicaaKRWLast
import Derived.Test.YthjmfbmffchicaaKRWTab
import Derived.Test.YthjmfbmffchicaaKRWFour
import Derived.Test.YthjmfbmffchicaaKRWQPut
import Derived.Test.YthjmfbmffchicaaKRWApart
import Derived.Test.YthjmfbmffchicaaKRWArr
import Derived.Test.YthjmfbmffchicaaKRWZeros
import Derived.Test.YthjmfbmffchicaaKRWFoot
import Derived.Test.YthjmfbmffchicaaKRWKept
import Derived.Test.YthjmfbmffchicaaKRWShare
import Derived.Test.YthjmfbmffchicaaKRWN
import Derived.Test.YthjmfbmffchicaaKRWFootNe
import Derived.Test.YthjmfbmffchicaaKRWAt
import Derived.Test.YthjmfbmffchicaaKRWEqStruct
import Derived.Test.YthjmfbmffchicaaKRWRepsOne
import Derived.Test.YthjmfbmffchicaaKRWInv
import Derived.Test.YthjmfbmffchicaaKRWInvWords
import Derived.Test.YthjmfbmffchicaaKRWGuard
import Derived.Test.YthjmfbmffchicaaKRWNEv
import Derived.Test.YthjmfbmffchicaaKRWMore
import Derived.Test.YthjmfbmffchicaaKRf0
import Derived.Test.YthjmfbmffchicaaKRf4
import Derived.Test.YthjmfbmffchicaaKRf5
namespace Go.Proofs.Ythjmfbmffchicaa.V
open Go.RowKit Go.Proofs.YthjmfbmffchicaaW.PrintWords Go.Proofs.YthjmfbmffchicaaW.PrintLast Go.Proofs.YthjmfbmffchicaaW.PrintMore
attribute [local go_sem] max2_int min2_int max_two min_two max_three min_three max_four min_four
set_option linter.unusedVariables false
set_option linter.unusedSimpArgs false
mutual
def l5repeats.j0 : Nat → Int → List (List Int) → List (List Int) → Bool → Int → Int → Option (Bool)
 | 0, _, _, _, _, _, _ => none
 | k + 1, x2, x9, x11, x58, x716000, x716001 => if x58 = true then (some false) else (l5repeats.l0 k x2 x9 x11 0 x716000 x716001)
def l5repeats.l0 : Nat → Int → List (List Int) → List (List Int) → Int → Int → Int → Option (Bool)
 | 0, _, _, _, _, _, _ => none
 | k + 1, x2, x9, x11, x13, x716000, x716001 => if x13 < (x9.length : Int) then (l5repeats.l1 k x2 x9 x11 x13 0 x716000 x716001) else (some true)
def l5repeats.l1 : Nat → Int → List (List Int) → List (List Int) → Int → Int → Int → Int → Option (Bool)
 | 0, _, _, _, _, _, _, _ => none
 | k + 1, x2, x9, x11, x13, x14, x716000, x716001 => if x14 < (x9.length : Int) then (if 0 ≤ x13 then (if x13 < (x11.length : Int) then (if 0 ≤ x14 then (if x14 < ((rd_L1 x11 x13).length : Int) then (if x13 < (x9.length : Int) then (if x14 < ((rd_L1 x9 x13).length : Int) then (if x716001 = 0 then (none) else ((l5plus.f (rd (rd_L1 x9 x13) x14) (wrap64 (Int.tdiv (wrap64 (x2 * x716000)) x716001))).bind fun t730 => (if (rd (rd_L1 x11 x13) x14) = t730 then (l5repeats.l1 k x2 x9 x11 x13 (wrap64 (x14 + 1)) x716000 x716001) else (some false)))) else (none)) else (none)) else (none)) else (none)) else (none)) else (none)) else (l5repeats.l0 k x2 x9 x11 (wrap64 (x13 + 1)) x716000 x716001)
end
def l5repeats.f (k : Nat) (l0 : List (List Int)) (a1 : Int) (a2 : Int) (a3_0 : Int) (a3_1 : Int) : Option (Bool) := (line_Power.f k l0 a1).bind fun bt716 => ((line_Power.f k l0 (wrap64 (a1 + a2))).bind fun bt720 => (if bt716.2 = 0 then (if bt720.2 = 0 then ((l5square.f k bt716.1 (l0.length : Int)).bind fun t724 => (if t724 = true then ((l5square.f k bt720.1 (l0.length : Int)).bind fun t725 => (if t725 = true then (if a3_1 = 0 then (none) else (l5repeats.j0 k a2 bt716.1 bt720.1 ((Int.tmod (wrap64 (a2 * a3_0)) a3_1) != 0) a3_0 a3_1)) else (l5repeats.j0 k a2 bt716.1 bt720.1 true a3_0 a3_1))) else (l5repeats.j0 k a2 bt716.1 bt720.1 true a3_0 a3_1))) else (l5repeats.j0 k a2 bt716.1 bt720.1 true a3_0 a3_1)) else (l5repeats.j0 k a2 bt716.1 bt720.1 true a3_0 a3_1)))
set_option maxHeartbeats 8000000 in
set_option maxRecDepth 100000 in
theorem l5repeats.calls (k : Nat) (A0 : Option Addr) (c0 : Nat) (l0 : List (List Int)) (a1 : Int) (a2 : Int) (a3_0 : Int) (a3_1 : Int) (r : Bool) (w : World) (hr0 : Kd.C (Kd.slice 3 (Kd.int .i64)) w A0 l0.length l0) (hc0 : l0.length ≤ c0) (h : l5repeats.f k l0 a1 a2 a3_0 a3_1 = some r) :
  Calls Try.prog 26 #[.slice A0 l0.length c0, .int .i64 a1, .int .i64 a2, .agg #[.int .i64 a3_0, .int .i64 a3_1]] w fun e w' => e = .returned (.bool r) ∧ Below w.heap.size w w' := by
 have hu37 := Try.underlying37
 have HR0 := Aside0.mk hr0
 have HC0 := Aside0.mk hc0
 clear hr0 hc0
 have HB := Aside0.mk (Below.refl w.heap.size w)
 have H : ((line_Power.f k l0 a1).bind fun bt716 => ((line_Power.f k l0 (wrap64 (a1 + a2))).bind fun bt720 => (if bt716.2 = 0 then (if bt720.2 = 0 then ((l5square.f k bt716.1 (l0.length : Int)).bind fun t724 => (if t724 = true then ((l5square.f k bt720.1 (l0.length : Int)).bind fun t725 => (if t725 = true then (if a3_1 = 0 then (none) else (l5repeats.j0 k a2 bt716.1 bt720.1 ((Int.tmod (wrap64 (a2 * a3_0)) a3_1) != 0) a3_0 a3_1)) else (l5repeats.j0 k a2 bt716.1 bt720.1 true a3_0 a3_1))) else (l5repeats.j0 k a2 bt716.1 bt720.1 true a3_0 a3_1))) else (l5repeats.j0 k a2 bt716.1 bt720.1 true a3_0 a3_1)) else (l5repeats.j0 k a2 bt716.1 bt720.1 true a3_0 a3_1)))) = some r := h
 clear h
 replace H := Option.bind_eq_some_iff.mp H
 obtain ⟨⟨t716, t717⟩, A50, H⟩ := H
 replace H : ((line_Power.f k l0 (wrap64 (a1 + a2))).bind fun bt720 => (if t717 = 0 then (if bt720.2 = 0 then ((l5square.f k t716 (l0.length : Int)).bind fun t724 => (if t724 = true then ((l5square.f k bt720.1 (l0.length : Int)).bind fun t725 => (if t725 = true then (if a3_1 = 0 then (none) else (l5repeats.j0 k a2 t716 bt720.1 ((Int.tmod (wrap64 (a2 * a3_0)) a3_1) != 0) a3_0 a3_1)) else (l5repeats.j0 k a2 t716 bt720.1 true a3_0 a3_1))) else (l5repeats.j0 k a2 t716 bt720.1 true a3_0 a3_1))) else (l5repeats.j0 k a2 t716 bt720.1 true a3_0 a3_1)) else (l5repeats.j0 k a2 t716 bt720.1 true a3_0 a3_1))) = some r := H
 have A5 := Aside0.mk A50
 clear A50
 replace H := Option.bind_eq_some_iff.mp H
 obtain ⟨⟨t720, t721⟩, A60, H⟩ := H
 replace H : (if t717 = 0 then (if t721 = 0 then ((l5square.f k t716 (l0.length : Int)).bind fun t724 => (if t724 = true then ((l5square.f k t720 (l0.length : Int)).bind fun t725 => (if t725 = true then (if a3_1 = 0 then (none) else (l5repeats.j0 k a2 t716 t720 ((Int.tmod (wrap64 (a2 * a3_0)) a3_1) != 0) a3_0 a3_1)) else (l5repeats.j0 k a2 t716 t720 true a3_0 a3_1))) else (l5repeats.j0 k a2 t716 t720 true a3_0 a3_1))) else (l5repeats.j0 k a2 t716 t720 true a3_0 a3_1)) else (l5repeats.j0 k a2 t716 t720 true a3_0 a3_1)) = some r := H
 have A6 := Aside0.mk A60
 clear A60
 have HC7 := Aside0.mk H
 clear H
 go_enter Try.func26, Try.ntmps26
 go_upto_region 3 with (first | ((with_reducible refine gate_dst (N := 7) rfl ?_); (try (refine gate_guard (by rfl) ?_; dsimp only)); refine box_event ?hg (N := 7) ?hd (cs := #[.int .i64 a3_0, .int .i64 a3_1]) (t := 37) ?hr ?_; (case hd => rfl); (case hg => rfl); (case hr => go_simp); intro gb715 hg w8 hbox hb; have n0_ := Aside0.mk (below_step (HB.out) hb); have n1_ := Aside0.mk (hbox); have n2_ := Aside0.mk ((by rw [hg]; exact (below_size (HB.out)) : w.heap.size ≤ gb715)); have n3_ := Aside0.mk ((by rw [hg]; exact (below_size (HB.out)) : w.heap.size ≤ gb715)); clear HB; have HB := n0_; have BK715 := n1_; have GW715 := n2_; have GE715 := n3_; clear n0_ n1_ n2_ n3_; clear hb hbox hg) | (go_at_call 40; (with_reducible refine (line_Power.calls k _ _ l0 a1 t716 t717 _ ?side1 ?side2 A5.out).mono ?_); (case side1 => repeat (first | exact (Kd.C_below HR0.out HB.out))); (case side2 => exact HC0.out); rintro e w9 ⟨v718, rfl, ho0, hb⟩; have n0_ := Aside0.mk (Kd.S_lower ho0 (below_size (HB.out))); have n1_ := Aside0.mk (blk_below (g := gb715) (o := .cells #[.int .i64 a3_0, .int .i64 a3_1] 37 (0, 0)) (by exact BK715.out) hb); have n2_ := Aside0.mk (below_step (HB.out) hb); clear BK715; clear HB; have HO719 := n0_; have BK715 := n1_; have HB := n2_; clear n0_ n1_ n2_) | (go_at_call 40; (with_reducible refine (line_Power.calls k _ _ l0 (wrap64 (a1 + a2)) t720 t721 _ ?side1 ?side2 A6.out).mono ?_); (case side1 => repeat (first | exact (Kd.C_below HR0.out HB.out))); (case side2 => exact HC0.out); rintro e w10 ⟨v722, rfl, ho0, hb⟩; have n0_ := Aside0.mk (Kd.S_elder' (by exact HO719.out) (Kd.S_base ho0) hb); have n1_ := Aside0.mk (Kd.S_lower (Kd.S_new' ho0 (Kd.S_lt (by exact HO719.out))) (below_size (HB.out))); have n2_ := Aside0.mk (blk_below (g := gb715) (o := .cells #[.int .i64 a3_0, .int .i64 a3_1] 37 (0, 0)) (by exact BK715.out) hb); have n3_ := Aside0.mk (below_step (HB.out) hb); clear HO719; clear BK715; clear HB; have HO719 := n0_; have HO723 := n1_; have BK715 := n2_; have HB := n3_; clear n0_ n1_ n2_ n3_))
 go_cut [58] (fun v58 wc => ∃ (kq : Nat) (x58_6 : Bool), v58 = .bool x58_6 ∧ Aside0 (l5repeats.j0 kq a2 t716 t720 x58_6 a3_0 a3_1 = some r) ∧ Aside0 (kq ≤ k) ∧ Aside0 (Kd.S (Kd.slice 3 (Kd.int .i64)) 26 wc w.heap.size (fun k_ => some k_ ≠ (v722 : Value).ownBlock) v718 t716) ∧ Aside0 (Kd.S (Kd.slice 3 (Kd.int .i64)) 26 wc w.heap.size (fun k_ => some k_ ≠ (v718 : Value).ownBlock) v722 t720) ∧ Aside0 (wc.heap[gb715]? = some (.cells #[.int .i64 a3_0, .int .i64 a3_1] 37 (0, 0))) ∧ Aside0 (Below w.heap.size w wc))
 case first =>
  have H := HC7.out
  clear HC7
  by_cases c11 : t717 = 0
  ·
   rw [if_pos c11] at H
   have c11b0 : (t717 == 0) = true := beq_iff_eq.mpr c11
   have c11b1 : (t717 != 0) = false := bne_eq_false_iff_eq.mpr c11
   clear c11
   (first | rw [c11b0] | (simp only [i64_w, i32_w]; rw [c11b0]) | skip)
   by_cases c12 : t721 = 0
   ·
    rw [if_pos c12] at H
    have c12b0 : (t721 == 0) = true := beq_iff_eq.mpr c12
    have c12b1 : (t721 != 0) = false := bne_eq_false_iff_eq.mpr c12
    clear c12
    replace H := Option.bind_eq_some_iff.mp H
    obtain ⟨t724, A130, H⟩ := H
    replace H : (if t724 = true then ((l5square.f k t720 (l0.length : Int)).bind fun t725 => (if t725 = true then (if a3_1 = 0 then (none) else (l5repeats.j0 k a2 t716 t720 ((Int.tmod (wrap64 (a2 * a3_0)) a3_1) != 0) a3_0 a3_1)) else (l5repeats.j0 k a2 t716 t720 true a3_0 a3_1))) else (l5repeats.j0 k a2 t716 t720 true a3_0 a3_1)) = some r := H
    have A13 := Aside0.mk A130
    clear A130
    by_cases c14 : t724 = true
    ·
     subst c14
     have H1 : ((l5square.f k t720 (l0.length : Int)).bind fun t725 => (if t725 = true then (if a3_1 = 0 then (none) else (l5repeats.j0 k a2 t716 t720 ((Int.tmod (wrap64 (a2 * a3_0)) a3_1) != 0) a3_0 a3_1)) else (l5repeats.j0 k a2 t716 t720 true a3_0 a3_1))) = some r := by rw [if_pos rfl] at H; exact H
     clear H
     have H := H1
     clear H1
     replace H := Option.bind_eq_some_iff.mp H
     obtain ⟨t725, A150, H⟩ := H
     replace H : (if t725 = true then (if a3_1 = 0 then (none) else (l5repeats.j0 k a2 t716 t720 ((Int.tmod (wrap64 (a2 * a3_0)) a3_1) != 0) a3_0 a3_1)) else (l5repeats.j0 k a2 t716 t720 true a3_0 a3_1)) = some r := H
     have A15 := Aside0.mk A150
     clear A150
     by_cases c16 : t725 = true
     ·
      subst c16
      have H1 : (if a3_1 = 0 then (none) else (l5repeats.j0 k a2 t716 t720 ((Int.tmod (wrap64 (a2 * a3_0)) a3_1) != 0) a3_0 a3_1)) = some r := by rw [if_pos rfl] at H; exact H
      clear H
      have H := H1
      clear H1
      by_cases c17 : a3_1 = 0
      ·
       rw [if_pos c17] at H
       exact absurd H (by simp)
      ·
       rw [if_neg c17] at H
       have c17b0 : (a3_1 == 0) = false := beq_eq_false_iff_ne.mpr c17
       have c17b1 : (a3_1 != 0) = true := bne_iff_ne.mpr c17
       have H' := Aside0.mk H
       clear H
       obtain ⟨Ao18, co18, eo18⟩ := Kd.S_slice HO719.out
       subst eo18
       go_wp2_with (first | (go_at_call 23; (with_reducible refine (l5square.calls k _ _ t716 (l0.length : Int) true _ ?side1 ?side2 A13.out).mono ?_); (case side1 => repeat (first | exact (Kd.S_reads' HO719.out).2.2 | (with_reducible refine Kd.C_alloc ?_ _) | (with_reducible refine Kd.C_drewN ?_ _) | (with_reducible refine Kd.C_drew ?_))); (case side2 => exact (Kd.S_reads' HO719.out).2.1); rintro e w' ⟨rfl, ⟨nd, rfl⟩⟩; (try first | exact ⟨rfl, _, World.drewN_drewN _ _ _⟩ | exact ⟨rfl, _, Eq.trans (World.drewN_drewN _ _ _) (congrArg (World.drewN _) (Nat.add_assoc _ _ _))⟩); obtain ⟨Ao19, co19, eo19⟩ := Kd.S_slice HO723.out; subst eo19) | (go_at_call 23; (with_reducible refine (l5square.calls k _ _ t720 (l0.length : Int) true _ ?side1 ?side2 A15.out).mono ?_); (case side1 => repeat (first | exact (Kd.S_reads' HO723.out).2.2 | (with_reducible refine Kd.C_alloc ?_ _) | (with_reducible refine Kd.C_drewN ?_ _) | (with_reducible refine Kd.C_drew ?_))); (case side2 => exact (Kd.S_reads' HO723.out).2.1); rintro e w' ⟨rfl, ⟨nd, rfl⟩⟩; (try first | exact ⟨rfl, _, World.drewN_drewN _ _ _⟩ | exact ⟨rfl, _, Eq.trans (World.drewN_drewN _ _ _) (congrArg (World.drewN _) (Nat.add_assoc _ _ _))⟩); have hcz20_0 : w10.cell? ⟨gb715, 0, none⟩ = some (.int .i64 a3_0) := (blk_cell BK715.out 0).trans rfl; have hcz20_1 : w10.cell? ⟨gb715, 1, none⟩ = some (.int .i64 a3_1) := (blk_cell BK715.out 1).trans rfl; have hfz20_0 := blk_frozen BK715.out 0; have hfz20_1 := blk_frozen BK715.out 1))
       repeat (go_quiet (first | (go_at_call 23; (with_reducible refine (l5square.calls k _ _ t716 (l0.length : Int) true _ ?side1 ?side2 A13.out).mono ?_); (case side1 => repeat (first | exact (Kd.S_reads' HO719.out).2.2 | (with_reducible refine Kd.C_alloc ?_ _) | (with_reducible refine Kd.C_drewN ?_ _) | (with_reducible refine Kd.C_drew ?_))); (case side2 => exact (Kd.S_reads' HO719.out).2.1); rintro e w' ⟨rfl, ⟨nd, rfl⟩⟩; (try first | exact ⟨rfl, _, World.drewN_drewN _ _ _⟩ | exact ⟨rfl, _, Eq.trans (World.drewN_drewN _ _ _) (congrArg (World.drewN _) (Nat.add_assoc _ _ _))⟩); obtain ⟨Ao19, co19, eo19⟩ := Kd.S_slice HO723.out; subst eo19) | (go_at_call 23; (with_reducible refine (l5square.calls k _ _ t720 (l0.length : Int) true _ ?side1 ?side2 A15.out).mono ?_); (case side1 => repeat (first | exact (Kd.S_reads' HO723.out).2.2 | (with_reducible refine Kd.C_alloc ?_ _) | (with_reducible refine Kd.C_drewN ?_ _) | (with_reducible refine Kd.C_drew ?_))); (case side2 => exact (Kd.S_reads' HO723.out).2.1); rintro e w' ⟨rfl, ⟨nd, rfl⟩⟩; (try first | exact ⟨rfl, _, World.drewN_drewN _ _ _⟩ | exact ⟨rfl, _, Eq.trans (World.drewN_drewN _ _ _) (congrArg (World.drewN _) (Nat.add_assoc _ _ _))⟩); have hcz20_0 : w10.cell? ⟨gb715, 0, none⟩ = some (.int .i64 a3_0) := (blk_cell BK715.out 0).trans rfl; have hcz20_1 : w10.cell? ⟨gb715, 1, none⟩ = some (.int .i64 a3_1) := (blk_cell BK715.out 1).trans rfl; have hfz20_0 := blk_frozen BK715.out 0; have hfz20_1 := blk_frozen BK715.out 1)); try go_wp2_with (first | (go_at_call 23; (with_reducible refine (l5square.calls k _ _ t716 (l0.length : Int) true _ ?side1 ?side2 A13.out).mono ?_); (case side1 => repeat (first | exact (Kd.S_reads' HO719.out).2.2 | (with_reducible refine Kd.C_alloc ?_ _) | (with_reducible refine Kd.C_drewN ?_ _) | (with_reducible refine Kd.C_drew ?_))); (case side2 => exact (Kd.S_reads' HO719.out).2.1); rintro e w' ⟨rfl, ⟨nd, rfl⟩⟩; (try first | exact ⟨rfl, _, World.drewN_drewN _ _ _⟩ | exact ⟨rfl, _, Eq.trans (World.drewN_drewN _ _ _) (congrArg (World.drewN _) (Nat.add_assoc _ _ _))⟩); obtain ⟨Ao19, co19, eo19⟩ := Kd.S_slice HO723.out; subst eo19) | (go_at_call 23; (with_reducible refine (l5square.calls k _ _ t720 (l0.length : Int) true _ ?side1 ?side2 A15.out).mono ?_); (case side1 => repeat (first | exact (Kd.S_reads' HO723.out).2.2 | (with_reducible refine Kd.C_alloc ?_ _) | (with_reducible refine Kd.C_drewN ?_ _) | (with_reducible refine Kd.C_drew ?_))); (case side2 => exact (Kd.S_reads' HO723.out).2.1); rintro e w' ⟨rfl, ⟨nd, rfl⟩⟩; (try first | exact ⟨rfl, _, World.drewN_drewN _ _ _⟩ | exact ⟨rfl, _, Eq.trans (World.drewN_drewN _ _ _) (congrArg (World.drewN _) (Nat.add_assoc _ _ _))⟩); have hcz20_0 : w10.cell? ⟨gb715, 0, none⟩ = some (.int .i64 a3_0) := (blk_cell BK715.out 0).trans rfl; have hcz20_1 : w10.cell? ⟨gb715, 1, none⟩ = some (.int .i64 a3_1) := (blk_cell BK715.out 1).trans rfl; have hfz20_0 := blk_frozen BK715.out 0; have hfz20_1 := blk_frozen BK715.out 1)))
       go_meet
       case rel => exact ⟨_, (((Int.tmod (wrap64 (a2 * a3_0)) a3_1) != 0)), (by first | rfl | (simp; done) | (simp [*]; done)), H', ⟨by first | omega | exact Nat.le_refl _⟩, ⟨by (with_reducible repeat (first | apply Kd.S_alloc | apply Kd.S_drewN | apply Kd.S_drew)); exact Kd.S_mono HO719.out (fun _ hk => hk.2)⟩, ⟨by (with_reducible repeat (first | apply Kd.S_alloc | apply Kd.S_drewN | apply Kd.S_drew)); exact Kd.S_mono HO723.out (fun _ hk => hk.2)⟩, ⟨by (with_reducible repeat (first | refine blk_drewN ?_ _ | refine blk_drew ?_ | refine blk_alloc ?_ _)); exact BK715.out⟩, ⟨by repeat (first | (with_reducible first | exact HB.out | apply below_alloc | apply pw_below_drewN | apply below_drew1 | refine below_set ?_ GE715.out) | exact HB.out)⟩⟩
     ·
      replace c16 := Bool.eq_false_iff.mpr c16
      subst c16
      have H1 : (l5repeats.j0 k a2 t716 t720 true a3_0 a3_1) = some r := by rw [if_neg (show ¬ (false = true) by decide)] at H; exact H
      clear H
      have H := H1
      clear H1
      have H' := Aside0.mk H
      clear H
      obtain ⟨Ao21, co21, eo21⟩ := Kd.S_slice HO719.out
      subst eo21
      go_wp2_with (first | (go_at_call 23; (with_reducible refine (l5square.calls k _ _ t716 (l0.length : Int) true _ ?side1 ?side2 A13.out).mono ?_); (case side1 => repeat (first | exact (Kd.S_reads' HO719.out).2.2 | (with_reducible refine Kd.C_alloc ?_ _) | (with_reducible refine Kd.C_drewN ?_ _) | (with_reducible refine Kd.C_drew ?_))); (case side2 => exact (Kd.S_reads' HO719.out).2.1); rintro e w' ⟨rfl, ⟨nd, rfl⟩⟩; (try first | exact ⟨rfl, _, World.drewN_drewN _ _ _⟩ | exact ⟨rfl, _, Eq.trans (World.drewN_drewN _ _ _) (congrArg (World.drewN _) (Nat.add_assoc _ _ _))⟩); obtain ⟨Ao22, co22, eo22⟩ := Kd.S_slice HO723.out; subst eo22) | (go_at_call 23; (with_reducible refine (l5square.calls k _ _ t720 (l0.length : Int) false _ ?side1 ?side2 A15.out).mono ?_); (case side1 => repeat (first | exact (Kd.S_reads' HO723.out).2.2 | (with_reducible refine Kd.C_alloc ?_ _) | (with_reducible refine Kd.C_drewN ?_ _) | (with_reducible refine Kd.C_drew ?_))); (case side2 => exact (Kd.S_reads' HO723.out).2.1); rintro e w' ⟨rfl, ⟨nd, rfl⟩⟩; (try first | exact ⟨rfl, _, World.drewN_drewN _ _ _⟩ | exact ⟨rfl, _, Eq.trans (World.drewN_drewN _ _ _) (congrArg (World.drewN _) (Nat.add_assoc _ _ _))⟩)))
      repeat (go_quiet (first | (go_at_call 23; (with_reducible refine (l5square.calls k _ _ t716 (l0.length : Int) true _ ?side1 ?side2 A13.out).mono ?_); (case side1 => repeat (first | exact (Kd.S_reads' HO719.out).2.2 | (with_reducible refine Kd.C_alloc ?_ _) | (with_reducible refine Kd.C_drewN ?_ _) | (with_reducible refine Kd.C_drew ?_))); (case side2 => exact (Kd.S_reads' HO719.out).2.1); rintro e w' ⟨rfl, ⟨nd, rfl⟩⟩; (try first | exact ⟨rfl, _, World.drewN_drewN _ _ _⟩ | exact ⟨rfl, _, Eq.trans (World.drewN_drewN _ _ _) (congrArg (World.drewN _) (Nat.add_assoc _ _ _))⟩); obtain ⟨Ao22, co22, eo22⟩ := Kd.S_slice HO723.out; subst eo22) | (go_at_call 23; (with_reducible refine (l5square.calls k _ _ t720 (l0.length : Int) false _ ?side1 ?side2 A15.out).mono ?_); (case side1 => repeat (first | exact (Kd.S_reads' HO723.out).2.2 | (with_reducible refine Kd.C_alloc ?_ _) | (with_reducible refine Kd.C_drewN ?_ _) | (with_reducible refine Kd.C_drew ?_))); (case side2 => exact (Kd.S_reads' HO723.out).2.1); rintro e w' ⟨rfl, ⟨nd, rfl⟩⟩; (try first | exact ⟨rfl, _, World.drewN_drewN _ _ _⟩ | exact ⟨rfl, _, Eq.trans (World.drewN_drewN _ _ _) (congrArg (World.drewN _) (Nat.add_assoc _ _ _))⟩))); try go_wp2_with (first | (go_at_call 23; (with_reducible refine (l5square.calls k _ _ t716 (l0.length : Int) true _ ?side1 ?side2 A13.out).mono ?_); (case side1 => repeat (first | exact (Kd.S_reads' HO719.out).2.2 | (with_reducible refine Kd.C_alloc ?_ _) | (with_reducible refine Kd.C_drewN ?_ _) | (with_reducible refine Kd.C_drew ?_))); (case side2 => exact (Kd.S_reads' HO719.out).2.1); rintro e w' ⟨rfl, ⟨nd, rfl⟩⟩; (try first | exact ⟨rfl, _, World.drewN_drewN _ _ _⟩ | exact ⟨rfl, _, Eq.trans (World.drewN_drewN _ _ _) (congrArg (World.drewN _) (Nat.add_assoc _ _ _))⟩); obtain ⟨Ao22, co22, eo22⟩ := Kd.S_slice HO723.out; subst eo22) | (go_at_call 23; (with_reducible refine (l5square.calls k _ _ t720 (l0.length : Int) false _ ?side1 ?side2 A15.out).mono ?_); (case side1 => repeat (first | exact (Kd.S_reads' HO723.out).2.2 | (with_reducible refine Kd.C_alloc ?_ _) | (with_reducible refine Kd.C_drewN ?_ _) | (with_reducible refine Kd.C_drew ?_))); (case side2 => exact (Kd.S_reads' HO723.out).2.1); rintro e w' ⟨rfl, ⟨nd, rfl⟩⟩; (try first | exact ⟨rfl, _, World.drewN_drewN _ _ _⟩ | exact ⟨rfl, _, Eq.trans (World.drewN_drewN _ _ _) (congrArg (World.drewN _) (Nat.add_assoc _ _ _))⟩))))
      go_meet
      case rel => exact ⟨_, (true), (by first | rfl | (simp; done) | (simp [*]; done)), H', ⟨by first | omega | exact Nat.le_refl _⟩, ⟨by (with_reducible repeat (first | apply Kd.S_alloc | apply Kd.S_drewN | apply Kd.S_drew)); exact Kd.S_mono HO719.out (fun _ hk => hk.2)⟩, ⟨by (with_reducible repeat (first | apply Kd.S_alloc | apply Kd.S_drewN | apply Kd.S_drew)); exact Kd.S_mono HO723.out (fun _ hk => hk.2)⟩, ⟨by (with_reducible repeat (first | refine blk_drewN ?_ _ | refine blk_drew ?_ | refine blk_alloc ?_ _)); exact BK715.out⟩, ⟨by repeat (first | (with_reducible first | exact HB.out | apply below_alloc | apply pw_below_drewN | apply below_drew1 | refine below_set ?_ GE715.out) | exact HB.out)⟩⟩
    ·
     replace c14 := Bool.eq_false_iff.mpr c14
     subst c14
     have H1 : (l5repeats.j0 k a2 t716 t720 true a3_0 a3_1) = some r := by rw [if_neg (show ¬ (false = true) by decide)] at H; exact H
     clear H
     have H := H1
     clear H1
     have H' := Aside0.mk H
     clear H
     obtain ⟨Ao23, co23, eo23⟩ := Kd.S_slice HO719.out
     subst eo23
     go_wp2_with (first | (go_at_call 23; (with_reducible refine (l5square.calls k _ _ t716 (l0.length : Int) false _ ?side1 ?side2 A13.out).mono ?_); (case side1 => repeat (first | exact (Kd.S_reads' HO719.out).2.2 | (with_reducible refine Kd.C_alloc ?_ _) | (with_reducible refine Kd.C_drewN ?_ _) | (with_reducible refine Kd.C_drew ?_))); (case side2 => exact (Kd.S_reads' HO719.out).2.1); rintro e w' ⟨rfl, ⟨nd, rfl⟩⟩; (try first | exact ⟨rfl, _, World.drewN_drewN _ _ _⟩ | exact ⟨rfl, _, Eq.trans (World.drewN_drewN _ _ _) (congrArg (World.drewN _) (Nat.add_assoc _ _ _))⟩)))
     repeat (go_quiet (first | (go_at_call 23; (with_reducible refine (l5square.calls k _ _ t716 (l0.length : Int) false _ ?side1 ?side2 A13.out).mono ?_); (case side1 => repeat (first | exact (Kd.S_reads' HO719.out).2.2 | (with_reducible refine Kd.C_alloc ?_ _) | (with_reducible refine Kd.C_drewN ?_ _) | (with_reducible refine Kd.C_drew ?_))); (case side2 => exact (Kd.S_reads' HO719.out).2.1); rintro e w' ⟨rfl, ⟨nd, rfl⟩⟩; (try first | exact ⟨rfl, _, World.drewN_drewN _ _ _⟩ | exact ⟨rfl, _, Eq.trans (World.drewN_drewN _ _ _) (congrArg (World.drewN _) (Nat.add_assoc _ _ _))⟩))); try go_wp2_with (first | (go_at_call 23; (with_reducible refine (l5square.calls k _ _ t716 (l0.length : Int) false _ ?side1 ?side2 A13.out).mono ?_); (case side1 => repeat (first | exact (Kd.S_reads' HO719.out).2.2 | (with_reducible refine Kd.C_alloc ?_ _) | (with_reducible refine Kd.C_drewN ?_ _) | (with_reducible refine Kd.C_drew ?_))); (case side2 => exact (Kd.S_reads' HO719.out).2.1); rintro e w' ⟨rfl, ⟨nd, rfl⟩⟩; (try first | exact ⟨rfl, _, World.drewN_drewN _ _ _⟩ | exact ⟨rfl, _, Eq.trans (World.drewN_drewN _ _ _) (congrArg (World.drewN _) (Nat.add_assoc _ _ _))⟩))))
     go_meet
     case rel => exact ⟨_, (true), (by first | rfl | (simp; done) | (simp [*]; done)), H', ⟨by first | omega | exact Nat.le_refl _⟩, ⟨by (with_reducible repeat (first | apply Kd.S_alloc | apply Kd.S_drewN | apply Kd.S_drew)); exact Kd.S_mono HO719.out (fun _ hk => hk.2)⟩, ⟨by (with_reducible repeat (first | apply Kd.S_alloc | apply Kd.S_drewN | apply Kd.S_drew)); exact Kd.S_mono HO723.out (fun _ hk => hk.2)⟩, ⟨by (with_reducible repeat (first | refine blk_drewN ?_ _ | refine blk_drew ?_ | refine blk_alloc ?_ _)); exact BK715.out⟩, ⟨by repeat (first | (with_reducible first | exact HB.out | apply below_alloc | apply pw_below_drewN | apply below_drew1 | refine below_set ?_ GE715.out) | exact HB.out)⟩⟩
   ·
    rw [if_neg c12] at H
    have c12b0 : (t721 == 0) = false := beq_eq_false_iff_ne.mpr c12
    have c12b1 : (t721 != 0) = true := bne_iff_ne.mpr c12
    have H' := Aside0.mk H
    clear H
    go_wp2
    repeat (go_quiet (fail); try go_wp2)
    go_meet
    case rel => exact ⟨_, (true), (by first | rfl | (simp; done) | (simp [*]; done)), H', ⟨by first | omega | exact Nat.le_refl _⟩, ⟨by (with_reducible repeat (first | apply Kd.S_alloc | apply Kd.S_drewN | apply Kd.S_drew)); exact Kd.S_mono HO719.out (fun _ hk => hk.2)⟩, ⟨by (with_reducible repeat (first | apply Kd.S_alloc | apply Kd.S_drewN | apply Kd.S_drew)); exact Kd.S_mono HO723.out (fun _ hk => hk.2)⟩, ⟨by (with_reducible repeat (first | refine blk_drewN ?_ _ | refine blk_drew ?_ | refine blk_alloc ?_ _)); exact BK715.out⟩, ⟨by repeat (first | (with_reducible first | exact HB.out | apply below_alloc | apply pw_below_drewN | apply below_drew1 | refine below_set ?_ GE715.out) | exact HB.out)⟩⟩
  ·
   rw [if_neg c11] at H
   have c11b0 : (t717 == 0) = false := beq_eq_false_iff_ne.mpr c11
   have c11b1 : (t717 != 0) = true := bne_iff_ne.mpr c11
   (first | rw [c11b0] | (simp only [i64_w, i32_w]; rw [c11b0]) | skip)
   have H' := Aside0.mk H
   clear H
   go_wp2
   repeat (go_quiet (fail); try go_wp2)
   go_meet
   case rel => exact ⟨_, (true), rfl, H', ⟨by first | omega | exact Nat.le_refl _⟩, ⟨by exact Kd.S_mono HO719.out (fun _ hk => hk.2)⟩, ⟨by exact Kd.S_mono HO723.out (fun _ hk => hk.2)⟩, ⟨by exact BK715.out⟩, ⟨HB.out⟩⟩
 case rest =>
  clear HC7
  obtain ⟨kq, x58_6, rfl, HA, HJ6, HO_9, HO_11, BK715, HB⟩ := hcut
  cases kq with
  | zero => exact absurd HA.out (by simp [l5repeats.j0])
  | succ kj6 =>
   have H := HA.out
   clear HA
   simp only [l5repeats.j0] at H
   by_cases c24 : x58_6 = true
   ·
    subst c24
    have H1 : (some false) = some r := by rw [if_pos rfl] at H; exact H
    clear H
    have H := H1
    clear H1
    obtain rfl := Option.some.inj H
    go_wp2
    go_ret
    exact ⟨rfl, HB.out⟩
   ·
    replace c24 := Bool.eq_false_iff.mpr c24
    subst c24
    have H1 : (l5repeats.l0 kj6 a2 t716 t720 0 a3_0 a3_1) = some r := by rw [if_neg (show ¬ (false = true) by decide)] at H; exact H
    clear H
    have H := H1
    clear H1
    have H' := Aside0.mk H
    clear H
    go_wp2
    go_loopg [13] kj6 (fun kq v13 w' => ∃ (x13_2 : Int), v13 = .int .i64 x13_2 ∧ Aside0 (l5repeats.l0 kq a2 t716 t720 x13_2 a3_0 a3_1 = some r) ∧ Aside0 (kq ≤ kj6) ∧ Aside0 (Kd.S (Kd.slice 3 (Kd.int .i64)) 26 w' w.heap.size (fun k_ => some k_ ≠ (v722 : Value).ownBlock) v718 t716) ∧ Aside0 (Kd.S (Kd.slice 3 (Kd.int .i64)) 26 w' w.heap.size (fun k_ => some k_ ≠ (v718 : Value).ownBlock) v722 t720) ∧ Aside0 (w'.heap[gb715]? = some (.cells #[.int .i64 a3_0, .int .i64 a3_1] 37 (0, 0))) ∧ Aside0 (Below w.heap.size w w'))
    case atStart => exact ⟨(0), rfl, H', ⟨Nat.le_refl _⟩, ⟨by exact HO_9.out⟩, ⟨by exact HO_11.out⟩, ⟨by exact BK715.out⟩, ⟨HB.out⟩⟩
    case round =>
     clear H'
     obtain ⟨x13_2, rfl, HA, HK2, HO_9, HO_11, BK715, HB⟩ := hrel
     cases gk with
     | zero => exact absurd HA.out (by simp [l5repeats.l0])
     | succ k2 =>
      have H := HA.out
      clear HA
      simp only [l5repeats.l0] at H
      by_cases c25 : x13_2 < (t716.length : Int)
      ·
       rw [if_pos c25] at H
       have c25b0 : decide (x13_2 < (t716.length : Int)) = true := decide_eq_true c25
       clear c25
       have H' := Aside0.mk H
       clear H
       obtain ⟨Ao26, co26, eo26⟩ := Kd.S_slice HO_9.out
       subst eo26
       go_wp2
       go_loopg [14] k2 (fun kq v14 w' => ∃ (x14_3 : Int), v14 = .int .i64 x14_3 ∧ Aside0 (l5repeats.l1 kq a2 t716 t720 x13_2 x14_3 a3_0 a3_1 = some r) ∧ Aside0 (kq ≤ k2) ∧ Aside0 (Kd.S (Kd.slice 3 (Kd.int .i64)) 26 w' w.heap.size (fun k_ => some k_ ≠ (v722 : Value).ownBlock) (.slice Ao26 t716.length co26) t716) ∧ Aside0 (Kd.S (Kd.slice 3 (Kd.int .i64)) 26 w' w.heap.size (fun k_ => some k_ ≠ ((.slice Ao26 t716.length co26) : Value).ownBlock) v722 t720) ∧ Aside0 (w'.heap[gb715]? = some (.cells #[.int .i64 a3_0, .int .i64 a3_1] 37 (0, 0))) ∧ Aside0 (Below w.heap.size w w'))
       case atStart => exact ⟨(0), rfl, H', ⟨Nat.le_refl _⟩, ⟨by exact HO_9.out⟩, ⟨by exact HO_11.out⟩, ⟨by exact BK715.out⟩, ⟨HB.out⟩⟩
       case round =>
        clear H'
        obtain ⟨x14_3, rfl, HA, HK3, HO_9, HO_11, BK715, HB⟩ := hrel
        cases gk with
        | zero => exact absurd HA.out (by simp [l5repeats.l1])
        | succ k3 =>
         have H := HA.out
         clear HA
         simp only [l5repeats.l1] at H
         by_cases c27 : x14_3 < (t716.length : Int)
         ·
          rw [if_pos c27] at H
          have c27b0 : decide (x14_3 < (t716.length : Int)) = true := decide_eq_true c27
          clear c27
          by_cases c28 : 0 ≤ x13_2
          ·
           rw [if_pos c28] at H
           have c28b0 : decide (0 ≤ x13_2) = true := decide_eq_true c28
           clear c28
           by_cases c29 : x13_2 < (t720.length : Int)
           ·
            rw [if_pos c29] at H
            have c29b0 : decide (x13_2 < (t720.length : Int)) = true := decide_eq_true c29
            clear c29
            by_cases c30 : 0 ≤ x14_3
            ·
             rw [if_pos c30] at H
             have c30b0 : decide (0 ≤ x14_3) = true := decide_eq_true c30
             clear c30
             by_cases c31 : x14_3 < ((rd_L1 t720 x13_2).length : Int)
             ·
              rw [if_pos c31] at H
              have c31b0 : decide (x14_3 < ((rd_L1 t720 x13_2).length : Int)) = true := decide_eq_true c31
              clear c31
              by_cases c32 : x13_2 < (t716.length : Int)
              ·
               rw [if_pos c32] at H
               have c32b0 : decide (x13_2 < (t716.length : Int)) = true := decide_eq_true c32
               clear c32
               by_cases c33 : x14_3 < ((rd_L1 t716 x13_2).length : Int)
               ·
                rw [if_pos c33] at H
                have c33b0 : decide (x14_3 < ((rd_L1 t716 x13_2).length : Int)) = true := decide_eq_true c33
                clear c33
                by_cases c34 : a3_1 = 0
                ·
                 rw [if_pos c34] at H
                 exact absurd H (by simp)
                ·
                 rw [if_neg c34] at H
                 have c34b0 : (a3_1 == 0) = false := beq_eq_false_iff_ne.mpr c34
                 replace H := Option.bind_eq_some_iff.mp H
                 obtain ⟨t730, A350, H⟩ := H
                 replace H : (if (rd (rd_L1 t720 x13_2) x14_3) = t730 then (l5repeats.l1 k3 a2 t716 t720 x13_2 (wrap64 (x14_3 + 1)) a3_0 a3_1) else (some false)) = some r := H
                 have A35 := Aside0.mk A350
                 clear A350
                 by_cases c36 : (rd (rd_L1 t720 x13_2) x14_3) = t730
                 ·
                  rw [if_pos c36] at H
                  have c36b0 : ((rd (rd_L1 t720 x13_2) x14_3) == t730) = true := beq_iff_eq.mpr c36
                  clear c36
                  have H' := Aside0.mk H
                  clear H
                  obtain ⟨Ao37, co37, eo37⟩ := Kd.S_slice HO_11.out
                  subst eo37
                  have p726 : 0 ≤ (x13_2 : Int) := of_decide_eq_true (by assumption)
                  have q726 : x13_2 < (t720.length : Int) := of_decide_eq_true (by assumption)
                  obtain ⟨ad726, A726_0, c726_0, e726, hx726_0, hl726_0, hi726_0⟩ := at_L1 (Kd.S_reads' HO_11.out).2.2 x13_2 p726 q726
                  cases e726
                  obtain ⟨ce726, hce726, hMe726, hcc726⟩ := Kd.S_get HO_11.out [] x13_2 p726 (by first | exact q726 | exact of_decide_eq_true (by assumption) | (have e_ := (Kd.S_reads' HO_11.out).1; omega))
                  obtain ⟨ve726_0, rfl, ge726_0⟩ := hMe726
                  have hv726_0 := hcc726 0 _ rfl
                  rw [Nat.add_zero, show ((Kd.slice 3 (Kd.int .i64))).sz = 1 from rfl, Nat.mul_one] at hv726_0
                  replace hv726_0 := Option.some.inj (hv726_0.symm.trans hx726_0)
                  rw [hv726_0] at ge726_0
                  have HL726_0 := Aside0.mk (show Kd.R (Kd.int .i64) 3 _ _ _ _ (rd_L1 t720 x13_2) from ge726_0)
                  clear hv726_0 ge726_0
                  clear hcc726 hce726
                  have HR726_0 := Aside0.mk hi726_0
                  have HC726_0 := Aside0.mk hl726_0
                  clear hi726_0 hl726_0
                  replace p726 := eq_true p726
                  replace q726 := eq_true q726
                  have p727 : 0 ≤ (x14_3 : Int) := of_decide_eq_true (by assumption)
                  have q727 : x14_3 < ((rd_L1 t720 x13_2).length : Int) := of_decide_eq_true (by assumption)
                  obtain ⟨ad727, e727, hx727_0⟩ := Kd.at_int (by repeat (first | (with_reducible exact HR726_0.out) | exact HR726_0.out)) x14_3 p727 q727
                  cases e727
                  replace p727 := eq_true p727
                  replace q727 := eq_true q727
                  have p728 : 0 ≤ (x13_2 : Int) := of_decide_eq_true (by assumption)
                  have q728 : x13_2 < (t716.length : Int) := of_decide_eq_true (by assumption)
                  obtain ⟨ad728, A728_0, c728_0, e728, hx728_0, hl728_0, hi728_0⟩ := at_L1 (Kd.S_reads' HO_9.out).2.2 x13_2 p728 q728
                  cases e728
                  obtain ⟨ce728, hce728, hMe728, hcc728⟩ := Kd.S_get HO_9.out [] x13_2 p728 (by first | exact q728 | exact of_decide_eq_true (by assumption) | (have e_ := (Kd.S_reads' HO_9.out).1; omega))
                  obtain ⟨ve728_0, rfl, ge728_0⟩ := hMe728
                  have hv728_0 := hcc728 0 _ rfl
                  rw [Nat.add_zero, show ((Kd.slice 3 (Kd.int .i64))).sz = 1 from rfl, Nat.mul_one] at hv728_0
                  replace hv728_0 := Option.some.inj (hv728_0.symm.trans hx728_0)
                  rw [hv728_0] at ge728_0
                  have HL728_0 := Aside0.mk (show Kd.R (Kd.int .i64) 3 _ _ _ _ (rd_L1 t716 x13_2) from ge728_0)
                  clear hv728_0 ge728_0
                  clear hcc728 hce728
                  have HR728_0 := Aside0.mk hi728_0
                  have HC728_0 := Aside0.mk hl728_0
                  clear hi728_0 hl728_0
                  replace p728 := eq_true p728
                  replace q728 := eq_true q728
                  have p729 : 0 ≤ (x14_3 : Int) := of_decide_eq_true (by assumption)
                  have q729 : x14_3 < ((rd_L1 t716 x13_2).length : Int) := of_decide_eq_true (by assumption)
                  obtain ⟨ad729, e729, hx729_0⟩ := Kd.at_int (by repeat (first | (with_reducible exact HR728_0.out) | exact HR728_0.out)) x14_3 p729 q729
                  cases e729
                  replace p729 := eq_true p729
                  replace q729 := eq_true q729
                  have hcz38_0 : wr.cell? ⟨gb715, 0, none⟩ = some (.int .i64 a3_0) := (blk_cell BK715.out 0).trans rfl
                  have hcz38_1 : wr.cell? ⟨gb715, 1, none⟩ = some (.int .i64 a3_1) := (blk_cell BK715.out 1).trans rfl
                  have hfz38_0 := blk_frozen BK715.out 0
                  have hfz38_1 := blk_frozen BK715.out 1
                  go_wp2_with (first | (go_at_call 44; (with_reducible refine (l5plus.calls (rd (rd_L1 t716 x13_2) x14_3) (wrap64 (Int.tdiv (wrap64 (a2 * a3_0)) a3_1)) t730 _ A35.out).mono ?_); rintro e w' ⟨rfl, ⟨nd, rfl⟩⟩; (try first | exact ⟨rfl, _, World.drewN_drewN _ _ _⟩ | exact ⟨rfl, _, Eq.trans (World.drewN_drewN _ _ _) (congrArg (World.drewN _) (Nat.add_assoc _ _ _))⟩)))
                  repeat (go_quiet (first | (go_at_call 44; (with_reducible refine (l5plus.calls (rd (rd_L1 t716 x13_2) x14_3) (wrap64 (Int.tdiv (wrap64 (a2 * a3_0)) a3_1)) t730 _ A35.out).mono ?_); rintro e w' ⟨rfl, ⟨nd, rfl⟩⟩; (try first | exact ⟨rfl, _, World.drewN_drewN _ _ _⟩ | exact ⟨rfl, _, Eq.trans (World.drewN_drewN _ _ _) (congrArg (World.drewN _) (Nat.add_assoc _ _ _))⟩))); try go_wp2_with (first | (go_at_call 44; (with_reducible refine (l5plus.calls (rd (rd_L1 t716 x13_2) x14_3) (wrap64 (Int.tdiv (wrap64 (a2 * a3_0)) a3_1)) t730 _ A35.out).mono ?_); rintro e w' ⟨rfl, ⟨nd, rfl⟩⟩; (try first | exact ⟨rfl, _, World.drewN_drewN _ _ _⟩ | exact ⟨rfl, _, Eq.trans (World.drewN_drewN _ _ _) (congrArg (World.drewN _) (Nat.add_assoc _ _ _))⟩))))
                  go_roundg k3
                  case measure => have := HJ6.out; have := HK2.out; have := HK3.out; omega
                  case rel => exact ⟨(wrap64 (x14_3 + 1)), rfl, H', ⟨by have := HJ6.out; have := HK2.out; have := HK3.out; omega⟩, ⟨by exact HO_9.out⟩, ⟨by exact HO_11.out⟩, ⟨by (with_reducible repeat (first | refine blk_drewN ?_ _ | refine blk_drew ?_ | refine blk_alloc ?_ _)); exact BK715.out⟩, ⟨by repeat (first | (with_reducible first | exact HB.out | apply below_alloc | apply pw_below_drewN | apply below_drew1 | refine below_set ?_ GE715.out) | exact HB.out)⟩⟩
                 ·
                  rw [if_neg c36] at H
                  have c36b0 : ((rd (rd_L1 t720 x13_2) x14_3) == t730) = false := beq_eq_false_iff_ne.mpr c36
                  obtain rfl := Option.some.inj H
                  obtain ⟨Ao39, co39, eo39⟩ := Kd.S_slice HO_11.out
                  subst eo39
                  have p726 : 0 ≤ (x13_2 : Int) := of_decide_eq_true (by assumption)
                  have q726 : x13_2 < (t720.length : Int) := of_decide_eq_true (by assumption)
                  obtain ⟨ad726, A726_0, c726_0, e726, hx726_0, hl726_0, hi726_0⟩ := at_L1 (Kd.S_reads' HO_11.out).2.2 x13_2 p726 q726
                  cases e726
                  obtain ⟨ce726, hce726, hMe726, hcc726⟩ := Kd.S_get HO_11.out [] x13_2 p726 (by first | exact q726 | exact of_decide_eq_true (by assumption) | (have e_ := (Kd.S_reads' HO_11.out).1; omega))
                  obtain ⟨ve726_0, rfl, ge726_0⟩ := hMe726
                  have hv726_0 := hcc726 0 _ rfl
                  rw [Nat.add_zero, show ((Kd.slice 3 (Kd.int .i64))).sz = 1 from rfl, Nat.mul_one] at hv726_0
                  replace hv726_0 := Option.some.inj (hv726_0.symm.trans hx726_0)
                  rw [hv726_0] at ge726_0
                  have HL726_0 := Aside0.mk (show Kd.R (Kd.int .i64) 3 _ _ _ _ (rd_L1 t720 x13_2) from ge726_0)
                  clear hv726_0 ge726_0
                  clear hcc726 hce726
                  have HR726_0 := Aside0.mk hi726_0
                  have HC726_0 := Aside0.mk hl726_0
                  clear hi726_0 hl726_0
                  replace p726 := eq_true p726
                  replace q726 := eq_true q726
                  have p727 : 0 ≤ (x14_3 : Int) := of_decide_eq_true (by assumption)
                  have q727 : x14_3 < ((rd_L1 t720 x13_2).length : Int) := of_decide_eq_true (by assumption)
                  obtain ⟨ad727, e727, hx727_0⟩ := Kd.at_int (by repeat (first | (with_reducible exact HR726_0.out) | exact HR726_0.out)) x14_3 p727 q727
                  cases e727
                  replace p727 := eq_true p727
                  replace q727 := eq_true q727
                  have p728 : 0 ≤ (x13_2 : Int) := of_decide_eq_true (by assumption)
                  have q728 : x13_2 < (t716.length : Int) := of_decide_eq_true (by assumption)
                  obtain ⟨ad728, A728_0, c728_0, e728, hx728_0, hl728_0, hi728_0⟩ := at_L1 (Kd.S_reads' HO_9.out).2.2 x13_2 p728 q728
                  cases e728
                  obtain ⟨ce728, hce728, hMe728, hcc728⟩ := Kd.S_get HO_9.out [] x13_2 p728 (by first | exact q728 | exact of_decide_eq_true (by assumption) | (have e_ := (Kd.S_reads' HO_9.out).1; omega))
                  obtain ⟨ve728_0, rfl, ge728_0⟩ := hMe728
                  have hv728_0 := hcc728 0 _ rfl
                  rw [Nat.add_zero, show ((Kd.slice 3 (Kd.int .i64))).sz = 1 from rfl, Nat.mul_one] at hv728_0
                  replace hv728_0 := Option.some.inj (hv728_0.symm.trans hx728_0)
                  rw [hv728_0] at ge728_0
                  have HL728_0 := Aside0.mk (show Kd.R (Kd.int .i64) 3 _ _ _ _ (rd_L1 t716 x13_2) from ge728_0)
                  clear hv728_0 ge728_0
                  clear hcc728 hce728
                  have HR728_0 := Aside0.mk hi728_0
                  have HC728_0 := Aside0.mk hl728_0
                  clear hi728_0 hl728_0
                  replace p728 := eq_true p728
                  replace q728 := eq_true q728
                  have p729 : 0 ≤ (x14_3 : Int) := of_decide_eq_true (by assumption)
                  have q729 : x14_3 < ((rd_L1 t716 x13_2).length : Int) := of_decide_eq_true (by assumption)
                  obtain ⟨ad729, e729, hx729_0⟩ := Kd.at_int (by repeat (first | (with_reducible exact HR728_0.out) | exact HR728_0.out)) x14_3 p729 q729
                  cases e729
                  replace p729 := eq_true p729
                  replace q729 := eq_true q729
                  have hcz40_0 : wr.cell? ⟨gb715, 0, none⟩ = some (.int .i64 a3_0) := (blk_cell BK715.out 0).trans rfl
                  have hcz40_1 : wr.cell? ⟨gb715, 1, none⟩ = some (.int .i64 a3_1) := (blk_cell BK715.out 1).trans rfl
                  have hfz40_0 := blk_frozen BK715.out 0
                  have hfz40_1 := blk_frozen BK715.out 1
                  go_wp2_with (first | (go_at_call 44; (with_reducible refine (l5plus.calls (rd (rd_L1 t716 x13_2) x14_3) (wrap64 (Int.tdiv (wrap64 (a2 * a3_0)) a3_1)) t730 _ A35.out).mono ?_); rintro e w' ⟨rfl, ⟨nd, rfl⟩⟩; (try first | exact ⟨rfl, _, World.drewN_drewN _ _ _⟩ | exact ⟨rfl, _, Eq.trans (World.drewN_drewN _ _ _) (congrArg (World.drewN _) (Nat.add_assoc _ _ _))⟩)))
                  repeat (go_quiet (first | (go_at_call 44; (with_reducible refine (l5plus.calls (rd (rd_L1 t716 x13_2) x14_3) (wrap64 (Int.tdiv (wrap64 (a2 * a3_0)) a3_1)) t730 _ A35.out).mono ?_); rintro e w' ⟨rfl, ⟨nd, rfl⟩⟩; (try first | exact ⟨rfl, _, World.drewN_drewN _ _ _⟩ | exact ⟨rfl, _, Eq.trans (World.drewN_drewN _ _ _) (congrArg (World.drewN _) (Nat.add_assoc _ _ _))⟩))); try go_wp2_with (first | (go_at_call 44; (with_reducible refine (l5plus.calls (rd (rd_L1 t716 x13_2) x14_3) (wrap64 (Int.tdiv (wrap64 (a2 * a3_0)) a3_1)) t730 _ A35.out).mono ?_); rintro e w' ⟨rfl, ⟨nd, rfl⟩⟩; (try first | exact ⟨rfl, _, World.drewN_drewN _ _ _⟩ | exact ⟨rfl, _, Eq.trans (World.drewN_drewN _ _ _) (congrArg (World.drewN _) (Nat.add_assoc _ _ _))⟩))))
                  go_ret
                  exact ⟨rfl, by repeat (first | (with_reducible first | exact HB.out | apply below_alloc | apply pw_below_drewN | apply below_drew1 | refine below_set ?_ GE715.out) | exact HB.out)⟩
               ·
                rw [if_neg c33] at H
                exact absurd H (by simp)
              ·
               rw [if_neg c32] at H
               exact absurd H (by simp)
             ·
              rw [if_neg c31] at H
              exact absurd H (by simp)
            ·
             rw [if_neg c30] at H
             exact absurd H (by simp)
           ·
            rw [if_neg c29] at H
            exact absurd H (by simp)
          ·
           rw [if_neg c28] at H
           exact absurd H (by simp)
         ·
          rw [if_neg c27] at H
          have c27b0 : decide (x14_3 < (t716.length : Int)) = false := decide_eq_false c27
          clear c27
          have H' := Aside0.mk H
          clear H
          go_wp2
          go_roundg k3
          case measure => have := HJ6.out; have := HK2.out; have := HK3.out; omega
          case rel => exact ⟨(wrap64 (x13_2 + 1)), rfl, H', ⟨by have := HJ6.out; have := HK2.out; have := HK3.out; omega⟩, ⟨by exact HO_9.out⟩, ⟨by exact HO_11.out⟩, ⟨by exact BK715.out⟩, ⟨HB.out⟩⟩
      ·
       rw [if_neg c25] at H
       have c25b0 : decide (x13_2 < (t716.length : Int)) = false := decide_eq_false c25
       clear c25
       obtain rfl := Option.some.inj H
       obtain ⟨Ao41, co41, eo41⟩ := Kd.S_slice HO_9.out
       subst eo41
       go_wp2
       go_ret
       exact ⟨rfl, HB.out⟩

mutual
def l5LineRepeats.j0 : Nat → List (List Int) → Int → Int → Int → Bool → Int → Int → Option (Bool)
 | 0, _, _, _, _, _, _, _ => none
 | k + 1, x0, x1, x5, x6, x100, x740000, x740001 => if x100 = true then (some false) else (if x6 > 20000 then ((l5alive.f k).bind fun t749 => (some t749)) else ((l5repeats.f k x0 (wrap64 (x6 + (wrap64 (x1)))) x5 x740000 x740001).bind fun t750 => (if t750 = true then ((l5repeats.f k x0 x6 x5 x740000 x740001).bind fun t751 => (if t751 = true then (if x6 > 0 then ((l5repeats.f k x0 (wrap64 (x6 - 1)) x5 x740000 x740001).bind fun t752 => (l5LineRepeats.j1 k x0 x5 x6 t752 x740000 x740001)) else (l5LineRepeats.j1 k x0 x5 x6 false x740000 x740001)) else (l5LineRepeats.j1 k x0 x5 x6 true x740000 x740001))) else (l5LineRepeats.j1 k x0 x5 x6 true x740000 x740001))))
def l5LineRepeats.j1 : Nat → List (List Int) → Int → Int → Bool → Int → Int → Option (Bool)
 | 0, _, _, _, _, _, _ => none
 | k + 1, x0, x5, x6, x132, x740000, x740001 => if x132 = true then (some false) else (l5LineRepeats.l0 k x0 x5 x6 1 x740000 x740001)
def l5LineRepeats.l0 : Nat → List (List Int) → Int → Int → Int → Int → Int → Option (Bool)
 | 0, _, _, _, _, _, _ => none
 | k + 1, x0, x5, x6, x12, x740000, x740001 => if x12 < x5 then ((l5repeats.f k x0 x6 x12 x740000 x740001).bind fun t753 => (if t753 = true then (some false) else (l5LineRepeats.l0 k x0 x5 x6 (wrap64 (x12 + 1)) x740000 x740001))) else ((l5alive.f k).bind fun t754 => (some t754))
end
def l5LineRepeats.f (k : Nat) (l0 : List (List Int)) (a1 : Int) : Option (Bool) := (l5few.f k l0).bind fun t731 => (if t731 = true then ((line_Regime.f k l0).bind fun bt733 => ((line_Speed.f k l0).bind fun bt736 => ((line_Connected.f k l0).bind fun bt740 => (if bt733.2.2 = 0 then (if bt736.2.2 = 0 then (if bt740.2 = 0 then (if bt740.1 = true then (if bt733.1 < 1 then (l5LineRepeats.j0 k l0 a1 bt733.1 bt733.2.1 true bt736.1 bt736.2.1) else (if bt733.2.1 < 0 then (l5LineRepeats.j0 k l0 a1 bt733.1 bt733.2.1 true bt736.1 bt736.2.1) else (if bt733.1 > 60 then (l5LineRepeats.j0 k l0 a1 bt733.1 bt733.2.1 true bt736.1 bt736.2.1) else (if bt736.2.1 < 1 then (l5LineRepeats.j0 k l0 a1 bt733.1 bt733.2.1 true bt736.1 bt736.2.1) else (if bt736.2.1 = 0 then (none) else (l5LineRepeats.j0 k l0 a1 bt733.1 bt733.2.1 ((Int.tmod (wrap64 (bt733.1 * bt736.1)) bt736.2.1) != 0) bt736.1 bt736.2.1)))))) else (l5LineRepeats.j0 k l0 a1 bt733.1 bt733.2.1 true bt736.1 bt736.2.1)) else (l5LineRepeats.j0 k l0 a1 bt733.1 bt733.2.1 true bt736.1 bt736.2.1)) else (l5LineRepeats.j0 k l0 a1 bt733.1 bt733.2.1 true bt736.1 bt736.2.1)) else (if bt733.2.2 = 2 then (if bt736.2.2 = 2 then (if bt740.2 = 2 then ((l5alive.f k).bind fun t742 => (some t742)) else (if bt733.2.2 = 10 then (if bt736.2.2 = 10 then ((l5alive.f k).bind fun t743 => (some t743)) else (if bt740.2 = 0 then (if bt740.1 = true then (some false) else ((l5alive.f k).bind fun t744 => (some t744))) else (some false))) else (some false))) else (if bt733.2.2 = 10 then (if bt736.2.2 = 10 then ((l5alive.f k).bind fun t745 => (some t745)) else (if bt740.2 = 0 then (if bt740.1 = true then (some false) else ((l5alive.f k).bind fun t746 => (some t746))) else (some false))) else (some false))) else (if bt733.2.2 = 10 then (if bt736.2.2 = 10 then ((l5alive.f k).bind fun t747 => (some t747)) else (if bt740.2 = 0 then (if bt740.1 = true then (some false) else ((l5alive.f k).bind fun t748 => (some t748))) else (some false))) else (some false))))))) else ((l5alive.f k).bind fun t732 => (some t732)))
set_option maxHeartbeats 8000000 in
set_option maxRecDepth 100000 in
theorem l5LineRepeats.calls (k : Nat) (A0 : Option Addr) (c0 : Nat) (l0 : List (List Int)) (a1 : Int) (r : Bool) (w : World) (hr0 : Kd.C (Kd.slice 3 (Kd.int .i64)) w A0 l0.length l0) (hc0 : l0.length ≤ c0) (h : l5LineRepeats.f k l0 a1 = some r) (hr_ : Aside0 (r = true)) :
  Calls Try.prog 5 #[.slice A0 l0.length c0, .int .u8 a1] w fun e w' => e = .returned (.bool r) ∧ Below w.heap.size w w' := by
 have hu37 := Try.underlying37
 have HR0 := Aside0.mk hr0
 have HC0 := Aside0.mk hc0
 clear hr0 hc0
 have HB := Aside0.mk (Below.refl w.heap.size w)
 have H : ((l5few.f k l0).bind fun t731 => (if t731 = true then ((line_Regime.f k l0).bind fun bt733 => ((line_Speed.f k l0).bind fun bt736 => ((line_Connected.f k l0).bind fun bt740 => (if bt733.2.2 = 0 then (if bt736.2.2 = 0 then (if bt740.2 = 0 then (if bt740.1 = true then (if bt733.1 < 1 then (l5LineRepeats.j0 k l0 a1 bt733.1 bt733.2.1 true bt736.1 bt736.2.1) else (if bt733.2.1 < 0 then (l5LineRepeats.j0 k l0 a1 bt733.1 bt733.2.1 true bt736.1 bt736.2.1) else (if bt733.1 > 60 then (l5LineRepeats.j0 k l0 a1 bt733.1 bt733.2.1 true bt736.1 bt736.2.1) else (if bt736.2.1 < 1 then (l5LineRepeats.j0 k l0 a1 bt733.1 bt733.2.1 true bt736.1 bt736.2.1) else (if bt736.2.1 = 0 then (none) else (l5LineRepeats.j0 k l0 a1 bt733.1 bt733.2.1 ((Int.tmod (wrap64 (bt733.1 * bt736.1)) bt736.2.1) != 0) bt736.1 bt736.2.1)))))) else (l5LineRepeats.j0 k l0 a1 bt733.1 bt733.2.1 true bt736.1 bt736.2.1)) else (l5LineRepeats.j0 k l0 a1 bt733.1 bt733.2.1 true bt736.1 bt736.2.1)) else (l5LineRepeats.j0 k l0 a1 bt733.1 bt733.2.1 true bt736.1 bt736.2.1)) else (if bt733.2.2 = 2 then (if bt736.2.2 = 2 then (if bt740.2 = 2 then ((l5alive.f k).bind fun t742 => (some t742)) else (if bt733.2.2 = 10 then (if bt736.2.2 = 10 then ((l5alive.f k).bind fun t743 => (some t743)) else (if bt740.2 = 0 then (if bt740.1 = true then (some false) else ((l5alive.f k).bind fun t744 => (some t744))) else (some false))) else (some false))) else (if bt733.2.2 = 10 then (if bt736.2.2 = 10 then ((l5alive.f k).bind fun t745 => (some t745)) else (if bt740.2 = 0 then (if bt740.1 = true then (some false) else ((l5alive.f k).bind fun t746 => (some t746))) else (some false))) else (some false))) else (if bt733.2.2 = 10 then (if bt736.2.2 = 10 then ((l5alive.f k).bind fun t747 => (some t747)) else (if bt740.2 = 0 then (if bt740.1 = true then (some false) else ((l5alive.f k).bind fun t748 => (some t748))) else (some false))) else (some false))))))) else ((l5alive.f k).bind fun t732 => (some t732)))) = some r := h
 clear h
 replace H := Option.bind_eq_some_iff.mp H
 obtain ⟨t731, A30, H⟩ := H
 replace H : (if t731 = true then ((line_Regime.f k l0).bind fun bt733 => ((line_Speed.f k l0).bind fun bt736 => ((line_Connected.f k l0).bind fun bt740 => (if bt733.2.2 = 0 then (if bt736.2.2 = 0 then (if bt740.2 = 0 then (if bt740.1 = true then (if bt733.1 < 1 then (l5LineRepeats.j0 k l0 a1 bt733.1 bt733.2.1 true bt736.1 bt736.2.1) else (if bt733.2.1 < 0 then (l5LineRepeats.j0 k l0 a1 bt733.1 bt733.2.1 true bt736.1 bt736.2.1) else (if bt733.1 > 60 then (l5LineRepeats.j0 k l0 a1 bt733.1 bt733.2.1 true bt736.1 bt736.2.1) else (if bt736.2.1 < 1 then (l5LineRepeats.j0 k l0 a1 bt733.1 bt733.2.1 true bt736.1 bt736.2.1) else (if bt736.2.1 = 0 then (none) else (l5LineRepeats.j0 k l0 a1 bt733.1 bt733.2.1 ((Int.tmod (wrap64 (bt733.1 * bt736.1)) bt736.2.1) != 0) bt736.1 bt736.2.1)))))) else (l5LineRepeats.j0 k l0 a1 bt733.1 bt733.2.1 true bt736.1 bt736.2.1)) else (l5LineRepeats.j0 k l0 a1 bt733.1 bt733.2.1 true bt736.1 bt736.2.1)) else (l5LineRepeats.j0 k l0 a1 bt733.1 bt733.2.1 true bt736.1 bt736.2.1)) else (if bt733.2.2 = 2 then (if bt736.2.2 = 2 then (if bt740.2 = 2 then ((l5alive.f k).bind fun t742 => (some t742)) else (if bt733.2.2 = 10 then (if bt736.2.2 = 10 then ((l5alive.f k).bind fun t743 => (some t743)) else (if bt740.2 = 0 then (if bt740.1 = true then (some false) else ((l5alive.f k).bind fun t744 => (some t744))) else (some false))) else (some false))) else (if bt733.2.2 = 10 then (if bt736.2.2 = 10 then ((l5alive.f k).bind fun t745 => (some t745)) else (if bt740.2 = 0 then (if bt740.1 = true then (some false) else ((l5alive.f k).bind fun t746 => (some t746))) else (some false))) else (some false))) else (if bt733.2.2 = 10 then (if bt736.2.2 = 10 then ((l5alive.f k).bind fun t747 => (some t747)) else (if bt740.2 = 0 then (if bt740.1 = true then (some false) else ((l5alive.f k).bind fun t748 => (some t748))) else (some false))) else (some false))))))) else ((l5alive.f k).bind fun t732 => (some t732))) = some r := H
 have A3 := Aside0.mk A30
 clear A30
 by_cases c4 : t731 = true
 ·
  subst c4
  have H1 : ((line_Regime.f k l0).bind fun bt733 => ((line_Speed.f k l0).bind fun bt736 => ((line_Connected.f k l0).bind fun bt740 => (if bt733.2.2 = 0 then (if bt736.2.2 = 0 then (if bt740.2 = 0 then (if bt740.1 = true then (if bt733.1 < 1 then (l5LineRepeats.j0 k l0 a1 bt733.1 bt733.2.1 true bt736.1 bt736.2.1) else (if bt733.2.1 < 0 then (l5LineRepeats.j0 k l0 a1 bt733.1 bt733.2.1 true bt736.1 bt736.2.1) else (if bt733.1 > 60 then (l5LineRepeats.j0 k l0 a1 bt733.1 bt733.2.1 true bt736.1 bt736.2.1) else (if bt736.2.1 < 1 then (l5LineRepeats.j0 k l0 a1 bt733.1 bt733.2.1 true bt736.1 bt736.2.1) else (if bt736.2.1 = 0 then (none) else (l5LineRepeats.j0 k l0 a1 bt733.1 bt733.2.1 ((Int.tmod (wrap64 (bt733.1 * bt736.1)) bt736.2.1) != 0) bt736.1 bt736.2.1)))))) else (l5LineRepeats.j0 k l0 a1 bt733.1 bt733.2.1 true bt736.1 bt736.2.1)) else (l5LineRepeats.j0 k l0 a1 bt733.1 bt733.2.1 true bt736.1 bt736.2.1)) else (l5LineRepeats.j0 k l0 a1 bt733.1 bt733.2.1 true bt736.1 bt736.2.1)) else (if bt733.2.2 = 2 then (if bt736.2.2 = 2 then (if bt740.2 = 2 then ((l5alive.f k).bind fun t742 => (some t742)) else (if bt733.2.2 = 10 then (if bt736.2.2 = 10 then ((l5alive.f k).bind fun t743 => (some t743)) else (if bt740.2 = 0 then (if bt740.1 = true then (some false) else ((l5alive.f k).bind fun t744 => (some t744))) else (some false))) else (some false))) else (if bt733.2.2 = 10 then (if bt736.2.2 = 10 then ((l5alive.f k).bind fun t745 => (some t745)) else (if bt740.2 = 0 then (if bt740.1 = true then (some false) else ((l5alive.f k).bind fun t746 => (some t746))) else (some false))) else (some false))) else (if bt733.2.2 = 10 then (if bt736.2.2 = 10 then ((l5alive.f k).bind fun t747 => (some t747)) else (if bt740.2 = 0 then (if bt740.1 = true then (some false) else ((l5alive.f k).bind fun t748 => (some t748))) else (some false))) else (some false))))))) = some r := by rw [if_pos rfl] at H; exact H
  clear H
  have H := H1
  clear H1
  replace H := Option.bind_eq_some_iff.mp H
  obtain ⟨⟨t733, t734, t735⟩, A50, H⟩ := H
  replace H : ((line_Speed.f k l0).bind fun bt736 => ((line_Connected.f k l0).bind fun bt740 => (if t735 = 0 then (if bt736.2.2 = 0 then (if bt740.2 = 0 then (if bt740.1 = true then (if t733 < 1 then (l5LineRepeats.j0 k l0 a1 t733 t734 true bt736.1 bt736.2.1) else (if t734 < 0 then (l5LineRepeats.j0 k l0 a1 t733 t734 true bt736.1 bt736.2.1) else (if t733 > 60 then (l5LineRepeats.j0 k l0 a1 t733 t734 true bt736.1 bt736.2.1) else (if bt736.2.1 < 1 then (l5LineRepeats.j0 k l0 a1 t733 t734 true bt736.1 bt736.2.1) else (if bt736.2.1 = 0 then (none) else (l5LineRepeats.j0 k l0 a1 t733 t734 ((Int.tmod (wrap64 (t733 * bt736.1)) bt736.2.1) != 0) bt736.1 bt736.2.1)))))) else (l5LineRepeats.j0 k l0 a1 t733 t734 true bt736.1 bt736.2.1)) else (l5LineRepeats.j0 k l0 a1 t733 t734 true bt736.1 bt736.2.1)) else (l5LineRepeats.j0 k l0 a1 t733 t734 true bt736.1 bt736.2.1)) else (if t735 = 2 then (if bt736.2.2 = 2 then (if bt740.2 = 2 then ((l5alive.f k).bind fun t742 => (some t742)) else (if t735 = 10 then (if bt736.2.2 = 10 then ((l5alive.f k).bind fun t743 => (some t743)) else (if bt740.2 = 0 then (if bt740.1 = true then (some false) else ((l5alive.f k).bind fun t744 => (some t744))) else (some false))) else (some false))) else (if t735 = 10 then (if bt736.2.2 = 10 then ((l5alive.f k).bind fun t745 => (some t745)) else (if bt740.2 = 0 then (if bt740.1 = true then (some false) else ((l5alive.f k).bind fun t746 => (some t746))) else (some false))) else (some false))) else (if t735 = 10 then (if bt736.2.2 = 10 then ((l5alive.f k).bind fun t747 => (some t747)) else (if bt740.2 = 0 then (if bt740.1 = true then (some false) else ((l5alive.f k).bind fun t748 => (some t748))) else (some false))) else (some false)))))) = some r := H
  have A5 := Aside0.mk A50
  clear A50
  replace H := Option.bind_eq_some_iff.mp H
  obtain ⟨⟨t736, t737, t738⟩, A60, H⟩ := H
  replace H : ((line_Connected.f k l0).bind fun bt740 => (if t735 = 0 then (if t738 = 0 then (if bt740.2 = 0 then (if bt740.1 = true then (if t733 < 1 then (l5LineRepeats.j0 k l0 a1 t733 t734 true t736 t737) else (if t734 < 0 then (l5LineRepeats.j0 k l0 a1 t733 t734 true t736 t737) else (if t733 > 60 then (l5LineRepeats.j0 k l0 a1 t733 t734 true t736 t737) else (if t737 < 1 then (l5LineRepeats.j0 k l0 a1 t733 t734 true t736 t737) else (if t737 = 0 then (none) else (l5LineRepeats.j0 k l0 a1 t733 t734 ((Int.tmod (wrap64 (t733 * t736)) t737) != 0) t736 t737)))))) else (l5LineRepeats.j0 k l0 a1 t733 t734 true t736 t737)) else (l5LineRepeats.j0 k l0 a1 t733 t734 true t736 t737)) else (l5LineRepeats.j0 k l0 a1 t733 t734 true t736 t737)) else (if t735 = 2 then (if t738 = 2 then (if bt740.2 = 2 then ((l5alive.f k).bind fun t742 => (some t742)) else (if t735 = 10 then (if t738 = 10 then ((l5alive.f k).bind fun t743 => (some t743)) else (if bt740.2 = 0 then (if bt740.1 = true then (some false) else ((l5alive.f k).bind fun t744 => (some t744))) else (some false))) else (some false))) else (if t735 = 10 then (if t738 = 10 then ((l5alive.f k).bind fun t745 => (some t745)) else (if bt740.2 = 0 then (if bt740.1 = true then (some false) else ((l5alive.f k).bind fun t746 => (some t746))) else (some false))) else (some false))) else (if t735 = 10 then (if t738 = 10 then ((l5alive.f k).bind fun t747 => (some t747)) else (if bt740.2 = 0 then (if bt740.1 = true then (some false) else ((l5alive.f k).bind fun t748 => (some t748))) else (some false))) else (some false))))) = some r := H
  have A6 := Aside0.mk A60
  clear A60
  replace H := Option.bind_eq_some_iff.mp H
  obtain ⟨⟨t740, t741⟩, A70, H⟩ := H
  replace H : (if t735 = 0 then (if t738 = 0 then (if t741 = 0 then (if t740 = true then (if t733 < 1 then (l5LineRepeats.j0 k l0 a1 t733 t734 true t736 t737) else (if t734 < 0 then (l5LineRepeats.j0 k l0 a1 t733 t734 true t736 t737) else (if t733 > 60 then (l5LineRepeats.j0 k l0 a1 t733 t734 true t736 t737) else (if t737 < 1 then (l5LineRepeats.j0 k l0 a1 t733 t734 true t736 t737) else (if t737 = 0 then (none) else (l5LineRepeats.j0 k l0 a1 t733 t734 ((Int.tmod (wrap64 (t733 * t736)) t737) != 0) t736 t737)))))) else (l5LineRepeats.j0 k l0 a1 t733 t734 true t736 t737)) else (l5LineRepeats.j0 k l0 a1 t733 t734 true t736 t737)) else (l5LineRepeats.j0 k l0 a1 t733 t734 true t736 t737)) else (if t735 = 2 then (if t738 = 2 then (if t741 = 2 then ((l5alive.f k).bind fun t742 => (some t742)) else (if t735 = 10 then (if t738 = 10 then ((l5alive.f k).bind fun t743 => (some t743)) else (if t741 = 0 then (if t740 = true then (some false) else ((l5alive.f k).bind fun t744 => (some t744))) else (some false))) else (some false))) else (if t735 = 10 then (if t738 = 10 then ((l5alive.f k).bind fun t745 => (some t745)) else (if t741 = 0 then (if t740 = true then (some false) else ((l5alive.f k).bind fun t746 => (some t746))) else (some false))) else (some false))) else (if t735 = 10 then (if t738 = 10 then ((l5alive.f k).bind fun t747 => (some t747)) else (if t741 = 0 then (if t740 = true then (some false) else ((l5alive.f k).bind fun t748 => (some t748))) else (some false))) else (some false)))) = some r := H
  have A7 := Aside0.mk A70
  clear A70
  by_cases c8 : t735 = 0
  ·
   rw [if_pos c8] at H
   have c8b0 : (t735 == 0) = true := beq_iff_eq.mpr c8
   have c8b1 : (t735 != 0) = false := bne_eq_false_iff_eq.mpr c8
   clear c8
   have HC9 := Aside0.mk H
   clear H
   go_enter Try.func5, Try.ntmps5
   go_upto_region 8 with (first | ((with_reducible refine gate_callee (f := 12) rfl ?_); refine goesL_ (some 14) rfl rfl Try.func12 (by kernel_rfl) rfl #[.slice A0 l0.length c0] rfl (by (try simp only [List.map_toArray, List.map_cons, List.map_nil]); first | done | rfl | (simp only [List.length_drop, List.length_take]; rfl)) ?_; (with_reducible refine (l5few.calls k _ _ l0 true _ ?side1 ?side2 A3.out).mono ?_); (case side1 => repeat (first | exact HR0.out | (with_reducible refine Kd.C_alloc ?_ _) | (with_reducible refine Kd.C_drewN ?_ _) | (with_reducible refine Kd.C_drew ?_))); (case side2 => exact HC0.out); rintro e w' ⟨rfl, ⟨nd, rfl⟩⟩; refine ⟨_, rfl, ?_⟩) | ((with_reducible refine gate_callee (f := 18) rfl ?_); refine goesL_ (some 19) rfl rfl Try.func18 (by kernel_rfl) rfl #[.slice A0 l0.length c0] rfl (by (try simp only [List.map_toArray, List.map_cons, List.map_nil]); first | done | rfl | (simp only [List.length_drop, List.length_take]; rfl)) ?_; (with_reducible refine (line_Regime.calls k _ _ l0 t733 t734 t735 _ ?side1 ?side2 A5.out).mono ?_); (case side1 => repeat (first | exact HR0.out | (with_reducible refine Kd.C_alloc ?_ _) | (with_reducible refine Kd.C_drewN ?_ _) | (with_reducible refine Kd.C_drew ?_))); (case side2 => exact HC0.out); rintro e w10 ⟨rfl, hb⟩; refine ⟨_, rfl, ?_⟩; have n0_ := Aside0.mk (below_step (by repeat (first | (with_reducible first | exact HB.out | apply below_alloc | apply pw_below_drewN | apply below_drew1) | exact HB.out)) hb); clear HB; have HB := n0_; clear n0_; (try clear hb); (try clear hb2); (try clear hk); (try clear hi)) | ((with_reducible refine gate_callee (f := 22) rfl ?_); refine goesL_ (some 25) rfl rfl Try.func22 (by kernel_rfl) rfl #[.slice A0 l0.length c0] rfl (by (try simp only [List.map_toArray, List.map_cons, List.map_nil]); first | done | rfl | (simp only [List.length_drop, List.length_take]; rfl)) ?_; (with_reducible refine (line_Speed.calls k _ _ l0 t736 t737 t738 _ ?side1 ?side2 A6.out).mono ?_); (case side1 => repeat (first | exact (Kd.C_below HR0.out HB.out) | (with_reducible refine Kd.C_alloc ?_ _) | (with_reducible refine Kd.C_drewN ?_ _) | (with_reducible refine Kd.C_drew ?_))); (case side2 => exact HC0.out); rintro e w11 ⟨rfl, hb⟩; refine ⟨_, rfl, ?_⟩; have n0_ := Aside0.mk (below_step (by repeat (first | (with_reducible first | exact HB.out | apply below_alloc | apply pw_below_drewN | apply below_drew1) | exact HB.out)) hb); clear HB; have HB := n0_; clear n0_; (try clear hb); (try clear hb2); (try clear hk); (try clear hi)) | ((with_reducible refine gate_dst (N := 8) rfl ?_); refine box_event ?hg (N := 8) ?hd (cs := #[.int .i64 0, .int .i64 0]) (t := 37) ?hr ?_; (case hd => rfl); (case hg => rfl); (case hr => first | (go_simp; done) | (go_simp; rfl)); intro gb739 hg w12 hbox hb; have n0_ := Aside0.mk (below_step (by repeat (first | (with_reducible first | exact HB.out | apply below_alloc | apply pw_below_drewN | apply below_drew1) | exact HB.out)) hb); have n1_ := Aside0.mk (hbox); have n2_ := Aside0.mk ((by rw [hg]; exact (below_size (by repeat (first | (with_reducible first | exact HB.out | apply below_alloc | apply pw_below_drewN | apply below_drew1) | exact HB.out))) : w.heap.size ≤ gb739)); have n3_ := Aside0.mk ((by rw [hg]; exact (below_size (by repeat (first | (with_reducible first | exact HB.out | apply below_alloc | apply pw_below_drewN | apply below_drew1) | exact HB.out))) : w.heap.size ≤ gb739)); clear HB; have HB := n0_; have BK739 := n1_; have GW739 := n2_; have GE739 := n3_; clear n0_ n1_ n2_ n3_; clear hb hbox hg; have hcz13_0 : w12.cell? ⟨gb739, 0, none⟩ = some (.int .i64 0) := (blk_cell BK739.out 0).trans rfl; have hcz13_1 : w12.cell? ⟨gb739, 1, none⟩ = some (.int .i64 0) := (blk_cell BK739.out 1).trans rfl; have hfz13_0 := blk_frozen BK739.out 0; have hfz13_1 := blk_frozen BK739.out 1) | ((with_reducible refine gate_callee (f := 25) rfl ?_); refine goesL_ (some 30) rfl rfl Try.func25 (by kernel_rfl) rfl #[.slice A0 l0.length c0] rfl (by (try simp only [List.map_toArray, List.map_cons, List.map_nil]); first | done | rfl | (simp only [List.length_drop, List.length_take]; rfl)) ?_; (with_reducible refine (line_Connected.calls k _ _ l0 t740 t741 _ ?side1 ?side2 A7.out).mono ?_); (case side1 => exact Kd.C_below HR0.out (by repeat (first | (with_reducible first | exact HB.out | apply below_alloc | apply pw_below_drewN | apply below_drew1 | refine below_set ?_ GE739.out) | exact HB.out))); (case side2 => exact HC0.out); rintro e w14 ⟨rfl, hb⟩; refine ⟨_, rfl, ?_⟩; have n0_ := Aside0.mk (blk_below (g := gb739) (o := .cells #[.int .i64 t736, .int .i64 t737] 37 (0, 0)) (by (with_reducible repeat (first | refine blk_drewN ?_ _ | refine blk_drew ?_ | refine blk_alloc ?_ _)); refine blk_put (cs := #[.int .i64 t736, .int .i64 0]) ?_ 1 _ rfl; (with_reducible repeat (first | refine blk_drewN ?_ _ | refine blk_drew ?_ | refine blk_alloc ?_ _)); refine blk_put (cs := #[.int .i64 0, .int .i64 0]) ?_ 0 _ rfl; (with_reducible repeat (first | refine blk_drewN ?_ _ | refine blk_drew ?_ | refine blk_alloc ?_ _)); exact BK739.out) hb); have n1_ := Aside0.mk (below_step (by repeat (first | (with_reducible first | exact HB.out | apply below_alloc | apply pw_below_drewN | apply below_drew1 | refine below_set ?_ GE739.out) | exact HB.out)) hb); clear BK739; clear HB; have BK739 := n0_; have HB := n1_; clear n0_ n1_; (try clear hb); (try clear hb2); (try clear hk); (try clear hi)))
   (try simp only [Act.put, List.setIfInBounds_toArray, List.set_cons_zero, List.set_cons_succ])
   go_cut [100] (fun v100 wc => ∃ (kq : Nat) (x100_8 : Bool), v100 = .bool x100_8 ∧ Aside0 (l5LineRepeats.j0 kq l0 a1 t733 t734 x100_8 t736 t737 = some r) ∧ Aside0 (kq ≤ k) ∧ Aside0 (wc.heap[gb739]? = some (.cells #[.int .i64 t736, .int .i64 t737] 37 (0, 0))) ∧ Aside0 (Below w.heap.size w wc))
   case first =>
    have H := HC9.out
    clear HC9
    by_cases c15 : t738 = 0
    ·
     rw [if_pos c15] at H
     have c15b0 : (t738 == 0) = true := beq_iff_eq.mpr c15
     have c15b1 : (t738 != 0) = false := bne_eq_false_iff_eq.mpr c15
     clear c15
     (first | rw [c15b0] | (simp only [i64_w, i32_w]; rw [c15b0]) | skip)
     by_cases c16 : t741 = 0
     ·
      rw [if_pos c16] at H
      have c16b0 : (t741 == 0) = true := beq_iff_eq.mpr c16
      have c16b1 : (t741 != 0) = false := bne_eq_false_iff_eq.mpr c16
      clear c16
      by_cases c17 : t740 = true
      ·
       subst c17
       have H1 : (if t733 < 1 then (l5LineRepeats.j0 k l0 a1 t733 t734 true t736 t737) else (if t734 < 0 then (l5LineRepeats.j0 k l0 a1 t733 t734 true t736 t737) else (if t733 > 60 then (l5LineRepeats.j0 k l0 a1 t733 t734 true t736 t737) else (if t737 < 1 then (l5LineRepeats.j0 k l0 a1 t733 t734 true t736 t737) else (if t737 = 0 then (none) else (l5LineRepeats.j0 k l0 a1 t733 t734 ((Int.tmod (wrap64 (t733 * t736)) t737) != 0) t736 t737)))))) = some r := by rw [if_pos rfl] at H; exact H
       clear H
       have H := H1
       clear H1
       by_cases c18 : t733 < 1
       ·
        rw [if_pos c18] at H
        have c18b0 : decide (t733 < 1) = true := decide_eq_true c18
        clear c18
        have H' := Aside0.mk H
        clear H
        go_wp2
        go_meet
        case rel => exact ⟨_, (true), (by first | rfl | (simp; done) | (simp [*]; done)), H', ⟨by first | omega | exact Nat.le_refl _⟩, ⟨by (with_reducible repeat (first | refine blk_drewN ?_ _ | refine blk_drew ?_ | refine blk_alloc ?_ _)); exact BK739.out⟩, ⟨by repeat (first | (with_reducible first | exact HB.out | apply below_alloc | apply pw_below_drewN | apply below_drew1 | refine below_set ?_ GE739.out) | exact HB.out)⟩⟩
       ·
        rw [if_neg c18] at H
        have c18b0 : decide (t733 < 1) = false := decide_eq_false c18
        clear c18
        by_cases c19 : t734 < 0
        ·
         rw [if_pos c19] at H
         have c19b0 : decide (t734 < 0) = true := decide_eq_true c19
         clear c19
         have H' := Aside0.mk H
         clear H
         go_wp2
         go_meet
         case rel => exact ⟨_, (true), (by first | rfl | (simp; done) | (simp [*]; done)), H', ⟨by first | omega | exact Nat.le_refl _⟩, ⟨by (with_reducible repeat (first | refine blk_drewN ?_ _ | refine blk_drew ?_ | refine blk_alloc ?_ _)); exact BK739.out⟩, ⟨by repeat (first | (with_reducible first | exact HB.out | apply below_alloc | apply pw_below_drewN | apply below_drew1 | refine below_set ?_ GE739.out) | exact HB.out)⟩⟩
        ·
         rw [if_neg c19] at H
         have c19b0 : decide (t734 < 0) = false := decide_eq_false c19
         clear c19
         by_cases c20 : t733 > 60
         ·
          rw [if_pos c20] at H
          have c20b0 : decide (60 < t733) = true := decide_eq_true c20
          clear c20
          have H' := Aside0.mk H
          clear H
          go_wp2
          go_meet
          case rel => exact ⟨_, (true), (by first | rfl | (simp; done) | (simp [*]; done)), H', ⟨by first | omega | exact Nat.le_refl _⟩, ⟨by (with_reducible repeat (first | refine blk_drewN ?_ _ | refine blk_drew ?_ | refine blk_alloc ?_ _)); exact BK739.out⟩, ⟨by repeat (first | (with_reducible first | exact HB.out | apply below_alloc | apply pw_below_drewN | apply below_drew1 | refine below_set ?_ GE739.out) | exact HB.out)⟩⟩
         ·
          rw [if_neg c20] at H
          have c20b0 : decide (60 < t733) = false := decide_eq_false c20
          clear c20
          by_cases c21 : t737 < 1
          ·
           rw [if_pos c21] at H
           have c21b0 : decide (t737 < 1) = true := decide_eq_true c21
           clear c21
           have H' := Aside0.mk H
           clear H
           have hcz22_0 : w14.cell? ⟨gb739, 0, none⟩ = some (.int .i64 t736) := (blk_cell BK739.out 0).trans rfl
           have hcz22_1 : w14.cell? ⟨gb739, 1, none⟩ = some (.int .i64 t737) := (blk_cell BK739.out 1).trans rfl
           have hfz22_0 := blk_frozen BK739.out 0
           have hfz22_1 := blk_frozen BK739.out 1
           go_wp2
           go_meet
           case rel => exact ⟨_, (true), (by first | rfl | (simp; done) | (simp [*]; done)), H', ⟨by first | omega | exact Nat.le_refl _⟩, ⟨by (with_reducible repeat (first | refine blk_drewN ?_ _ | refine blk_drew ?_ | refine blk_alloc ?_ _)); exact BK739.out⟩, ⟨by repeat (first | (with_reducible first | exact HB.out | apply below_alloc | apply pw_below_drewN | apply below_drew1 | refine below_set ?_ GE739.out) | exact HB.out)⟩⟩
          ·
           rw [if_neg c21] at H
           have c21b0 : decide (t737 < 1) = false := decide_eq_false c21
           clear c21
           by_cases c23 : t737 = 0
           ·
            rw [if_pos c23] at H
            exact absurd H (by simp)
           ·
            rw [if_neg c23] at H
            have c23b0 : (t737 == 0) = false := beq_eq_false_iff_ne.mpr c23
            have c23b1 : (t737 != 0) = true := bne_iff_ne.mpr c23
            have H' := Aside0.mk H
            clear H
            have hcz24_0 : w14.cell? ⟨gb739, 0, none⟩ = some (.int .i64 t736) := (blk_cell BK739.out 0).trans rfl
            have hcz24_1 : w14.cell? ⟨gb739, 1, none⟩ = some (.int .i64 t737) := (blk_cell BK739.out 1).trans rfl
            have hfz24_0 := blk_frozen BK739.out 0
            have hfz24_1 := blk_frozen BK739.out 1
            go_wp2
            go_meet
            case rel => exact ⟨_, (((Int.tmod (wrap64 (t733 * t736)) t737) != 0)), (by first | rfl | (simp; done) | (simp [*]; done)), H', ⟨by first | omega | exact Nat.le_refl _⟩, ⟨by (with_reducible repeat (first | refine blk_drewN ?_ _ | refine blk_drew ?_ | refine blk_alloc ?_ _)); exact BK739.out⟩, ⟨by repeat (first | (with_reducible first | exact HB.out | apply below_alloc | apply pw_below_drewN | apply below_drew1 | refine below_set ?_ GE739.out) | exact HB.out)⟩⟩
      ·
       replace c17 := Bool.eq_false_iff.mpr c17
       subst c17
       have H1 : (l5LineRepeats.j0 k l0 a1 t733 t734 true t736 t737) = some r := by rw [if_neg (show ¬ (false = true) by decide)] at H; exact H
       clear H
       have H := H1
       clear H1
       have H' := Aside0.mk H
       clear H
       go_wp2
       go_meet
       case rel => exact ⟨_, (true), (by first | rfl | (simp; done) | (simp [*]; done)), H', ⟨by first | omega | exact Nat.le_refl _⟩, ⟨by (with_reducible repeat (first | refine blk_drewN ?_ _ | refine blk_drew ?_ | refine blk_alloc ?_ _)); exact BK739.out⟩, ⟨by repeat (first | (with_reducible first | exact HB.out | apply below_alloc | apply pw_below_drewN | apply below_drew1 | refine below_set ?_ GE739.out) | exact HB.out)⟩⟩
     ·
      rw [if_neg c16] at H
      have c16b0 : (t741 == 0) = false := beq_eq_false_iff_ne.mpr c16
      have c16b1 : (t741 != 0) = true := bne_iff_ne.mpr c16
      have H' := Aside0.mk H
      clear H
      go_wp2
      go_meet
      case rel => exact ⟨_, (true), (by first | rfl | (simp; done) | (simp [*]; done)), H', ⟨by first | omega | exact Nat.le_refl _⟩, ⟨by (with_reducible repeat (first | refine blk_drewN ?_ _ | refine blk_drew ?_ | refine blk_alloc ?_ _)); exact BK739.out⟩, ⟨by repeat (first | (with_reducible first | exact HB.out | apply below_alloc | apply pw_below_drewN | apply below_drew1 | refine below_set ?_ GE739.out) | exact HB.out)⟩⟩
    ·
     rw [if_neg c15] at H
     have c15b0 : (t738 == 0) = false := beq_eq_false_iff_ne.mpr c15
     (first | rw [c15b0] | skip)
     have H' := Aside0.mk H
     clear H
     go_wp2
     go_meet
     case rel => exact ⟨_, (true), rfl, H', ⟨by first | omega | exact Nat.le_refl _⟩, ⟨by exact BK739.out⟩, ⟨HB.out⟩⟩
   case rest =>
    clear HC9
    try clear c22
    try clear c23
    try clear c23b0
    try clear c23b1
    try clear hcz13_0
    try clear hcz13_1
    try clear hcz22_0
    try clear hcz22_1
    try clear hcz24_0
    try clear hcz24_1
    try clear hfz13_0
    try clear hfz13_1
    try clear hfz22_0
    try clear hfz22_1
    try clear hfz24_0
    try clear hfz24_1
    obtain ⟨kq, x100_8, rfl, HA, HJ8, BK739, HB⟩ := hcut
    cases kq with
    | zero => exact absurd HA.out (by simp [l5LineRepeats.j0])
    | succ kj8 =>
     have H := HA.out
     clear HA
     simp only [l5LineRepeats.j0] at H
     by_cases c25 : x100_8 = true
     ·
      subst c25
      have H1 : (some false) = some r := by rw [if_pos rfl] at H; exact H
      clear H
      have H := H1
      clear H1
      exact absurd (H.trans (congrArg some hr_.out)) (by simp)
     ·
      replace c25 := Bool.eq_false_iff.mpr c25
      subst c25
      have H1 : (if t734 > 20000 then ((l5alive.f kj8).bind fun t749 => (some t749)) else ((l5repeats.f kj8 l0 (wrap64 (t734 + (wrap64 (a1)))) t733 t736 t737).bind fun t750 => (if t750 = true then ((l5repeats.f kj8 l0 t734 t733 t736 t737).bind fun t751 => (if t751 = true then (if t734 > 0 then ((l5repeats.f kj8 l0 (wrap64 (t734 - 1)) t733 t736 t737).bind fun t752 => (l5LineRepeats.j1 kj8 l0 t733 t734 t752 t736 t737)) else (l5LineRepeats.j1 kj8 l0 t733 t734 false t736 t737)) else (l5LineRepeats.j1 kj8 l0 t733 t734 true t736 t737))) else (l5LineRepeats.j1 kj8 l0 t733 t734 true t736 t737)))) = some r := by rw [if_neg (show ¬ (false = true) by decide)] at H; exact H
      clear H
      have H := H1
      clear H1
      by_cases c26 : t734 > 20000
      ·
       rw [if_pos c26] at H
       have c26b0 : decide (20000 < t734) = true := decide_eq_true c26
       clear c26
       replace H := Option.bind_eq_some_iff.mp H
       obtain ⟨t749, A270, H⟩ := H
       replace H : (some t749) = some r := H
       have A27 := Aside0.mk A270
       clear A270
       obtain rfl := Option.some.inj H
       go_wp2_with (first | ((with_reducible refine gate_callee (f := 13) rfl ?_); refine goesL_ (some 103) rfl rfl Try.func13 (by kernel_rfl) rfl #[] rfl (by (try simp only [List.map_toArray, List.map_cons, List.map_nil]); first | done | rfl | (simp only [List.length_drop, List.length_take]; rfl)) ?_; (with_reducible refine (l5alive.calls kj8  t749 _ A27.out).mono ?_); rintro e w28 ⟨rfl, hb⟩; refine ⟨_, rfl, ?_⟩; have n0_ := Aside0.mk (blk_below (g := gb739) (o := .cells #[.int .i64 t736, .int .i64 t737] 37 (0, 0)) (by (with_reducible repeat (first | refine blk_drewN ?_ _ | refine blk_drew ?_ | refine blk_alloc ?_ _)); exact BK739.out) hb); have n1_ := Aside0.mk (below_step (by repeat (first | (with_reducible first | exact HB.out | apply below_alloc | apply pw_below_drewN | apply below_drew1 | refine below_set ?_ GE739.out) | exact HB.out)) hb); clear BK739; clear HB; have BK739 := n0_; have HB := n1_; clear n0_ n1_; (try clear hb); (try clear hb2); (try clear hk); (try clear hi)))
       go_ret
       exact ⟨by first | rfl | (simp [errW_none, errW_some] <;> rfl) | (simp [*, errW_none, errW_some] <;> rfl), by repeat (first | (with_reducible first | exact HB.out | apply below_alloc | apply pw_below_drewN | apply below_drew1 | refine below_set ?_ GE739.out) | exact HB.out)⟩
      ·
       rw [if_neg c26] at H
       have c26b0 : decide (20000 < t734) = false := decide_eq_false c26
       clear c26
       have HC29 := Aside0.mk H
       clear H
       go_upto_region 12 with (fail)
       go_cut [132] (fun v132 wc => ∃ (kq : Nat) (x132_28 : Bool), v132 = .bool x132_28 ∧ Aside0 (l5LineRepeats.j1 kq l0 t733 t734 x132_28 t736 t737 = some r) ∧ Aside0 (kq ≤ kj8) ∧ Aside0 (wc.heap[gb739]? = some (.cells #[.int .i64 t736, .int .i64 t737] 37 (0, 0))) ∧ Aside0 (Below w.heap.size w wc))
       case first =>
        have H := HC29.out
        clear HC29
        replace H := Option.bind_eq_some_iff.mp H
        obtain ⟨t750, A300, H⟩ := H
        replace H : (if t750 = true then ((l5repeats.f kj8 l0 t734 t733 t736 t737).bind fun t751 => (if t751 = true then (if t734 > 0 then ((l5repeats.f kj8 l0 (wrap64 (t734 - 1)) t733 t736 t737).bind fun t752 => (l5LineRepeats.j1 kj8 l0 t733 t734 t752 t736 t737)) else (l5LineRepeats.j1 kj8 l0 t733 t734 false t736 t737)) else (l5LineRepeats.j1 kj8 l0 t733 t734 true t736 t737))) else (l5LineRepeats.j1 kj8 l0 t733 t734 true t736 t737)) = some r := H
        have A30 := Aside0.mk A300
        clear A300
        by_cases c31 : t750 = true
        ·
         subst c31
         have H1 : ((l5repeats.f kj8 l0 t734 t733 t736 t737).bind fun t751 => (if t751 = true then (if t734 > 0 then ((l5repeats.f kj8 l0 (wrap64 (t734 - 1)) t733 t736 t737).bind fun t752 => (l5LineRepeats.j1 kj8 l0 t733 t734 t752 t736 t737)) else (l5LineRepeats.j1 kj8 l0 t733 t734 false t736 t737)) else (l5LineRepeats.j1 kj8 l0 t733 t734 true t736 t737))) = some r := by rw [if_pos rfl] at H; exact H
         clear H
         have H := H1
         clear H1
         replace H := Option.bind_eq_some_iff.mp H
         obtain ⟨t751, A320, H⟩ := H
         replace H : (if t751 = true then (if t734 > 0 then ((l5repeats.f kj8 l0 (wrap64 (t734 - 1)) t733 t736 t737).bind fun t752 => (l5LineRepeats.j1 kj8 l0 t733 t734 t752 t736 t737)) else (l5LineRepeats.j1 kj8 l0 t733 t734 false t736 t737)) else (l5LineRepeats.j1 kj8 l0 t733 t734 true t736 t737)) = some r := H
         have A32 := Aside0.mk A320
         clear A320
         by_cases c33 : t751 = true
         ·
          subst c33
          have H1 : (if t734 > 0 then ((l5repeats.f kj8 l0 (wrap64 (t734 - 1)) t733 t736 t737).bind fun t752 => (l5LineRepeats.j1 kj8 l0 t733 t734 t752 t736 t737)) else (l5LineRepeats.j1 kj8 l0 t733 t734 false t736 t737)) = some r := by rw [if_pos rfl] at H; exact H
          clear H
          have H := H1
          clear H1
          by_cases c34 : t734 > 0
          ·
           rw [if_pos c34] at H
           have c34b0 : decide (0 < t734) = true := decide_eq_true c34
           clear c34
           (first | rw [c34b0] | skip)
           replace H := Option.bind_eq_some_iff.mp H
           obtain ⟨t752, A350, H⟩ := H
           replace H : (l5LineRepeats.j1 kj8 l0 t733 t734 t752 t736 t737) = some r := H
           have A35 := Aside0.mk A350
           clear A350
           have H' := Aside0.mk H
           clear H
           have hcz36_0 : wc.cell? ⟨gb739, 0, none⟩ = some (.int .i64 t736) := (blk_cell BK739.out 0).trans rfl
           have hcz36_1 : wc.cell? ⟨gb739, 1, none⟩ = some (.int .i64 t737) := (blk_cell BK739.out 1).trans rfl
           have hfz36_0 := blk_frozen BK739.out 0
           have hfz36_1 := blk_frozen BK739.out 1
           go_wp2_with (first | ((with_reducible refine gate_callee (f := 26) rfl ?_); refine goesL_ (some 111) rfl rfl Try.func26 (by kernel_rfl) rfl #[.slice A0 l0.length c0, .int .i64 (wrap64 (t734 + (wrap64 (a1)))), .int .i64 t733, .agg #[.int .i64 t736, .int .i64 t737]] rfl (by (try simp only [List.map_toArray, List.map_cons, List.map_nil]); rfl) ?_; (with_reducible refine (l5repeats.calls kj8 _ _ l0 (wrap64 (t734 + (wrap64 (a1)))) t733 t736 t737 true _ ?side1 ?side2 A30.out).mono ?_); (case side1 => repeat (first | exact (Kd.C_below HR0.out HB.out))); (case side2 => exact HC0.out); rintro e w37 ⟨rfl, hb⟩; refine ⟨_, rfl, ?_⟩; have n0_ := Aside0.mk (blk_below (g := gb739) (o := .cells #[.int .i64 t736, .int .i64 t737] 37 (0, 0)) (by exact BK739.out) hb); have n1_ := Aside0.mk (below_step (HB.out) hb); clear BK739; clear HB; have BK739 := n0_; have HB := n1_; clear n0_ n1_; have hcz38_0 : w37.cell? ⟨gb739, 0, none⟩ = some (.int .i64 t736) := (blk_cell BK739.out 0).trans rfl; have hcz38_1 : w37.cell? ⟨gb739, 1, none⟩ = some (.int .i64 t737) := (blk_cell BK739.out 1).trans rfl; have hfz38_0 := blk_frozen BK739.out 0; have hfz38_1 := blk_frozen BK739.out 1) | (go_at_call 26; (with_reducible refine (l5repeats.calls kj8 _ _ l0 t734 t733 t736 t737 true _ ?side1 ?side2 A32.out).mono ?_); (case side1 => repeat (first | exact (Kd.C_below HR0.out HB.out))); (case side2 => exact HC0.out); rintro e w39 ⟨rfl, hb⟩; have n0_ := Aside0.mk (blk_below (g := gb739) (o := .cells #[.int .i64 t736, .int .i64 t737] 37 (0, 0)) (by exact BK739.out) hb); have n1_ := Aside0.mk (below_step (HB.out) hb); clear BK739; clear HB; have BK739 := n0_; have HB := n1_; clear n0_ n1_; have hcz40_0 : w39.cell? ⟨gb739, 0, none⟩ = some (.int .i64 t736) := (blk_cell BK739.out 0).trans rfl; have hcz40_1 : w39.cell? ⟨gb739, 1, none⟩ = some (.int .i64 t737) := (blk_cell BK739.out 1).trans rfl; have hfz40_0 := blk_frozen BK739.out 0; have hfz40_1 := blk_frozen BK739.out 1) | (go_at_call 26; (with_reducible refine (l5repeats.calls kj8 _ _ l0 (wrap64 (t734 - 1)) t733 t736 t737 t752 _ ?side1 ?side2 A35.out).mono ?_); (case side1 => repeat (first | exact (Kd.C_below HR0.out HB.out))); (case side2 => exact HC0.out); rintro e w41 ⟨rfl, hb⟩; have n0_ := Aside0.mk (blk_below (g := gb739) (o := .cells #[.int .i64 t736, .int .i64 t737] 37 (0, 0)) (by exact BK739.out) hb); have n1_ := Aside0.mk (below_step (HB.out) hb); clear BK739; clear HB; have BK739 := n0_; have HB := n1_; clear n0_ n1_))
           go_meet
           case rel => exact ⟨_, (t752), rfl, H', ⟨by have := HJ8.out; first | omega | exact Nat.le_refl _⟩, ⟨by exact BK739.out⟩, ⟨HB.out⟩⟩
          ·
           rw [if_neg c34] at H
           have c34b0 : decide (0 < t734) = false := decide_eq_false c34
           clear c34
           (first | rw [c34b0] | skip)
           have H' := Aside0.mk H
           clear H
           have hcz42_0 : wc.cell? ⟨gb739, 0, none⟩ = some (.int .i64 t736) := (blk_cell BK739.out 0).trans rfl
           have hcz42_1 : wc.cell? ⟨gb739, 1, none⟩ = some (.int .i64 t737) := (blk_cell BK739.out 1).trans rfl
           have hfz42_0 := blk_frozen BK739.out 0
           have hfz42_1 := blk_frozen BK739.out 1
           go_wp2_with (first | ((with_reducible refine gate_callee (f := 26) rfl ?_); refine goesL_ (some 111) rfl rfl Try.func26 (by kernel_rfl) rfl #[.slice A0 l0.length c0, .int .i64 (wrap64 (t734 + (wrap64 (a1)))), .int .i64 t733, .agg #[.int .i64 t736, .int .i64 t737]] rfl (by (try simp only [List.map_toArray, List.map_cons, List.map_nil]); rfl) ?_; (with_reducible refine (l5repeats.calls kj8 _ _ l0 (wrap64 (t734 + (wrap64 (a1)))) t733 t736 t737 true _ ?side1 ?side2 A30.out).mono ?_); (case side1 => repeat (first | exact (Kd.C_below HR0.out HB.out))); (case side2 => exact HC0.out); rintro e w43 ⟨rfl, hb⟩; refine ⟨_, rfl, ?_⟩; have n0_ := Aside0.mk (blk_below (g := gb739) (o := .cells #[.int .i64 t736, .int .i64 t737] 37 (0, 0)) (by exact BK739.out) hb); have n1_ := Aside0.mk (below_step (HB.out) hb); clear BK739; clear HB; have BK739 := n0_; have HB := n1_; clear n0_ n1_; have hcz44_0 : w43.cell? ⟨gb739, 0, none⟩ = some (.int .i64 t736) := (blk_cell BK739.out 0).trans rfl; have hcz44_1 : w43.cell? ⟨gb739, 1, none⟩ = some (.int .i64 t737) := (blk_cell BK739.out 1).trans rfl; have hfz44_0 := blk_frozen BK739.out 0; have hfz44_1 := blk_frozen BK739.out 1) | (go_at_call 26; (with_reducible refine (l5repeats.calls kj8 _ _ l0 t734 t733 t736 t737 true _ ?side1 ?side2 A32.out).mono ?_); (case side1 => repeat (first | exact (Kd.C_below HR0.out HB.out))); (case side2 => exact HC0.out); rintro e w45 ⟨rfl, hb⟩; have n0_ := Aside0.mk (blk_below (g := gb739) (o := .cells #[.int .i64 t736, .int .i64 t737] 37 (0, 0)) (by exact BK739.out) hb); have n1_ := Aside0.mk (below_step (HB.out) hb); clear BK739; clear HB; have BK739 := n0_; have HB := n1_; clear n0_ n1_))
           go_meet
           case rel => exact ⟨_, (false), rfl, H', ⟨by have := HJ8.out; first | omega | exact Nat.le_refl _⟩, ⟨by exact BK739.out⟩, ⟨HB.out⟩⟩
         ·
          replace c33 := Bool.eq_false_iff.mpr c33
          subst c33
          have H1 : (l5LineRepeats.j1 kj8 l0 t733 t734 true t736 t737) = some r := by rw [if_neg (show ¬ (false = true) by decide)] at H; exact H
          clear H
          have H := H1
          clear H1
          have H' := Aside0.mk H
          clear H
          have hcz46_0 : wc.cell? ⟨gb739, 0, none⟩ = some (.int .i64 t736) := (blk_cell BK739.out 0).trans rfl
          have hcz46_1 : wc.cell? ⟨gb739, 1, none⟩ = some (.int .i64 t737) := (blk_cell BK739.out 1).trans rfl
          have hfz46_0 := blk_frozen BK739.out 0
          have hfz46_1 := blk_frozen BK739.out 1
          go_wp2_with (first | ((with_reducible refine gate_callee (f := 26) rfl ?_); refine goesL_ (some 111) rfl rfl Try.func26 (by kernel_rfl) rfl #[.slice A0 l0.length c0, .int .i64 (wrap64 (t734 + (wrap64 (a1)))), .int .i64 t733, .agg #[.int .i64 t736, .int .i64 t737]] rfl (by (try simp only [List.map_toArray, List.map_cons, List.map_nil]); rfl) ?_; (with_reducible refine (l5repeats.calls kj8 _ _ l0 (wrap64 (t734 + (wrap64 (a1)))) t733 t736 t737 true _ ?side1 ?side2 A30.out).mono ?_); (case side1 => repeat (first | exact (Kd.C_below HR0.out HB.out))); (case side2 => exact HC0.out); rintro e w47 ⟨rfl, hb⟩; refine ⟨_, rfl, ?_⟩; have n0_ := Aside0.mk (blk_below (g := gb739) (o := .cells #[.int .i64 t736, .int .i64 t737] 37 (0, 0)) (by exact BK739.out) hb); have n1_ := Aside0.mk (below_step (HB.out) hb); clear BK739; clear HB; have BK739 := n0_; have HB := n1_; clear n0_ n1_; have hcz48_0 : w47.cell? ⟨gb739, 0, none⟩ = some (.int .i64 t736) := (blk_cell BK739.out 0).trans rfl; have hcz48_1 : w47.cell? ⟨gb739, 1, none⟩ = some (.int .i64 t737) := (blk_cell BK739.out 1).trans rfl; have hfz48_0 := blk_frozen BK739.out 0; have hfz48_1 := blk_frozen BK739.out 1) | (go_at_call 26; (with_reducible refine (l5repeats.calls kj8 _ _ l0 t734 t733 t736 t737 false _ ?side1 ?side2 A32.out).mono ?_); (case side1 => repeat (first | exact (Kd.C_below HR0.out HB.out))); (case side2 => exact HC0.out); rintro e w49 ⟨rfl, hb⟩; have n0_ := Aside0.mk (blk_below (g := gb739) (o := .cells #[.int .i64 t736, .int .i64 t737] 37 (0, 0)) (by exact BK739.out) hb); have n1_ := Aside0.mk (below_step (HB.out) hb); clear BK739; clear HB; have BK739 := n0_; have HB := n1_; clear n0_ n1_))
          go_meet
          case rel => exact ⟨_, (true), rfl, H', ⟨by have := HJ8.out; first | omega | exact Nat.le_refl _⟩, ⟨by exact BK739.out⟩, ⟨HB.out⟩⟩
        ·
         replace c31 := Bool.eq_false_iff.mpr c31
         subst c31
         have H1 : (l5LineRepeats.j1 kj8 l0 t733 t734 true t736 t737) = some r := by rw [if_neg (show ¬ (false = true) by decide)] at H; exact H
         clear H
         have H := H1
         clear H1
         have H' := Aside0.mk H
         clear H
         have hcz50_0 : wc.cell? ⟨gb739, 0, none⟩ = some (.int .i64 t736) := (blk_cell BK739.out 0).trans rfl
         have hcz50_1 : wc.cell? ⟨gb739, 1, none⟩ = some (.int .i64 t737) := (blk_cell BK739.out 1).trans rfl
         have hfz50_0 := blk_frozen BK739.out 0
         have hfz50_1 := blk_frozen BK739.out 1
         go_wp2_with (first | ((with_reducible refine gate_callee (f := 26) rfl ?_); refine goesL_ (some 111) rfl rfl Try.func26 (by kernel_rfl) rfl #[.slice A0 l0.length c0, .int .i64 (wrap64 (t734 + (wrap64 (a1)))), .int .i64 t733, .agg #[.int .i64 t736, .int .i64 t737]] rfl (by (try simp only [List.map_toArray, List.map_cons, List.map_nil]); rfl) ?_; (with_reducible refine (l5repeats.calls kj8 _ _ l0 (wrap64 (t734 + (wrap64 (a1)))) t733 t736 t737 false _ ?side1 ?side2 A30.out).mono ?_); (case side1 => repeat (first | exact (Kd.C_below HR0.out HB.out))); (case side2 => exact HC0.out); rintro e w51 ⟨rfl, hb⟩; refine ⟨_, rfl, ?_⟩; have n0_ := Aside0.mk (blk_below (g := gb739) (o := .cells #[.int .i64 t736, .int .i64 t737] 37 (0, 0)) (by exact BK739.out) hb); have n1_ := Aside0.mk (below_step (HB.out) hb); clear BK739; clear HB; have BK739 := n0_; have HB := n1_; clear n0_ n1_))
         go_meet
         case rel => exact ⟨_, (true), rfl, H', ⟨by have := HJ8.out; first | omega | exact Nat.le_refl _⟩, ⟨by exact BK739.out⟩, ⟨HB.out⟩⟩
       case rest =>
        clear HC29
        obtain ⟨kq, x132_28, rfl, HA, HJ28, BK739, HB⟩ := hcut
        cases kq with
        | zero => exact absurd HA.out (by simp [l5LineRepeats.j1])
        | succ kj28 =>
         have H := HA.out
         clear HA
         simp only [l5LineRepeats.j1] at H
         by_cases c52 : x132_28 = true
         ·
          subst c52
          have H1 : (some false) = some r := by rw [if_pos rfl] at H; exact H
          clear H
          have H := H1
          clear H1
          exact absurd (H.trans (congrArg some hr_.out)) (by simp)
         ·
          replace c52 := Bool.eq_false_iff.mpr c52
          subst c52
          have H1 : (l5LineRepeats.l0 kj28 l0 t733 t734 1 t736 t737) = some r := by rw [if_neg (show ¬ (false = true) by decide)] at H; exact H
          clear H
          have H := H1
          clear H1
          have H' := Aside0.mk H
          clear H
          go_wp2
          go_loopg [12] kj28 (fun kq v12 w' => ∃ (x12_3 : Int), v12 = .int .i64 x12_3 ∧ Aside0 (l5LineRepeats.l0 kq l0 t733 t734 x12_3 t736 t737 = some r) ∧ Aside0 (kq ≤ kj28) ∧ Aside0 (w'.heap[gb739]? = some (.cells #[.int .i64 t736, .int .i64 t737] 37 (0, 0))) ∧ Aside0 (Below w.heap.size w w'))
          case atStart => exact ⟨(1), rfl, H', ⟨Nat.le_refl _⟩, ⟨by exact BK739.out⟩, ⟨HB.out⟩⟩
          case round =>
           clear H'
           obtain ⟨x12_3, rfl, HA, HK3, BK739, HB⟩ := hrel
           cases gk with
           | zero => exact absurd HA.out (by simp [l5LineRepeats.l0])
           | succ k3 =>
            have H := HA.out
            clear HA
            simp only [l5LineRepeats.l0] at H
            by_cases c53 : x12_3 < t733
            ·
             rw [if_pos c53] at H
             have c53b0 : decide (x12_3 < t733) = true := decide_eq_true c53
             clear c53
             replace H := Option.bind_eq_some_iff.mp H
             obtain ⟨t753, A540, H⟩ := H
             replace H : (if t753 = true then (some false) else (l5LineRepeats.l0 k3 l0 t733 t734 (wrap64 (x12_3 + 1)) t736 t737)) = some r := H
             have A54 := Aside0.mk A540
             clear A540
             by_cases c55 : t753 = true
             ·
              subst c55
              have H1 : (some false) = some r := by rw [if_pos rfl] at H; exact H
              clear H
              have H := H1
              clear H1
              exact absurd (H.trans (congrArg some hr_.out)) (by simp)
             ·
              replace c55 := Bool.eq_false_iff.mpr c55
              subst c55
              have H1 : (l5LineRepeats.l0 k3 l0 t733 t734 (wrap64 (x12_3 + 1)) t736 t737) = some r := by rw [if_neg (show ¬ (false = true) by decide)] at H; exact H
              clear H
              have H := H1
              clear H1
              have H' := Aside0.mk H
              clear H
              have hcz58_0 : wr.cell? ⟨gb739, 0, none⟩ = some (.int .i64 t736) := (blk_cell BK739.out 0).trans rfl
              have hcz58_1 : wr.cell? ⟨gb739, 1, none⟩ = some (.int .i64 t737) := (blk_cell BK739.out 1).trans rfl
              have hfz58_0 := blk_frozen BK739.out 0
              have hfz58_1 := blk_frozen BK739.out 1
              go_wp2_with (first | ((with_reducible refine gate_callee (f := 26) rfl ?_); refine goesL_ (some 142) rfl rfl Try.func26 (by kernel_rfl) rfl #[.slice A0 l0.length c0, .int .i64 t734, .int .i64 x12_3, .agg #[.int .i64 t736, .int .i64 t737]] rfl (by (try simp only [List.map_toArray, List.map_cons, List.map_nil]); first | done | rfl | (simp only [List.length_drop, List.length_take]; rfl)) ?_; (with_reducible refine (l5repeats.calls k3 _ _ l0 t734 x12_3 t736 t737 false _ ?side1 ?side2 A54.out).mono ?_); (case side1 => repeat (first | exact (Kd.C_below HR0.out HB.out) | (with_reducible refine Kd.C_alloc ?_ _) | (with_reducible refine Kd.C_drewN ?_ _) | (with_reducible refine Kd.C_drew ?_))); (case side2 => exact HC0.out); rintro e w59 ⟨rfl, hb⟩; refine ⟨_, rfl, ?_⟩; have n0_ := Aside0.mk (blk_below (g := gb739) (o := .cells #[.int .i64 t736, .int .i64 t737] 37 (0, 0)) (by (with_reducible repeat (first | refine blk_drewN ?_ _ | refine blk_drew ?_ | refine blk_alloc ?_ _)); exact BK739.out) hb); have n1_ := Aside0.mk (below_step (by repeat (first | (with_reducible first | exact HB.out | apply below_alloc | apply pw_below_drewN | apply below_drew1 | refine below_set ?_ GE739.out) | exact HB.out)) hb); clear BK739; clear HB; have BK739 := n0_; have HB := n1_; clear n0_ n1_; (try clear hb); (try clear hb2); (try clear hk); (try clear hi)))
              go_roundg k3
              case measure => have := HJ8.out; have := HJ28.out; have := HK3.out; omega
              case rel => exact ⟨(wrap64 (x12_3 + 1)), (by first | rfl | (simp; done) | (simp [*]; done)), H', ⟨by have := HJ8.out; have := HJ28.out; have := HK3.out; omega⟩, ⟨by (with_reducible repeat (first | refine blk_drewN ?_ _ | refine blk_drew ?_ | refine blk_alloc ?_ _)); exact BK739.out⟩, ⟨by repeat (first | (with_reducible first | exact HB.out | apply below_alloc | apply pw_below_drewN | apply below_drew1 | refine below_set ?_ GE739.out) | exact HB.out)⟩⟩
            ·
             rw [if_neg c53] at H
             have c53b0 : decide (x12_3 < t733) = false := decide_eq_false c53
             clear c53
             replace H := Option.bind_eq_some_iff.mp H
             obtain ⟨t754, A600, H⟩ := H
             replace H : (some t754) = some r := H
             have A60 := Aside0.mk A600
             clear A600
             obtain rfl := Option.some.inj H
             go_wp2_with (first | ((with_reducible refine gate_callee (f := 13) rfl ?_); refine goesL_ (some 143) rfl rfl Try.func13 (by kernel_rfl) rfl #[] rfl (by (try simp only [List.map_toArray, List.map_cons, List.map_nil]); first | done | rfl | (simp only [List.length_drop, List.length_take]; rfl)) ?_; (with_reducible refine (l5alive.calls k3  t754 _ A60.out).mono ?_); rintro e w61 ⟨rfl, hb⟩; refine ⟨_, rfl, ?_⟩; have n0_ := Aside0.mk (blk_below (g := gb739) (o := .cells #[.int .i64 t736, .int .i64 t737] 37 (0, 0)) (by (with_reducible repeat (first | refine blk_drewN ?_ _ | refine blk_drew ?_ | refine blk_alloc ?_ _)); exact BK739.out) hb); have n1_ := Aside0.mk (below_step (by repeat (first | (with_reducible first | exact HB.out | apply below_alloc | apply pw_below_drewN | apply below_drew1 | refine below_set ?_ GE739.out) | exact HB.out)) hb); clear BK739; clear HB; have BK739 := n0_; have HB := n1_; clear n0_ n1_; (try clear hb); (try clear hb2); (try clear hk); (try clear hi)))
             go_ret
             exact ⟨by first | rfl | (simp [errW_none, errW_some] <;> rfl) | (simp [*, errW_none, errW_some] <;> rfl), by repeat (first | (with_reducible first | exact HB.out | apply below_alloc | apply pw_below_drewN | apply below_drew1 | refine below_set ?_ GE739.out) | exact HB.out)⟩
  ·
   rw [if_neg c8] at H
   have c8b0 : (t735 == 0) = false := beq_eq_false_iff_ne.mpr c8
   have c8b1 : (t735 != 0) = true := bne_iff_ne.mpr c8
   by_cases c62 : t735 = 2
   ·
    rw [if_pos c62] at H
    have c62b0 : (t735 == 2) = true := beq_iff_eq.mpr c62
    have c62b1 : (t735 != 2) = false := bne_eq_false_iff_eq.mpr c62
    clear c62
    by_cases c63 : t738 = 2
    ·
     rw [if_pos c63] at H
     have c63b0 : (t738 == 2) = true := beq_iff_eq.mpr c63
     have c63b1 : (t738 != 2) = false := bne_eq_false_iff_eq.mpr c63
     clear c63
     by_cases c64 : t741 = 2
     ·
      rw [if_pos c64] at H
      have c64b0 : (t741 == 2) = true := beq_iff_eq.mpr c64
      have c64b1 : (t741 != 2) = false := bne_eq_false_iff_eq.mpr c64
      clear c64
      replace H := Option.bind_eq_some_iff.mp H
      obtain ⟨t742, A650, H⟩ := H
      replace H : (some t742) = some r := H
      have A65 := Aside0.mk A650
      clear A650
      obtain rfl := Option.some.inj H
      go_enter Try.func5, Try.ntmps5
      go_wp2_with (first | ((with_reducible refine gate_callee (f := 12) rfl ?_); refine goesL_ (some 14) rfl rfl Try.func12 (by kernel_rfl) rfl #[.slice A0 l0.length c0] rfl (by (try simp only [List.map_toArray, List.map_cons, List.map_nil]); first | done | rfl | (simp only [List.length_drop, List.length_take]; rfl)) ?_; (with_reducible refine (l5few.calls k _ _ l0 true _ ?side1 ?side2 A3.out).mono ?_); (case side1 => repeat (first | exact HR0.out | (with_reducible refine Kd.C_alloc ?_ _) | (with_reducible refine Kd.C_drewN ?_ _) | (with_reducible refine Kd.C_drew ?_))); (case side2 => exact HC0.out); rintro e w' ⟨rfl, ⟨nd, rfl⟩⟩; refine ⟨_, rfl, ?_⟩) | ((with_reducible refine gate_callee (f := 18) rfl ?_); refine goesL_ (some 19) rfl rfl Try.func18 (by kernel_rfl) rfl #[.slice A0 l0.length c0] rfl (by (try simp only [List.map_toArray, List.map_cons, List.map_nil]); first | done | rfl | (simp only [List.length_drop, List.length_take]; rfl)) ?_; (with_reducible refine (line_Regime.calls k _ _ l0 t733 t734 t735 _ ?side1 ?side2 A5.out).mono ?_); (case side1 => repeat (first | exact HR0.out | (with_reducible refine Kd.C_alloc ?_ _) | (with_reducible refine Kd.C_drewN ?_ _) | (with_reducible refine Kd.C_drew ?_))); (case side2 => exact HC0.out); rintro e w66 ⟨rfl, hb⟩; refine ⟨_, rfl, ?_⟩; have n0_ := Aside0.mk (below_step (by repeat (first | (with_reducible first | exact HB.out | apply below_alloc | apply pw_below_drewN | apply below_drew1) | exact HB.out)) hb); clear HB; have HB := n0_; clear n0_; (try clear hb); (try clear hb2); (try clear hk); (try clear hi)) | ((with_reducible refine gate_callee (f := 22) rfl ?_); refine goesL_ (some 25) rfl rfl Try.func22 (by kernel_rfl) rfl #[.slice A0 l0.length c0] rfl (by (try simp only [List.map_toArray, List.map_cons, List.map_nil]); first | done | rfl | (simp only [List.length_drop, List.length_take]; rfl)) ?_; (with_reducible refine (line_Speed.calls k _ _ l0 t736 t737 t738 _ ?side1 ?side2 A6.out).mono ?_); (case side1 => repeat (first | exact (Kd.C_below HR0.out HB.out) | (with_reducible refine Kd.C_alloc ?_ _) | (with_reducible refine Kd.C_drewN ?_ _) | (with_reducible refine Kd.C_drew ?_))); (case side2 => exact HC0.out); rintro e w67 ⟨rfl, hb⟩; refine ⟨_, rfl, ?_⟩; have n0_ := Aside0.mk (below_step (by repeat (first | (with_reducible first | exact HB.out | apply below_alloc | apply pw_below_drewN | apply below_drew1) | exact HB.out)) hb); clear HB; have HB := n0_; clear n0_; (try clear hb); (try clear hb2); (try clear hk); (try clear hi)) | ((with_reducible refine gate_dst (N := 8) rfl ?_); refine box_event ?hg (N := 8) ?hd (cs := #[.int .i64 0, .int .i64 0]) (t := 37) ?hr ?_; (case hd => rfl); (case hg => rfl); (case hr => first | (go_simp; done) | (go_simp; rfl)); intro gb739 hg w68 hbox hb; have n0_ := Aside0.mk (below_step (by repeat (first | (with_reducible first | exact HB.out | apply below_alloc | apply pw_below_drewN | apply below_drew1) | exact HB.out)) hb); have n1_ := Aside0.mk (hbox); have n2_ := Aside0.mk ((by rw [hg]; exact (below_size (by repeat (first | (with_reducible first | exact HB.out | apply below_alloc | apply pw_below_drewN | apply below_drew1) | exact HB.out))) : w.heap.size ≤ gb739)); have n3_ := Aside0.mk ((by rw [hg]; exact (below_size (by repeat (first | (with_reducible first | exact HB.out | apply below_alloc | apply pw_below_drewN | apply below_drew1) | exact HB.out))) : w.heap.size ≤ gb739)); clear HB; have HB := n0_; have BK739 := n1_; have GW739 := n2_; have GE739 := n3_; clear n0_ n1_ n2_ n3_; clear hb hbox hg; have hcz69_0 : w68.cell? ⟨gb739, 0, none⟩ = some (.int .i64 0) := (blk_cell BK739.out 0).trans rfl; have hcz69_1 : w68.cell? ⟨gb739, 1, none⟩ = some (.int .i64 0) := (blk_cell BK739.out 1).trans rfl; have hfz69_0 := blk_frozen BK739.out 0; have hfz69_1 := blk_frozen BK739.out 1) | ((with_reducible refine gate_callee (f := 25) rfl ?_); refine goesL_ (some 30) rfl rfl Try.func25 (by kernel_rfl) rfl #[.slice A0 l0.length c0] rfl (by (try simp only [List.map_toArray, List.map_cons, List.map_nil]); first | done | rfl | (simp only [List.length_drop, List.length_take]; rfl)) ?_; (with_reducible refine (line_Connected.calls k _ _ l0 t740 t741 _ ?side1 ?side2 A7.out).mono ?_); (case side1 => exact Kd.C_below HR0.out (by repeat (first | (with_reducible first | exact HB.out | apply below_alloc | apply pw_below_drewN | apply below_drew1 | refine below_set ?_ GE739.out) | exact HB.out))); (case side2 => exact HC0.out); rintro e w70 ⟨rfl, hb⟩; refine ⟨_, rfl, ?_⟩; have n0_ := Aside0.mk (blk_below (g := gb739) (o := .cells #[.int .i64 t736, .int .i64 t737] 37 (0, 0)) (by (with_reducible repeat (first | refine blk_drewN ?_ _ | refine blk_drew ?_ | refine blk_alloc ?_ _)); refine blk_put (cs := #[.int .i64 t736, .int .i64 0]) ?_ 1 _ rfl; (with_reducible repeat (first | refine blk_drewN ?_ _ | refine blk_drew ?_ | refine blk_alloc ?_ _)); refine blk_put (cs := #[.int .i64 0, .int .i64 0]) ?_ 0 _ rfl; (with_reducible repeat (first | refine blk_drewN ?_ _ | refine blk_drew ?_ | refine blk_alloc ?_ _)); exact BK739.out) hb); have n1_ := Aside0.mk (below_step (by repeat (first | (with_reducible first | exact HB.out | apply below_alloc | apply pw_below_drewN | apply below_drew1 | refine below_set ?_ GE739.out) | exact HB.out)) hb); clear BK739; clear HB; have BK739 := n0_; have HB := n1_; clear n0_ n1_; (try clear hb); (try clear hb2); (try clear hk); (try clear hi)) | (go_at_call 13; (with_reducible refine (l5alive.calls k  t742 _ A65.out).mono ?_); rintro e w71 ⟨rfl, hb⟩; have n0_ := Aside0.mk (blk_below (g := gb739) (o := .cells #[.int .i64 t736, .int .i64 t737] 37 (0, 0)) (by (with_reducible repeat (first | refine blk_drewN ?_ _ | refine blk_drew ?_ | refine blk_alloc ?_ _)); exact BK739.out) hb); have n1_ := Aside0.mk (below_step (by repeat (first | (with_reducible first | exact HB.out | apply below_alloc | apply pw_below_drewN | apply below_drew1 | refine below_set ?_ GE739.out) | exact HB.out)) hb); clear BK739; clear HB; have BK739 := n0_; have HB := n1_; clear n0_ n1_; (try clear hb); (try clear hb2); (try clear hk); (try clear hi)))
      go_ret
      exact ⟨by first | rfl | (simp [errW_none, errW_some] <;> rfl) | (simp [*, errW_none, errW_some] <;> rfl), by repeat (first | (with_reducible first | exact HB.out | apply below_alloc | apply pw_below_drewN | apply below_drew1 | refine below_set ?_ GE739.out) | exact HB.out)⟩
     ·
      rw [if_neg c64] at H
      have c64b0 : (t741 == 2) = false := beq_eq_false_iff_ne.mpr c64
      have c64b1 : (t741 != 2) = true := bne_iff_ne.mpr c64
      by_cases c72 : t735 = 10
      ·
       rw [if_pos c72] at H
       have c72b0 : (t735 == 10) = true := beq_iff_eq.mpr c72
       have c72b1 : (t735 != 10) = false := bne_eq_false_iff_eq.mpr c72
       clear c72
       by_cases c73 : t738 = 10
       ·
        rw [if_pos c73] at H
        have c73b0 : (t738 == 10) = true := beq_iff_eq.mpr c73
        have c73b1 : (t738 != 10) = false := bne_eq_false_iff_eq.mpr c73
        clear c73
        replace H := Option.bind_eq_some_iff.mp H
        obtain ⟨t743, A740, H⟩ := H
        replace H : (some t743) = some r := H
        have A74 := Aside0.mk A740
        clear A740
        obtain rfl := Option.some.inj H
        go_enter Try.func5, Try.ntmps5
        go_wp2_with (first | ((with_reducible refine gate_callee (f := 12) rfl ?_); refine goesL_ (some 14) rfl rfl Try.func12 (by kernel_rfl) rfl #[.slice A0 l0.length c0] rfl (by (try simp only [List.map_toArray, List.map_cons, List.map_nil]); first | done | rfl | (simp only [List.length_drop, List.length_take]; rfl)) ?_; (with_reducible refine (l5few.calls k _ _ l0 true _ ?side1 ?side2 A3.out).mono ?_); (case side1 => repeat (first | exact HR0.out | (with_reducible refine Kd.C_alloc ?_ _) | (with_reducible refine Kd.C_drewN ?_ _) | (with_reducible refine Kd.C_drew ?_))); (case side2 => exact HC0.out); rintro e w' ⟨rfl, ⟨nd, rfl⟩⟩; refine ⟨_, rfl, ?_⟩) | ((with_reducible refine gate_callee (f := 18) rfl ?_); refine goesL_ (some 19) rfl rfl Try.func18 (by kernel_rfl) rfl #[.slice A0 l0.length c0] rfl (by (try simp only [List.map_toArray, List.map_cons, List.map_nil]); first | done | rfl | (simp only [List.length_drop, List.length_take]; rfl)) ?_; (with_reducible refine (line_Regime.calls k _ _ l0 t733 t734 t735 _ ?side1 ?side2 A5.out).mono ?_); (case side1 => repeat (first | exact HR0.out | (with_reducible refine Kd.C_alloc ?_ _) | (with_reducible refine Kd.C_drewN ?_ _) | (with_reducible refine Kd.C_drew ?_))); (case side2 => exact HC0.out); rintro e w75 ⟨rfl, hb⟩; refine ⟨_, rfl, ?_⟩; have n0_ := Aside0.mk (below_step (by repeat (first | (with_reducible first | exact HB.out | apply below_alloc | apply pw_below_drewN | apply below_drew1) | exact HB.out)) hb); clear HB; have HB := n0_; clear n0_; (try clear hb); (try clear hb2); (try clear hk); (try clear hi)) | ((with_reducible refine gate_callee (f := 22) rfl ?_); refine goesL_ (some 25) rfl rfl Try.func22 (by kernel_rfl) rfl #[.slice A0 l0.length c0] rfl (by (try simp only [List.map_toArray, List.map_cons, List.map_nil]); first | done | rfl | (simp only [List.length_drop, List.length_take]; rfl)) ?_; (with_reducible refine (line_Speed.calls k _ _ l0 t736 t737 t738 _ ?side1 ?side2 A6.out).mono ?_); (case side1 => repeat (first | exact (Kd.C_below HR0.out HB.out) | (with_reducible refine Kd.C_alloc ?_ _) | (with_reducible refine Kd.C_drewN ?_ _) | (with_reducible refine Kd.C_drew ?_))); (case side2 => exact HC0.out); rintro e w76 ⟨rfl, hb⟩; refine ⟨_, rfl, ?_⟩; have n0_ := Aside0.mk (below_step (by repeat (first | (with_reducible first | exact HB.out | apply below_alloc | apply pw_below_drewN | apply below_drew1) | exact HB.out)) hb); clear HB; have HB := n0_; clear n0_; (try clear hb); (try clear hb2); (try clear hk); (try clear hi)) | ((with_reducible refine gate_dst (N := 8) rfl ?_); refine box_event ?hg (N := 8) ?hd (cs := #[.int .i64 0, .int .i64 0]) (t := 37) ?hr ?_; (case hd => rfl); (case hg => rfl); (case hr => first | (go_simp; done) | (go_simp; rfl)); intro gb739 hg w77 hbox hb; have n0_ := Aside0.mk (below_step (by repeat (first | (with_reducible first | exact HB.out | apply below_alloc | apply pw_below_drewN | apply below_drew1) | exact HB.out)) hb); have n1_ := Aside0.mk (hbox); have n2_ := Aside0.mk ((by rw [hg]; exact (below_size (by repeat (first | (with_reducible first | exact HB.out | apply below_alloc | apply pw_below_drewN | apply below_drew1) | exact HB.out))) : w.heap.size ≤ gb739)); have n3_ := Aside0.mk ((by rw [hg]; exact (below_size (by repeat (first | (with_reducible first | exact HB.out | apply below_alloc | apply pw_below_drewN | apply below_drew1) | exact HB.out))) : w.heap.size ≤ gb739)); clear HB; have HB := n0_; have BK739 := n1_; have GW739 := n2_; have GE739 := n3_; clear n0_ n1_ n2_ n3_; clear hb hbox hg; have hcz78_0 : w77.cell? ⟨gb739, 0, none⟩ = some (.int .i64 0) := (blk_cell BK739.out 0).trans rfl; have hcz78_1 : w77.cell? ⟨gb739, 1, none⟩ = some (.int .i64 0) := (blk_cell BK739.out 1).trans rfl; have hfz78_0 := blk_frozen BK739.out 0; have hfz78_1 := blk_frozen BK739.out 1) | ((with_reducible refine gate_callee (f := 25) rfl ?_); refine goesL_ (some 30) rfl rfl Try.func25 (by kernel_rfl) rfl #[.slice A0 l0.length c0] rfl (by (try simp only [List.map_toArray, List.map_cons, List.map_nil]); first | done | rfl | (simp only [List.length_drop, List.length_take]; rfl)) ?_; (with_reducible refine (line_Connected.calls k _ _ l0 t740 t741 _ ?side1 ?side2 A7.out).mono ?_); (case side1 => exact Kd.C_below HR0.out (by repeat (first | (with_reducible first | exact HB.out | apply below_alloc | apply pw_below_drewN | apply below_drew1 | refine below_set ?_ GE739.out) | exact HB.out))); (case side2 => exact HC0.out); rintro e w79 ⟨rfl, hb⟩; refine ⟨_, rfl, ?_⟩; have n0_ := Aside0.mk (blk_below (g := gb739) (o := .cells #[.int .i64 t736, .int .i64 t737] 37 (0, 0)) (by (with_reducible repeat (first | refine blk_drewN ?_ _ | refine blk_drew ?_ | refine blk_alloc ?_ _)); refine blk_put (cs := #[.int .i64 t736, .int .i64 0]) ?_ 1 _ rfl; (with_reducible repeat (first | refine blk_drewN ?_ _ | refine blk_drew ?_ | refine blk_alloc ?_ _)); refine blk_put (cs := #[.int .i64 0, .int .i64 0]) ?_ 0 _ rfl; (with_reducible repeat (first | refine blk_drewN ?_ _ | refine blk_drew ?_ | refine blk_alloc ?_ _)); exact BK739.out) hb); have n1_ := Aside0.mk (below_step (by repeat (first | (with_reducible first | exact HB.out | apply below_alloc | apply pw_below_drewN | apply below_drew1 | refine below_set ?_ GE739.out) | exact HB.out)) hb); clear BK739; clear HB; have BK739 := n0_; have HB := n1_; clear n0_ n1_; (try clear hb); (try clear hb2); (try clear hk); (try clear hi)) | (go_at_call 13; (with_reducible refine (l5alive.calls k  t743 _ A74.out).mono ?_); rintro e w80 ⟨rfl, hb⟩; have n0_ := Aside0.mk (blk_below (g := gb739) (o := .cells #[.int .i64 t736, .int .i64 t737] 37 (0, 0)) (by (with_reducible repeat (first | refine blk_drewN ?_ _ | refine blk_drew ?_ | refine blk_alloc ?_ _)); exact BK739.out) hb); have n1_ := Aside0.mk (below_step (by repeat (first | (with_reducible first | exact HB.out | apply below_alloc | apply pw_below_drewN | apply below_drew1 | refine below_set ?_ GE739.out) | exact HB.out)) hb); clear BK739; clear HB; have BK739 := n0_; have HB := n1_; clear n0_ n1_; (try clear hb); (try clear hb2); (try clear hk); (try clear hi)))
        go_ret
        exact ⟨by first | rfl | (simp [errW_none, errW_some] <;> rfl) | (simp [*, errW_none, errW_some] <;> rfl), by repeat (first | (with_reducible first | exact HB.out | apply below_alloc | apply pw_below_drewN | apply below_drew1 | refine below_set ?_ GE739.out) | exact HB.out)⟩
       ·
        rw [if_neg c73] at H
        have c73b0 : (t738 == 10) = false := beq_eq_false_iff_ne.mpr c73
        have c73b1 : (t738 != 10) = true := bne_iff_ne.mpr c73
        by_cases c81 : t741 = 0
        ·
         rw [if_pos c81] at H
         have c81b0 : (t741 == 0) = true := beq_iff_eq.mpr c81
         have c81b1 : (t741 != 0) = false := bne_eq_false_iff_eq.mpr c81
         clear c81
         by_cases c82 : t740 = true
         ·
          subst c82
          have H1 : (some false) = some r := by rw [if_pos rfl] at H; exact H
          clear H
          have H := H1
          clear H1
          exact absurd (H.trans (congrArg some hr_.out)) (by simp)
         ·
          replace c82 := Bool.eq_false_iff.mpr c82
          subst c82
          have H1 : ((l5alive.f k).bind fun t744 => (some t744)) = some r := by rw [if_neg (show ¬ (false = true) by decide)] at H; exact H
          clear H
          have H := H1
          clear H1
          replace H := Option.bind_eq_some_iff.mp H
          obtain ⟨t744, A880, H⟩ := H
          replace H : (some t744) = some r := H
          have A88 := Aside0.mk A880
          clear A880
          obtain rfl := Option.some.inj H
          go_enter Try.func5, Try.ntmps5
          go_wp2_with (first | ((with_reducible refine gate_callee (f := 12) rfl ?_); refine goesL_ (some 14) rfl rfl Try.func12 (by kernel_rfl) rfl #[.slice A0 l0.length c0] rfl (by (try simp only [List.map_toArray, List.map_cons, List.map_nil]); first | done | rfl | (simp only [List.length_drop, List.length_take]; rfl)) ?_; (with_reducible refine (l5few.calls k _ _ l0 true _ ?side1 ?side2 A3.out).mono ?_); (case side1 => repeat (first | exact HR0.out | (with_reducible refine Kd.C_alloc ?_ _) | (with_reducible refine Kd.C_drewN ?_ _) | (with_reducible refine Kd.C_drew ?_))); (case side2 => exact HC0.out); rintro e w' ⟨rfl, ⟨nd, rfl⟩⟩; refine ⟨_, rfl, ?_⟩) | ((with_reducible refine gate_callee (f := 18) rfl ?_); refine goesL_ (some 19) rfl rfl Try.func18 (by kernel_rfl) rfl #[.slice A0 l0.length c0] rfl (by (try simp only [List.map_toArray, List.map_cons, List.map_nil]); first | done | rfl | (simp only [List.length_drop, List.length_take]; rfl)) ?_; (with_reducible refine (line_Regime.calls k _ _ l0 t733 t734 t735 _ ?side1 ?side2 A5.out).mono ?_); (case side1 => repeat (first | exact HR0.out | (with_reducible refine Kd.C_alloc ?_ _) | (with_reducible refine Kd.C_drewN ?_ _) | (with_reducible refine Kd.C_drew ?_))); (case side2 => exact HC0.out); rintro e w89 ⟨rfl, hb⟩; refine ⟨_, rfl, ?_⟩; have n0_ := Aside0.mk (below_step (by repeat (first | (with_reducible first | exact HB.out | apply below_alloc | apply pw_below_drewN | apply below_drew1) | exact HB.out)) hb); clear HB; have HB := n0_; clear n0_; (try clear hb); (try clear hb2); (try clear hk); (try clear hi)) | ((with_reducible refine gate_callee (f := 22) rfl ?_); refine goesL_ (some 25) rfl rfl Try.func22 (by kernel_rfl) rfl #[.slice A0 l0.length c0] rfl (by (try simp only [List.map_toArray, List.map_cons, List.map_nil]); first | done | rfl | (simp only [List.length_drop, List.length_take]; rfl)) ?_; (with_reducible refine (line_Speed.calls k _ _ l0 t736 t737 t738 _ ?side1 ?side2 A6.out).mono ?_); (case side1 => repeat (first | exact (Kd.C_below HR0.out HB.out) | (with_reducible refine Kd.C_alloc ?_ _) | (with_reducible refine Kd.C_drewN ?_ _) | (with_reducible refine Kd.C_drew ?_))); (case side2 => exact HC0.out); rintro e w90 ⟨rfl, hb⟩; refine ⟨_, rfl, ?_⟩; have n0_ := Aside0.mk (below_step (by repeat (first | (with_reducible first | exact HB.out | apply below_alloc | apply pw_below_drewN | apply below_drew1) | exact HB.out)) hb); clear HB; have HB := n0_; clear n0_; (try clear hb); (try clear hb2); (try clear hk); (try clear hi)) | ((with_reducible refine gate_dst (N := 8) rfl ?_); refine box_event ?hg (N := 8) ?hd (cs := #[.int .i64 0, .int .i64 0]) (t := 37) ?hr ?_; (case hd => rfl); (case hg => rfl); (case hr => first | (go_simp; done) | (go_simp; rfl)); intro gb739 hg w91 hbox hb; have n0_ := Aside0.mk (below_step (by repeat (first | (with_reducible first | exact HB.out | apply below_alloc | apply pw_below_drewN | apply below_drew1) | exact HB.out)) hb); have n1_ := Aside0.mk (hbox); have n2_ := Aside0.mk ((by rw [hg]; exact (below_size (by repeat (first | (with_reducible first | exact HB.out | apply below_alloc | apply pw_below_drewN | apply below_drew1) | exact HB.out))) : w.heap.size ≤ gb739)); have n3_ := Aside0.mk ((by rw [hg]; exact (below_size (by repeat (first | (with_reducible first | exact HB.out | apply below_alloc | apply pw_below_drewN | apply below_drew1) | exact HB.out))) : w.heap.size ≤ gb739)); clear HB; have HB := n0_; have BK739 := n1_; have GW739 := n2_; have GE739 := n3_; clear n0_ n1_ n2_ n3_; clear hb hbox hg; have hcz92_0 : w91.cell? ⟨gb739, 0, none⟩ = some (.int .i64 0) := (blk_cell BK739.out 0).trans rfl; have hcz92_1 : w91.cell? ⟨gb739, 1, none⟩ = some (.int .i64 0) := (blk_cell BK739.out 1).trans rfl; have hfz92_0 := blk_frozen BK739.out 0; have hfz92_1 := blk_frozen BK739.out 1) | ((with_reducible refine gate_callee (f := 25) rfl ?_); refine goesL_ (some 30) rfl rfl Try.func25 (by kernel_rfl) rfl #[.slice A0 l0.length c0] rfl (by (try simp only [List.map_toArray, List.map_cons, List.map_nil]); first | done | rfl | (simp only [List.length_drop, List.length_take]; rfl)) ?_; (with_reducible refine (line_Connected.calls k _ _ l0 false t741 _ ?side1 ?side2 A7.out).mono ?_); (case side1 => exact Kd.C_below HR0.out (by repeat (first | (with_reducible first | exact HB.out | apply below_alloc | apply pw_below_drewN | apply below_drew1 | refine below_set ?_ GE739.out) | exact HB.out))); (case side2 => exact HC0.out); rintro e w93 ⟨rfl, hb⟩; refine ⟨_, rfl, ?_⟩; have n0_ := Aside0.mk (blk_below (g := gb739) (o := .cells #[.int .i64 t736, .int .i64 t737] 37 (0, 0)) (by (with_reducible repeat (first | refine blk_drewN ?_ _ | refine blk_drew ?_ | refine blk_alloc ?_ _)); refine blk_put (cs := #[.int .i64 t736, .int .i64 0]) ?_ 1 _ rfl; (with_reducible repeat (first | refine blk_drewN ?_ _ | refine blk_drew ?_ | refine blk_alloc ?_ _)); refine blk_put (cs := #[.int .i64 0, .int .i64 0]) ?_ 0 _ rfl; (with_reducible repeat (first | refine blk_drewN ?_ _ | refine blk_drew ?_ | refine blk_alloc ?_ _)); exact BK739.out) hb); have n1_ := Aside0.mk (below_step (by repeat (first | (with_reducible first | exact HB.out | apply below_alloc | apply pw_below_drewN | apply below_drew1 | refine below_set ?_ GE739.out) | exact HB.out)) hb); clear BK739; clear HB; have BK739 := n0_; have HB := n1_; clear n0_ n1_; (try clear hb); (try clear hb2); (try clear hk); (try clear hi)) | (go_at_call 13; (with_reducible refine (l5alive.calls k  t744 _ A88.out).mono ?_); rintro e w94 ⟨rfl, hb⟩; have n0_ := Aside0.mk (blk_below (g := gb739) (o := .cells #[.int .i64 t736, .int .i64 t737] 37 (0, 0)) (by (with_reducible repeat (first | refine blk_drewN ?_ _ | refine blk_drew ?_ | refine blk_alloc ?_ _)); exact BK739.out) hb); have n1_ := Aside0.mk (below_step (by repeat (first | (with_reducible first | exact HB.out | apply below_alloc | apply pw_below_drewN | apply below_drew1 | refine below_set ?_ GE739.out) | exact HB.out)) hb); clear BK739; clear HB; have BK739 := n0_; have HB := n1_; clear n0_ n1_; (try clear hb); (try clear hb2); (try clear hk); (try clear hi)))
          go_ret
          exact ⟨by first | rfl | (simp [errW_none, errW_some] <;> rfl) | (simp [*, errW_none, errW_some] <;> rfl), by repeat (first | (with_reducible first | exact HB.out | apply below_alloc | apply pw_below_drewN | apply below_drew1 | refine below_set ?_ GE739.out) | exact HB.out)⟩
        ·
         rw [if_neg c81] at H
         have c81b0 : (t741 == 0) = false := beq_eq_false_iff_ne.mpr c81
         have c81b1 : (t741 != 0) = true := bne_iff_ne.mpr c81
         exact absurd (H.trans (congrArg some hr_.out)) (by simp)
      ·
       rw [if_neg c72] at H
       have c72b0 : (t735 == 10) = false := beq_eq_false_iff_ne.mpr c72
       have c72b1 : (t735 != 10) = true := bne_iff_ne.mpr c72
       exact absurd (H.trans (congrArg some hr_.out)) (by simp)
    ·
     rw [if_neg c63] at H
     have c63b0 : (t738 == 2) = false := beq_eq_false_iff_ne.mpr c63
     have c63b1 : (t738 != 2) = true := bne_iff_ne.mpr c63
     by_cases c105 : t735 = 10
     ·
      rw [if_pos c105] at H
      have c105b0 : (t735 == 10) = true := beq_iff_eq.mpr c105
      have c105b1 : (t735 != 10) = false := bne_eq_false_iff_eq.mpr c105
      clear c105
      by_cases c106 : t738 = 10
      ·
       rw [if_pos c106] at H
       have c106b0 : (t738 == 10) = true := beq_iff_eq.mpr c106
       have c106b1 : (t738 != 10) = false := bne_eq_false_iff_eq.mpr c106
       clear c106
       replace H := Option.bind_eq_some_iff.mp H
       obtain ⟨t745, A1070, H⟩ := H
       replace H : (some t745) = some r := H
       have A107 := Aside0.mk A1070
       clear A1070
       obtain rfl := Option.some.inj H
       go_enter Try.func5, Try.ntmps5
       go_wp2_with (first | ((with_reducible refine gate_callee (f := 12) rfl ?_); refine goesL_ (some 14) rfl rfl Try.func12 (by kernel_rfl) rfl #[.slice A0 l0.length c0] rfl (by (try simp only [List.map_toArray, List.map_cons, List.map_nil]); first | done | rfl | (simp only [List.length_drop, List.length_take]; rfl)) ?_; (with_reducible refine (l5few.calls k _ _ l0 true _ ?side1 ?side2 A3.out).mono ?_); (case side1 => repeat (first | exact HR0.out | (with_reducible refine Kd.C_alloc ?_ _) | (with_reducible refine Kd.C_drewN ?_ _) | (with_reducible refine Kd.C_drew ?_))); (case side2 => exact HC0.out); rintro e w' ⟨rfl, ⟨nd, rfl⟩⟩; refine ⟨_, rfl, ?_⟩) | ((with_reducible refine gate_callee (f := 18) rfl ?_); refine goesL_ (some 19) rfl rfl Try.func18 (by kernel_rfl) rfl #[.slice A0 l0.length c0] rfl (by (try simp only [List.map_toArray, List.map_cons, List.map_nil]); first | done | rfl | (simp only [List.length_drop, List.length_take]; rfl)) ?_; (with_reducible refine (line_Regime.calls k _ _ l0 t733 t734 t735 _ ?side1 ?side2 A5.out).mono ?_); (case side1 => repeat (first | exact HR0.out | (with_reducible refine Kd.C_alloc ?_ _) | (with_reducible refine Kd.C_drewN ?_ _) | (with_reducible refine Kd.C_drew ?_))); (case side2 => exact HC0.out); rintro e w108 ⟨rfl, hb⟩; refine ⟨_, rfl, ?_⟩; have n0_ := Aside0.mk (below_step (by repeat (first | (with_reducible first | exact HB.out | apply below_alloc | apply pw_below_drewN | apply below_drew1) | exact HB.out)) hb); clear HB; have HB := n0_; clear n0_; (try clear hb); (try clear hb2); (try clear hk); (try clear hi)) | ((with_reducible refine gate_callee (f := 22) rfl ?_); refine goesL_ (some 25) rfl rfl Try.func22 (by kernel_rfl) rfl #[.slice A0 l0.length c0] rfl (by (try simp only [List.map_toArray, List.map_cons, List.map_nil]); first | done | rfl | (simp only [List.length_drop, List.length_take]; rfl)) ?_; (with_reducible refine (line_Speed.calls k _ _ l0 t736 t737 t738 _ ?side1 ?side2 A6.out).mono ?_); (case side1 => repeat (first | exact (Kd.C_below HR0.out HB.out) | (with_reducible refine Kd.C_alloc ?_ _) | (with_reducible refine Kd.C_drewN ?_ _) | (with_reducible refine Kd.C_drew ?_))); (case side2 => exact HC0.out); rintro e w109 ⟨rfl, hb⟩; refine ⟨_, rfl, ?_⟩; have n0_ := Aside0.mk (below_step (by repeat (first | (with_reducible first | exact HB.out | apply below_alloc | apply pw_below_drewN | apply below_drew1) | exact HB.out)) hb); clear HB; have HB := n0_; clear n0_; (try clear hb); (try clear hb2); (try clear hk); (try clear hi)) | ((with_reducible refine gate_dst (N := 8) rfl ?_); refine box_event ?hg (N := 8) ?hd (cs := #[.int .i64 0, .int .i64 0]) (t := 37) ?hr ?_; (case hd => rfl); (case hg => rfl); (case hr => first | (go_simp; done) | (go_simp; rfl)); intro gb739 hg w110 hbox hb; have n0_ := Aside0.mk (below_step (by repeat (first | (with_reducible first | exact HB.out | apply below_alloc | apply pw_below_drewN | apply below_drew1) | exact HB.out)) hb); have n1_ := Aside0.mk (hbox); have n2_ := Aside0.mk ((by rw [hg]; exact (below_size (by repeat (first | (with_reducible first | exact HB.out | apply below_alloc | apply pw_below_drewN | apply below_drew1) | exact HB.out))) : w.heap.size ≤ gb739)); have n3_ := Aside0.mk ((by rw [hg]; exact (below_size (by repeat (first | (with_reducible first | exact HB.out | apply below_alloc | apply pw_below_drewN | apply below_drew1) | exact HB.out))) : w.heap.size ≤ gb739)); clear HB; have HB := n0_; have BK739 := n1_; have GW739 := n2_; have GE739 := n3_; clear n0_ n1_ n2_ n3_; clear hb hbox hg; have hcz111_0 : w110.cell? ⟨gb739, 0, none⟩ = some (.int .i64 0) := (blk_cell BK739.out 0).trans rfl; have hcz111_1 : w110.cell? ⟨gb739, 1, none⟩ = some (.int .i64 0) := (blk_cell BK739.out 1).trans rfl; have hfz111_0 := blk_frozen BK739.out 0; have hfz111_1 := blk_frozen BK739.out 1) | ((with_reducible refine gate_callee (f := 25) rfl ?_); refine goesL_ (some 30) rfl rfl Try.func25 (by kernel_rfl) rfl #[.slice A0 l0.length c0] rfl (by (try simp only [List.map_toArray, List.map_cons, List.map_nil]); first | done | rfl | (simp only [List.length_drop, List.length_take]; rfl)) ?_; (with_reducible refine (line_Connected.calls k _ _ l0 t740 t741 _ ?side1 ?side2 A7.out).mono ?_); (case side1 => exact Kd.C_below HR0.out (by repeat (first | (with_reducible first | exact HB.out | apply below_alloc | apply pw_below_drewN | apply below_drew1 | refine below_set ?_ GE739.out) | exact HB.out))); (case side2 => exact HC0.out); rintro e w112 ⟨rfl, hb⟩; refine ⟨_, rfl, ?_⟩; have n0_ := Aside0.mk (blk_below (g := gb739) (o := .cells #[.int .i64 t736, .int .i64 t737] 37 (0, 0)) (by (with_reducible repeat (first | refine blk_drewN ?_ _ | refine blk_drew ?_ | refine blk_alloc ?_ _)); refine blk_put (cs := #[.int .i64 t736, .int .i64 0]) ?_ 1 _ rfl; (with_reducible repeat (first | refine blk_drewN ?_ _ | refine blk_drew ?_ | refine blk_alloc ?_ _)); refine blk_put (cs := #[.int .i64 0, .int .i64 0]) ?_ 0 _ rfl; (with_reducible repeat (first | refine blk_drewN ?_ _ | refine blk_drew ?_ | refine blk_alloc ?_ _)); exact BK739.out) hb); have n1_ := Aside0.mk (below_step (by repeat (first | (with_reducible first | exact HB.out | apply below_alloc | apply pw_below_drewN | apply below_drew1 | refine below_set ?_ GE739.out) | exact HB.out)) hb); clear BK739; clear HB; have BK739 := n0_; have HB := n1_; clear n0_ n1_; (try clear hb); (try clear hb2); (try clear hk); (try clear hi)) | (go_at_call 13; (with_reducible refine (l5alive.calls k  t745 _ A107.out).mono ?_); rintro e w113 ⟨rfl, hb⟩; have n0_ := Aside0.mk (blk_below (g := gb739) (o := .cells #[.int .i64 t736, .int .i64 t737] 37 (0, 0)) (by (with_reducible repeat (first | refine blk_drewN ?_ _ | refine blk_drew ?_ | refine blk_alloc ?_ _)); exact BK739.out) hb); have n1_ := Aside0.mk (below_step (by repeat (first | (with_reducible first | exact HB.out | apply below_alloc | apply pw_below_drewN | apply below_drew1 | refine below_set ?_ GE739.out) | exact HB.out)) hb); clear BK739; clear HB; have BK739 := n0_; have HB := n1_; clear n0_ n1_; (try clear hb); (try clear hb2); (try clear hk); (try clear hi)))
       go_ret
       exact ⟨by first | rfl | (simp [errW_none, errW_some] <;> rfl) | (simp [*, errW_none, errW_some] <;> rfl), by repeat (first | (with_reducible first | exact HB.out | apply below_alloc | apply pw_below_drewN | apply below_drew1 | refine below_set ?_ GE739.out) | exact HB.out)⟩
      ·
       rw [if_neg c106] at H
       have c106b0 : (t738 == 10) = false := beq_eq_false_iff_ne.mpr c106
       have c106b1 : (t738 != 10) = true := bne_iff_ne.mpr c106
       by_cases c114 : t741 = 0
       ·
        rw [if_pos c114] at H
        have c114b0 : (t741 == 0) = true := beq_iff_eq.mpr c114
        have c114b1 : (t741 != 0) = false := bne_eq_false_iff_eq.mpr c114
        clear c114
        by_cases c115 : t740 = true
        ·
         subst c115
         have H1 : (some false) = some r := by rw [if_pos rfl] at H; exact H
         clear H
         have H := H1
         clear H1
         exact absurd (H.trans (congrArg some hr_.out)) (by simp)
        ·
         replace c115 := Bool.eq_false_iff.mpr c115
         subst c115
         have H1 : ((l5alive.f k).bind fun t746 => (some t746)) = some r := by rw [if_neg (show ¬ (false = true) by decide)] at H; exact H
         clear H
         have H := H1
         clear H1
         replace H := Option.bind_eq_some_iff.mp H
         obtain ⟨t746, A1210, H⟩ := H
         replace H : (some t746) = some r := H
         have A121 := Aside0.mk A1210
         clear A1210
         obtain rfl := Option.some.inj H
         go_enter Try.func5, Try.ntmps5
         go_wp2_with (first | ((with_reducible refine gate_callee (f := 12) rfl ?_); refine goesL_ (some 14) rfl rfl Try.func12 (by kernel_rfl) rfl #[.slice A0 l0.length c0] rfl (by (try simp only [List.map_toArray, List.map_cons, List.map_nil]); first | done | rfl | (simp only [List.length_drop, List.length_take]; rfl)) ?_; (with_reducible refine (l5few.calls k _ _ l0 true _ ?side1 ?side2 A3.out).mono ?_); (case side1 => repeat (first | exact HR0.out | (with_reducible refine Kd.C_alloc ?_ _) | (with_reducible refine Kd.C_drewN ?_ _) | (with_reducible refine Kd.C_drew ?_))); (case side2 => exact HC0.out); rintro e w' ⟨rfl, ⟨nd, rfl⟩⟩; refine ⟨_, rfl, ?_⟩) | ((with_reducible refine gate_callee (f := 18) rfl ?_); refine goesL_ (some 19) rfl rfl Try.func18 (by kernel_rfl) rfl #[.slice A0 l0.length c0] rfl (by (try simp only [List.map_toArray, List.map_cons, List.map_nil]); first | done | rfl | (simp only [List.length_drop, List.length_take]; rfl)) ?_; (with_reducible refine (line_Regime.calls k _ _ l0 t733 t734 t735 _ ?side1 ?side2 A5.out).mono ?_); (case side1 => repeat (first | exact HR0.out | (with_reducible refine Kd.C_alloc ?_ _) | (with_reducible refine Kd.C_drewN ?_ _) | (with_reducible refine Kd.C_drew ?_))); (case side2 => exact HC0.out); rintro e w122 ⟨rfl, hb⟩; refine ⟨_, rfl, ?_⟩; have n0_ := Aside0.mk (below_step (by repeat (first | (with_reducible first | exact HB.out | apply below_alloc | apply pw_below_drewN | apply below_drew1) | exact HB.out)) hb); clear HB; have HB := n0_; clear n0_; (try clear hb); (try clear hb2); (try clear hk); (try clear hi)) | ((with_reducible refine gate_callee (f := 22) rfl ?_); refine goesL_ (some 25) rfl rfl Try.func22 (by kernel_rfl) rfl #[.slice A0 l0.length c0] rfl (by (try simp only [List.map_toArray, List.map_cons, List.map_nil]); first | done | rfl | (simp only [List.length_drop, List.length_take]; rfl)) ?_; (with_reducible refine (line_Speed.calls k _ _ l0 t736 t737 t738 _ ?side1 ?side2 A6.out).mono ?_); (case side1 => repeat (first | exact (Kd.C_below HR0.out HB.out) | (with_reducible refine Kd.C_alloc ?_ _) | (with_reducible refine Kd.C_drewN ?_ _) | (with_reducible refine Kd.C_drew ?_))); (case side2 => exact HC0.out); rintro e w123 ⟨rfl, hb⟩; refine ⟨_, rfl, ?_⟩; have n0_ := Aside0.mk (below_step (by repeat (first | (with_reducible first | exact HB.out | apply below_alloc | apply pw_below_drewN | apply below_drew1) | exact HB.out)) hb); clear HB; have HB := n0_; clear n0_; (try clear hb); (try clear hb2); (try clear hk); (try clear hi)) | ((with_reducible refine gate_dst (N := 8) rfl ?_); refine box_event ?hg (N := 8) ?hd (cs := #[.int .i64 0, .int .i64 0]) (t := 37) ?hr ?_; (case hd => rfl); (case hg => rfl); (case hr => first | (go_simp; done) | (go_simp; rfl)); intro gb739 hg w124 hbox hb; have n0_ := Aside0.mk (below_step (by repeat (first | (with_reducible first | exact HB.out | apply below_alloc | apply pw_below_drewN | apply below_drew1) | exact HB.out)) hb); have n1_ := Aside0.mk (hbox); have n2_ := Aside0.mk ((by rw [hg]; exact (below_size (by repeat (first | (with_reducible first | exact HB.out | apply below_alloc | apply pw_below_drewN | apply below_drew1) | exact HB.out))) : w.heap.size ≤ gb739)); have n3_ := Aside0.mk ((by rw [hg]; exact (below_size (by repeat (first | (with_reducible first | exact HB.out | apply below_alloc | apply pw_below_drewN | apply below_drew1) | exact HB.out))) : w.heap.size ≤ gb739)); clear HB; have HB := n0_; have BK739 := n1_; have GW739 := n2_; have GE739 := n3_; clear n0_ n1_ n2_ n3_; clear hb hbox hg; have hcz125_0 : w124.cell? ⟨gb739, 0, none⟩ = some (.int .i64 0) := (blk_cell BK739.out 0).trans rfl; have hcz125_1 : w124.cell? ⟨gb739, 1, none⟩ = some (.int .i64 0) := (blk_cell BK739.out 1).trans rfl; have hfz125_0 := blk_frozen BK739.out 0; have hfz125_1 := blk_frozen BK739.out 1) | ((with_reducible refine gate_callee (f := 25) rfl ?_); refine goesL_ (some 30) rfl rfl Try.func25 (by kernel_rfl) rfl #[.slice A0 l0.length c0] rfl (by (try simp only [List.map_toArray, List.map_cons, List.map_nil]); first | done | rfl | (simp only [List.length_drop, List.length_take]; rfl)) ?_; (with_reducible refine (line_Connected.calls k _ _ l0 false t741 _ ?side1 ?side2 A7.out).mono ?_); (case side1 => exact Kd.C_below HR0.out (by repeat (first | (with_reducible first | exact HB.out | apply below_alloc | apply pw_below_drewN | apply below_drew1 | refine below_set ?_ GE739.out) | exact HB.out))); (case side2 => exact HC0.out); rintro e w126 ⟨rfl, hb⟩; refine ⟨_, rfl, ?_⟩; have n0_ := Aside0.mk (blk_below (g := gb739) (o := .cells #[.int .i64 t736, .int .i64 t737] 37 (0, 0)) (by (with_reducible repeat (first | refine blk_drewN ?_ _ | refine blk_drew ?_ | refine blk_alloc ?_ _)); refine blk_put (cs := #[.int .i64 t736, .int .i64 0]) ?_ 1 _ rfl; (with_reducible repeat (first | refine blk_drewN ?_ _ | refine blk_drew ?_ | refine blk_alloc ?_ _)); refine blk_put (cs := #[.int .i64 0, .int .i64 0]) ?_ 0 _ rfl; (with_reducible repeat (first | refine blk_drewN ?_ _ | refine blk_drew ?_ | refine blk_alloc ?_ _)); exact BK739.out) hb); have n1_ := Aside0.mk (below_step (by repeat (first | (with_reducible first | exact HB.out | apply below_alloc | apply pw_below_drewN | apply below_drew1 | refine below_set ?_ GE739.out) | exact HB.out)) hb); clear BK739; clear HB; have BK739 := n0_; have HB := n1_; clear n0_ n1_; (try clear hb); (try clear hb2); (try clear hk); (try clear hi)) | (go_at_call 13; (with_reducible refine (l5alive.calls k  t746 _ A121.out).mono ?_); rintro e w127 ⟨rfl, hb⟩; have n0_ := Aside0.mk (blk_below (g := gb739) (o := .cells #[.int .i64 t736, .int .i64 t737] 37 (0, 0)) (by (with_reducible repeat (first | refine blk_drewN ?_ _ | refine blk_drew ?_ | refine blk_alloc ?_ _)); exact BK739.out) hb); have n1_ := Aside0.mk (below_step (by repeat (first | (with_reducible first | exact HB.out | apply below_alloc | apply pw_below_drewN | apply below_drew1 | refine below_set ?_ GE739.out) | exact HB.out)) hb); clear BK739; clear HB; have BK739 := n0_; have HB := n1_; clear n0_ n1_; (try clear hb); (try clear hb2); (try clear hk); (try clear hi)))
         go_ret
         exact ⟨by first | rfl | (simp [errW_none, errW_some] <;> rfl) | (simp [*, errW_none, errW_some] <;> rfl), by repeat (first | (with_reducible first | exact HB.out | apply below_alloc | apply pw_below_drewN | apply below_drew1 | refine below_set ?_ GE739.out) | exact HB.out)⟩
       ·
        rw [if_neg c114] at H
        have c114b0 : (t741 == 0) = false := beq_eq_false_iff_ne.mpr c114
        have c114b1 : (t741 != 0) = true := bne_iff_ne.mpr c114
        exact absurd (H.trans (congrArg some hr_.out)) (by simp)
     ·
      rw [if_neg c105] at H
      have c105b0 : (t735 == 10) = false := beq_eq_false_iff_ne.mpr c105
      have c105b1 : (t735 != 10) = true := bne_iff_ne.mpr c105
      exact absurd (H.trans (congrArg some hr_.out)) (by simp)
   ·
    rw [if_neg c62] at H
    have c62b0 : (t735 == 2) = false := beq_eq_false_iff_ne.mpr c62
    have c62b1 : (t735 != 2) = true := bne_iff_ne.mpr c62
    by_cases c138 : t735 = 10
    ·
     rw [if_pos c138] at H
     have c138b0 : (t735 == 10) = true := beq_iff_eq.mpr c138
     have c138b1 : (t735 != 10) = false := bne_eq_false_iff_eq.mpr c138
     clear c138
     by_cases c139 : t738 = 10
     ·
      rw [if_pos c139] at H
      have c139b0 : (t738 == 10) = true := beq_iff_eq.mpr c139
      have c139b1 : (t738 != 10) = false := bne_eq_false_iff_eq.mpr c139
      clear c139
      replace H := Option.bind_eq_some_iff.mp H
      obtain ⟨t747, A1400, H⟩ := H
      replace H : (some t747) = some r := H
      have A140 := Aside0.mk A1400
      clear A1400
      obtain rfl := Option.some.inj H
      go_enter Try.func5, Try.ntmps5
      go_wp2_with (first | ((with_reducible refine gate_callee (f := 12) rfl ?_); refine goesL_ (some 14) rfl rfl Try.func12 (by kernel_rfl) rfl #[.slice A0 l0.length c0] rfl (by (try simp only [List.map_toArray, List.map_cons, List.map_nil]); first | done | rfl | (simp only [List.length_drop, List.length_take]; rfl)) ?_; (with_reducible refine (l5few.calls k _ _ l0 true _ ?side1 ?side2 A3.out).mono ?_); (case side1 => repeat (first | exact HR0.out | (with_reducible refine Kd.C_alloc ?_ _) | (with_reducible refine Kd.C_drewN ?_ _) | (with_reducible refine Kd.C_drew ?_))); (case side2 => exact HC0.out); rintro e w' ⟨rfl, ⟨nd, rfl⟩⟩; refine ⟨_, rfl, ?_⟩) | ((with_reducible refine gate_callee (f := 18) rfl ?_); refine goesL_ (some 19) rfl rfl Try.func18 (by kernel_rfl) rfl #[.slice A0 l0.length c0] rfl (by (try simp only [List.map_toArray, List.map_cons, List.map_nil]); first | done | rfl | (simp only [List.length_drop, List.length_take]; rfl)) ?_; (with_reducible refine (line_Regime.calls k _ _ l0 t733 t734 t735 _ ?side1 ?side2 A5.out).mono ?_); (case side1 => repeat (first | exact HR0.out | (with_reducible refine Kd.C_alloc ?_ _) | (with_reducible refine Kd.C_drewN ?_ _) | (with_reducible refine Kd.C_drew ?_))); (case side2 => exact HC0.out); rintro e w141 ⟨rfl, hb⟩; refine ⟨_, rfl, ?_⟩; have n0_ := Aside0.mk (below_step (by repeat (first | (with_reducible first | exact HB.out | apply below_alloc | apply pw_below_drewN | apply below_drew1) | exact HB.out)) hb); clear HB; have HB := n0_; clear n0_; (try clear hb); (try clear hb2); (try clear hk); (try clear hi)) | ((with_reducible refine gate_callee (f := 22) rfl ?_); refine goesL_ (some 25) rfl rfl Try.func22 (by kernel_rfl) rfl #[.slice A0 l0.length c0] rfl (by (try simp only [List.map_toArray, List.map_cons, List.map_nil]); first | done | rfl | (simp only [List.length_drop, List.length_take]; rfl)) ?_; (with_reducible refine (line_Speed.calls k _ _ l0 t736 t737 t738 _ ?side1 ?side2 A6.out).mono ?_); (case side1 => repeat (first | exact (Kd.C_below HR0.out HB.out) | (with_reducible refine Kd.C_alloc ?_ _) | (with_reducible refine Kd.C_drewN ?_ _) | (with_reducible refine Kd.C_drew ?_))); (case side2 => exact HC0.out); rintro e w142 ⟨rfl, hb⟩; refine ⟨_, rfl, ?_⟩; have n0_ := Aside0.mk (below_step (by repeat (first | (with_reducible first | exact HB.out | apply below_alloc | apply pw_below_drewN | apply below_drew1) | exact HB.out)) hb); clear HB; have HB := n0_; clear n0_; (try clear hb); (try clear hb2); (try clear hk); (try clear hi)) | ((with_reducible refine gate_dst (N := 8) rfl ?_); refine box_event ?hg (N := 8) ?hd (cs := #[.int .i64 0, .int .i64 0]) (t := 37) ?hr ?_; (case hd => rfl); (case hg => rfl); (case hr => first | (go_simp; done) | (go_simp; rfl)); intro gb739 hg w143 hbox hb; have n0_ := Aside0.mk (below_step (by repeat (first | (with_reducible first | exact HB.out | apply below_alloc | apply pw_below_drewN | apply below_drew1) | exact HB.out)) hb); have n1_ := Aside0.mk (hbox); have n2_ := Aside0.mk ((by rw [hg]; exact (below_size (by repeat (first | (with_reducible first | exact HB.out | apply below_alloc | apply pw_below_drewN | apply below_drew1) | exact HB.out))) : w.heap.size ≤ gb739)); have n3_ := Aside0.mk ((by rw [hg]; exact (below_size (by repeat (first | (with_reducible first | exact HB.out | apply below_alloc | apply pw_below_drewN | apply below_drew1) | exact HB.out))) : w.heap.size ≤ gb739)); clear HB; have HB := n0_; have BK739 := n1_; have GW739 := n2_; have GE739 := n3_; clear n0_ n1_ n2_ n3_; clear hb hbox hg; have hcz144_0 : w143.cell? ⟨gb739, 0, none⟩ = some (.int .i64 0) := (blk_cell BK739.out 0).trans rfl; have hcz144_1 : w143.cell? ⟨gb739, 1, none⟩ = some (.int .i64 0) := (blk_cell BK739.out 1).trans rfl; have hfz144_0 := blk_frozen BK739.out 0; have hfz144_1 := blk_frozen BK739.out 1) | ((with_reducible refine gate_callee (f := 25) rfl ?_); refine goesL_ (some 30) rfl rfl Try.func25 (by kernel_rfl) rfl #[.slice A0 l0.length c0] rfl (by (try simp only [List.map_toArray, List.map_cons, List.map_nil]); first | done | rfl | (simp only [List.length_drop, List.length_take]; rfl)) ?_; (with_reducible refine (line_Connected.calls k _ _ l0 t740 t741 _ ?side1 ?side2 A7.out).mono ?_); (case side1 => exact Kd.C_below HR0.out (by repeat (first | (with_reducible first | exact HB.out | apply below_alloc | apply pw_below_drewN | apply below_drew1 | refine below_set ?_ GE739.out) | exact HB.out))); (case side2 => exact HC0.out); rintro e w145 ⟨rfl, hb⟩; refine ⟨_, rfl, ?_⟩; have n0_ := Aside0.mk (blk_below (g := gb739) (o := .cells #[.int .i64 t736, .int .i64 t737] 37 (0, 0)) (by (with_reducible repeat (first | refine blk_drewN ?_ _ | refine blk_drew ?_ | refine blk_alloc ?_ _)); refine blk_put (cs := #[.int .i64 t736, .int .i64 0]) ?_ 1 _ rfl; (with_reducible repeat (first | refine blk_drewN ?_ _ | refine blk_drew ?_ | refine blk_alloc ?_ _)); refine blk_put (cs := #[.int .i64 0, .int .i64 0]) ?_ 0 _ rfl; (with_reducible repeat (first | refine blk_drewN ?_ _ | refine blk_drew ?_ | refine blk_alloc ?_ _)); exact BK739.out) hb); have n1_ := Aside0.mk (below_step (by repeat (first | (with_reducible first | exact HB.out | apply below_alloc | apply pw_below_drewN | apply below_drew1 | refine below_set ?_ GE739.out) | exact HB.out)) hb); clear BK739; clear HB; have BK739 := n0_; have HB := n1_; clear n0_ n1_; (try clear hb); (try clear hb2); (try clear hk); (try clear hi)) | (go_at_call 13; (with_reducible refine (l5alive.calls k  t747 _ A140.out).mono ?_); rintro e w146 ⟨rfl, hb⟩; have n0_ := Aside0.mk (blk_below (g := gb739) (o := .cells #[.int .i64 t736, .int .i64 t737] 37 (0, 0)) (by (with_reducible repeat (first | refine blk_drewN ?_ _ | refine blk_drew ?_ | refine blk_alloc ?_ _)); exact BK739.out) hb); have n1_ := Aside0.mk (below_step (by repeat (first | (with_reducible first | exact HB.out | apply below_alloc | apply pw_below_drewN | apply below_drew1 | refine below_set ?_ GE739.out) | exact HB.out)) hb); clear BK739; clear HB; have BK739 := n0_; have HB := n1_; clear n0_ n1_; (try clear hb); (try clear hb2); (try clear hk); (try clear hi)))
      go_ret
      exact ⟨by first | rfl | (simp [errW_none, errW_some] <;> rfl) | (simp [*, errW_none, errW_some] <;> rfl), by repeat (first | (with_reducible first | exact HB.out | apply below_alloc | apply pw_below_drewN | apply below_drew1 | refine below_set ?_ GE739.out) | exact HB.out)⟩
     ·
      rw [if_neg c139] at H
      have c139b0 : (t738 == 10) = false := beq_eq_false_iff_ne.mpr c139
      have c139b1 : (t738 != 10) = true := bne_iff_ne.mpr c139
      by_cases c147 : t741 = 0
      ·
       rw [if_pos c147] at H
       have c147b0 : (t741 == 0) = true := beq_iff_eq.mpr c147
       have c147b1 : (t741 != 0) = false := bne_eq_false_iff_eq.mpr c147
       clear c147
       by_cases c148 : t740 = true
       ·
        subst c148
        have H1 : (some false) = some r := by rw [if_pos rfl] at H; exact H
        clear H
        have H := H1
        clear H1
        exact absurd (H.trans (congrArg some hr_.out)) (by simp)
       ·
        replace c148 := Bool.eq_false_iff.mpr c148
        subst c148
        have H1 : ((l5alive.f k).bind fun t748 => (some t748)) = some r := by rw [if_neg (show ¬ (false = true) by decide)] at H; exact H
        clear H
        have H := H1
        clear H1
        replace H := Option.bind_eq_some_iff.mp H
        obtain ⟨t748, A1540, H⟩ := H
        replace H : (some t748) = some r := H
        have A154 := Aside0.mk A1540
        clear A1540
        obtain rfl := Option.some.inj H
        go_enter Try.func5, Try.ntmps5
        go_wp2_with (first | ((with_reducible refine gate_callee (f := 12) rfl ?_); refine goesL_ (some 14) rfl rfl Try.func12 (by kernel_rfl) rfl #[.slice A0 l0.length c0] rfl (by (try simp only [List.map_toArray, List.map_cons, List.map_nil]); first | done | rfl | (simp only [List.length_drop, List.length_take]; rfl)) ?_; (with_reducible refine (l5few.calls k _ _ l0 true _ ?side1 ?side2 A3.out).mono ?_); (case side1 => repeat (first | exact HR0.out | (with_reducible refine Kd.C_alloc ?_ _) | (with_reducible refine Kd.C_drewN ?_ _) | (with_reducible refine Kd.C_drew ?_))); (case side2 => exact HC0.out); rintro e w' ⟨rfl, ⟨nd, rfl⟩⟩; refine ⟨_, rfl, ?_⟩) | ((with_reducible refine gate_callee (f := 18) rfl ?_); refine goesL_ (some 19) rfl rfl Try.func18 (by kernel_rfl) rfl #[.slice A0 l0.length c0] rfl (by (try simp only [List.map_toArray, List.map_cons, List.map_nil]); first | done | rfl | (simp only [List.length_drop, List.length_take]; rfl)) ?_; (with_reducible refine (line_Regime.calls k _ _ l0 t733 t734 t735 _ ?side1 ?side2 A5.out).mono ?_); (case side1 => repeat (first | exact HR0.out | (with_reducible refine Kd.C_alloc ?_ _) | (with_reducible refine Kd.C_drewN ?_ _) | (with_reducible refine Kd.C_drew ?_))); (case side2 => exact HC0.out); rintro e w155 ⟨rfl, hb⟩; refine ⟨_, rfl, ?_⟩; have n0_ := Aside0.mk (below_step (by repeat (first | (with_reducible first | exact HB.out | apply below_alloc | apply pw_below_drewN | apply below_drew1) | exact HB.out)) hb); clear HB; have HB := n0_; clear n0_; (try clear hb); (try clear hb2); (try clear hk); (try clear hi)) | ((with_reducible refine gate_callee (f := 22) rfl ?_); refine goesL_ (some 25) rfl rfl Try.func22 (by kernel_rfl) rfl #[.slice A0 l0.length c0] rfl (by (try simp only [List.map_toArray, List.map_cons, List.map_nil]); first | done | rfl | (simp only [List.length_drop, List.length_take]; rfl)) ?_; (with_reducible refine (line_Speed.calls k _ _ l0 t736 t737 t738 _ ?side1 ?side2 A6.out).mono ?_); (case side1 => repeat (first | exact (Kd.C_below HR0.out HB.out) | (with_reducible refine Kd.C_alloc ?_ _) | (with_reducible refine Kd.C_drewN ?_ _) | (with_reducible refine Kd.C_drew ?_))); (case side2 => exact HC0.out); rintro e w156 ⟨rfl, hb⟩; refine ⟨_, rfl, ?_⟩; have n0_ := Aside0.mk (below_step (by repeat (first | (with_reducible first | exact HB.out | apply below_alloc | apply pw_below_drewN | apply below_drew1) | exact HB.out)) hb); clear HB; have HB := n0_; clear n0_; (try clear hb); (try clear hb2); (try clear hk); (try clear hi)) | ((with_reducible refine gate_dst (N := 8) rfl ?_); refine box_event ?hg (N := 8) ?hd (cs := #[.int .i64 0, .int .i64 0]) (t := 37) ?hr ?_; (case hd => rfl); (case hg => rfl); (case hr => first | (go_simp; done) | (go_simp; rfl)); intro gb739 hg w157 hbox hb; have n0_ := Aside0.mk (below_step (by repeat (first | (with_reducible first | exact HB.out | apply below_alloc | apply pw_below_drewN | apply below_drew1) | exact HB.out)) hb); have n1_ := Aside0.mk (hbox); have n2_ := Aside0.mk ((by rw [hg]; exact (below_size (by repeat (first | (with_reducible first | exact HB.out | apply below_alloc | apply pw_below_drewN | apply below_drew1) | exact HB.out))) : w.heap.size ≤ gb739)); have n3_ := Aside0.mk ((by rw [hg]; exact (below_size (by repeat (first | (with_reducible first | exact HB.out | apply below_alloc | apply pw_below_drewN | apply below_drew1) | exact HB.out))) : w.heap.size ≤ gb739)); clear HB; have HB := n0_; have BK739 := n1_; have GW739 := n2_; have GE739 := n3_; clear n0_ n1_ n2_ n3_; clear hb hbox hg; have hcz158_0 : w157.cell? ⟨gb739, 0, none⟩ = some (.int .i64 0) := (blk_cell BK739.out 0).trans rfl; have hcz158_1 : w157.cell? ⟨gb739, 1, none⟩ = some (.int .i64 0) := (blk_cell BK739.out 1).trans rfl; have hfz158_0 := blk_frozen BK739.out 0; have hfz158_1 := blk_frozen BK739.out 1) | ((with_reducible refine gate_callee (f := 25) rfl ?_); refine goesL_ (some 30) rfl rfl Try.func25 (by kernel_rfl) rfl #[.slice A0 l0.length c0] rfl (by (try simp only [List.map_toArray, List.map_cons, List.map_nil]); first | done | rfl | (simp only [List.length_drop, List.length_take]; rfl)) ?_; (with_reducible refine (line_Connected.calls k _ _ l0 false t741 _ ?side1 ?side2 A7.out).mono ?_); (case side1 => exact Kd.C_below HR0.out (by repeat (first | (with_reducible first | exact HB.out | apply below_alloc | apply pw_below_drewN | apply below_drew1 | refine below_set ?_ GE739.out) | exact HB.out))); (case side2 => exact HC0.out); rintro e w159 ⟨rfl, hb⟩; refine ⟨_, rfl, ?_⟩; have n0_ := Aside0.mk (blk_below (g := gb739) (o := .cells #[.int .i64 t736, .int .i64 t737] 37 (0, 0)) (by (with_reducible repeat (first | refine blk_drewN ?_ _ | refine blk_drew ?_ | refine blk_alloc ?_ _)); refine blk_put (cs := #[.int .i64 t736, .int .i64 0]) ?_ 1 _ rfl; (with_reducible repeat (first | refine blk_drewN ?_ _ | refine blk_drew ?_ | refine blk_alloc ?_ _)); refine blk_put (cs := #[.int .i64 0, .int .i64 0]) ?_ 0 _ rfl; (with_reducible repeat (first | refine blk_drewN ?_ _ | refine blk_drew ?_ | refine blk_alloc ?_ _)); exact BK739.out) hb); have n1_ := Aside0.mk (below_step (by repeat (first | (with_reducible first | exact HB.out | apply below_alloc | apply pw_below_drewN | apply below_drew1 | refine below_set ?_ GE739.out) | exact HB.out)) hb); clear BK739; clear HB; have BK739 := n0_; have HB := n1_; clear n0_ n1_; (try clear hb); (try clear hb2); (try clear hk); (try clear hi)) | (go_at_call 13; (with_reducible refine (l5alive.calls k  t748 _ A154.out).mono ?_); rintro e w160 ⟨rfl, hb⟩; have n0_ := Aside0.mk (blk_below (g := gb739) (o := .cells #[.int .i64 t736, .int .i64 t737] 37 (0, 0)) (by (with_reducible repeat (first | refine blk_drewN ?_ _ | refine blk_drew ?_ | refine blk_alloc ?_ _)); exact BK739.out) hb); have n1_ := Aside0.mk (below_step (by repeat (first | (with_reducible first | exact HB.out | apply below_alloc | apply pw_below_drewN | apply below_drew1 | refine below_set ?_ GE739.out) | exact HB.out)) hb); clear BK739; clear HB; have BK739 := n0_; have HB := n1_; clear n0_ n1_; (try clear hb); (try clear hb2); (try clear hk); (try clear hi)))
        go_ret
        exact ⟨by first | rfl | (simp [errW_none, errW_some] <;> rfl) | (simp [*, errW_none, errW_some] <;> rfl), by repeat (first | (with_reducible first | exact HB.out | apply below_alloc | apply pw_below_drewN | apply below_drew1 | refine below_set ?_ GE739.out) | exact HB.out)⟩
      ·
       rw [if_neg c147] at H
       have c147b0 : (t741 == 0) = false := beq_eq_false_iff_ne.mpr c147
       have c147b1 : (t741 != 0) = true := bne_iff_ne.mpr c147
       exact absurd (H.trans (congrArg some hr_.out)) (by simp)
    ·
     rw [if_neg c138] at H
     have c138b0 : (t735 == 10) = false := beq_eq_false_iff_ne.mpr c138
     have c138b1 : (t735 != 10) = true := bne_iff_ne.mpr c138
     exact absurd (H.trans (congrArg some hr_.out)) (by simp)
 ·
  replace c4 := Bool.eq_false_iff.mpr c4
  subst c4
  have H1 : ((l5alive.f k).bind fun t732 => (some t732)) = some r := by rw [if_neg (show ¬ (false = true) by decide)] at H; exact H
  clear H
  have H := H1
  clear H1
  replace H := Option.bind_eq_some_iff.mp H
  obtain ⟨t732, A1710, H⟩ := H
  replace H : (some t732) = some r := H
  have A171 := Aside0.mk A1710
  clear A1710
  obtain rfl := Option.some.inj H
  go_enter Try.func5, Try.ntmps5
  go_wp2_with (first | ((with_reducible refine gate_callee (f := 12) rfl ?_); refine goesL_ (some 14) rfl rfl Try.func12 (by kernel_rfl) rfl #[.slice A0 l0.length c0] rfl (by (try simp only [List.map_toArray, List.map_cons, List.map_nil]); first | done | rfl | (simp only [List.length_drop, List.length_take]; rfl)) ?_; (with_reducible refine (l5few.calls k _ _ l0 false _ ?side1 ?side2 A3.out).mono ?_); (case side1 => repeat (first | exact HR0.out | (with_reducible refine Kd.C_alloc ?_ _) | (with_reducible refine Kd.C_drewN ?_ _) | (with_reducible refine Kd.C_drew ?_))); (case side2 => exact HC0.out); rintro e w' ⟨rfl, ⟨nd, rfl⟩⟩; refine ⟨_, rfl, ?_⟩) | ((with_reducible refine gate_callee (f := 13) rfl ?_); refine goesL_ (some 16) rfl rfl Try.func13 (by kernel_rfl) rfl #[] rfl (by (try simp only [List.map_toArray, List.map_cons, List.map_nil]); first | done | rfl | (simp only [List.length_drop, List.length_take]; rfl)) ?_; (with_reducible refine (l5alive.calls k  t732 _ A171.out).mono ?_); rintro e w172 ⟨rfl, hb⟩; refine ⟨_, rfl, ?_⟩; have n0_ := Aside0.mk (below_step (by repeat (first | (with_reducible first | exact HB.out | apply below_alloc | apply pw_below_drewN | apply below_drew1) | exact HB.out)) hb); clear HB; have HB := n0_; clear n0_; (try clear hb); (try clear hb2); (try clear hk); (try clear hi)))
  go_ret
  exact ⟨by first | rfl | (simp [errW_none, errW_some] <;> rfl) | (simp [*, errW_none, errW_some] <;> rfl), by repeat (first | (with_reducible first | exact HB.out | apply below_alloc | apply pw_below_drewN | apply below_drew1) | exact HB.out)⟩
end Go.Proofs.Ythjmfbmffchicaa.V
