/- Walks of functions that the law LineEigen reaches: each theorem '.calls' says that the call comes to what its printed plain function says, under the conditions that stand in it. -/
import Derived.Test.YthjmfbmffchicaaProg
import Derived.Below
import Derived.Deep.Draws
import Derived.Deep.AppendLies
import Derived.Maps.AppendAt
import Derived.OwnWalk
import Derived.Laws.BytesArg
import Derived.Laws.MakeOwn
import Derived.Laws.OwnMore
import Derived.Deep.OwnRows
import Derived.Tactics
import Derived.Lib.ConvBytes
import Derived.Laws.Slices
import Derived.WalkKit
import Derived.KernelRfl
import Derived.RowKit3
import Derived.Deep.LoopGhost
import Derived.Deep.QuietTactic
import Derived.BigQuiet
import Derived.WideLaws
import Derived.Deep.DeepCutAuto
import Derived.Deep.CutBlock
import Derived.Deep.RegionHeld3
import Derived.Laws.Rows
import Derived.Lib.AppendStr
import Derived.ArgAppend
import Derived.Laws.IdiomCopy
import Derived.OrdersHeld
import Derived.Laws.BitsLemmas
import Derived.RowKit
import Derived.Test.YthjmfbmffchicaaKEAid
import Derived.Test.YthjmfbmffchicaaKEWWords
import Derived.Test.YthjmfbmffchicaaKEWLast
import Derived.Test.YthjmfbmffchicaaKEWTab
import Derived.Test.YthjmfbmffchicaaKEWFour
import Derived.Test.YthjmfbmffchicaaKEWQPut
import Derived.Test.YthjmfbmffchicaaKEWApart
import Derived.Test.YthjmfbmffchicaaKEWArr
import Derived.Test.YthjmfbmffchicaaKEWZeros
import Derived.Test.YthjmfbmffchicaaKEWFoot
import Derived.Test.YthjmfbmffchicaaKEWKept
import Derived.Test.YthjmfbmffchicaaKEWShare
import Derived.Test.YthjmfbmffchicaaKEWN
import Derived.Test.YthjmfbmffchicaaKEWFootNe
import Derived.Test.YthjmfbmffchicaaKEWAt
import Derived.Test.YthjmfbmffchicaaKEWEqStruct
import Derived.Test.YthjmfbmffchicaaKEWRepsOne
import Derived.Test.YthjmfbmffchicaaKEWInv
import Derived.Test.YthjmfbmffchicaaKEWInvWords
import Derived.Test.YthjmfbmffchicaaKEWGuard
import Derived.Test.YthjmfbmffchicaaKEWNEv
import Derived.Test.YthjmfbmffchicaaKEWMore
import Derived.Test.YthjmfbmffchicaaKEf0
import Derived.Test.YthjmfbmffchicaaKEf2
import Derived.Test.YthjmfbmffchicaaKEf3
import Derived.Test.YthjmfbmffchicaaKEf4
namespace Go.Proofs.Ythjmfbmffchicaa.V
open Go.RowKit Go.Proofs.YthjmfbmffchicaaW.PrintWords Go.Proofs.YthjmfbmffchicaaW.PrintLast Go.Proofs.YthjmfbmffchicaaW.PrintMore
attribute [local go_sem] max2_int min2_int max_two min_two max_three min_three max_four min_four
set_option linter.unusedVariables false
set_option linter.unusedSimpArgs false
mutual
def llperiod.l0 : Nat → Int → List (List Int) → Int → Int → List (List Int) → Int → Int → List (List Int) → List (List Int) → Option (Int)
 | 0, _, _, _, _, _, _, _, _, _ => none
 | k + 1, x3, x4, x20, x21, x294000, x294001, x294002, x294003, x294004 => if x21 < x20 then (llperiod.l1 k x3 x4 x21 x20 x21 x3 0 x294000 x294001 x294002 x294003 x294004) else ((lgclosed.f k x4).bind fun t305 => (llperiod.l2 k x3 x4 t305 1 x3 0))
def llperiod.l1 : Nat → Int → List (List Int) → Int → Int → Int → Int → Int → List (List Int) → Int → Int → List (List Int) → List (List Int) → Option (Int)
 | 0, _, _, _, _, _, _, _, _, _, _, _, _ => none
 | k + 1, x3, x4, x5, x20, x21, x24, x25, x294000, x294001, x294002, x294003, x294004 => if x25 < x24 then ((llcritical.f x294000 x294001 x294002 x294003 x294004 x5 x25).bind fun t300 => (if t300 = true then (if 0 ≤ x5 then (if x5 < (x4.length : Int) then (if 0 ≤ x25 then (if x25 < ((rd_L1 x4 x5).length : Int) then (llperiod.l1 k x3 (x4.set (x5 : Int).toNat ((rd_L1 x4 x5).set (x25 : Int).toNat 0)) x5 x20 x21 x24 (wrap64 (x25 + 1)) x294000 x294001 x294002 x294003 x294004) else (none)) else (none)) else (none)) else (none)) else (llperiod.l1 k x3 x4 x5 x20 x21 x24 (wrap64 (x25 + 1)) x294000 x294001 x294002 x294003 x294004))) else (llperiod.l0 k x3 x4 x20 (wrap64 (x21 + 1)) x294000 x294001 x294002 x294003 x294004)
def llperiod.l2 : Nat → Int → List (List Int) → List (List Int) → Int → Int → Int → Option (Int)
 | 0, _, _, _, _, _, _ => none
 | k + 1, x3, x4, x7, x8, x42, x43 => if x43 < x42 then ((line_one_int.f k x3).bind fun t308 => (llperiod.l3 k x3 x4 x7 x8 x43 0 t308 1 x42 x43)) else (some x8)
def llperiod.l3 : Nat → Int → List (List Int) → List (List Int) → Int → Int → Int → List (List Int) → Int → Int → Int → Option (Int)
 | 0, _, _, _, _, _, _, _, _, _, _ => none
 | k + 1, x3, x4, x7, x8, x9, x10, x11, x12, x42, x43 => if x12 ≤ (wrap64 (2 * x3)) then ((lgtimes.f k x11 x4).bind fun t312 => (llperiod.l4 k x3 x4 x7 x8 x9 x10 t312 x12 x42 x43 x3 0)) else (if x10 > 0 then ((line_gcd.f k x8 x10).bind fun t311 => (if t311 = 0 then (none) else (llperiod.l2 k x3 x4 x7 (wrap64 ((wrap64 (Int.tdiv x8 t311)) * x10)) x42 (wrap64 (x43 + 1))))) else (llperiod.l2 k x3 x4 x7 x8 x42 (wrap64 (x43 + 1))))
def llperiod.l4 : Nat → Int → List (List Int) → List (List Int) → Int → Int → Int → List (List Int) → Int → Int → Int → Int → Int → Option (Int)
 | 0, _, _, _, _, _, _, _, _, _, _, _, _ => none
 | k + 1, x3, x4, x7, x8, x9, x10, x11, x12, x42, x43, x57, x58 => if x58 < x57 then (if 0 ≤ x58 then (if x58 < (x11.length : Int) then (if x58 < ((rd_L1 x11 x58).length : Int) then (if (rd (rd_L1 x11 x58) x58) = 0 then (if 0 ≤ x9 then (if x9 < (x7.length : Int) then (if x58 < ((rd_L1 x7 x9).length : Int) then (if (rd (rd_L1 x7 x9) x58) = 0 then (if x58 < (x7.length : Int) then (if x9 < ((rd_L1 x7 x58).length : Int) then (if (rd (rd_L1 x7 x58) x9) = 0 then ((line_gcd.f k x10 x12).bind fun t321 => (llperiod.l4 k x3 x4 x7 x8 x9 t321 x11 x12 x42 x43 x57 (wrap64 (x58 + 1)))) else (llperiod.l4 k x3 x4 x7 x8 x9 x10 x11 x12 x42 x43 x57 (wrap64 (x58 + 1)))) else (none)) else (none)) else (llperiod.l4 k x3 x4 x7 x8 x9 x10 x11 x12 x42 x43 x57 (wrap64 (x58 + 1)))) else (none)) else (none)) else (none)) else (llperiod.l4 k x3 x4 x7 x8 x9 x10 x11 x12 x42 x43 x57 (wrap64 (x58 + 1)))) else (none)) else (none)) else (none)) else (llperiod.l3 k x3 x4 x7 x8 x9 x10 x11 (wrap64 (x12 + 1)) x42 x43)
end
def llperiod.f (k : Nat) (l0_0 : List (List Int)) (a0_1 : Int) (a0_2 : Int) (l0_3 : List (List Int)) (l0_4 : List (List Int)) : Option (Int) := (line_one_int.f k (l0_3.length : Int)).bind fun t294 => ((lgmapped_period_1.f k t294 0).bind fun t297 => (llperiod.l0 k (l0_3.length : Int) t297 (l0_3.length : Int) 0 l0_0 a0_1 a0_2 l0_3 l0_4))
theorem llperiod.mono_l : ∀ k, (∀ y0 y1 y2 y3 y4 y5 y6 y7 y8, LeO (llperiod.l0 k y0 y1 y2 y3 y4 y5 y6 y7 y8) (llperiod.l0 (k + 1) y0 y1 y2 y3 y4 y5 y6 y7 y8)) ∧ (∀ y0 y1 y2 y3 y4 y5 y6 y7 y8 y9 y10 y11, LeO (llperiod.l1 k y0 y1 y2 y3 y4 y5 y6 y7 y8 y9 y10 y11) (llperiod.l1 (k + 1) y0 y1 y2 y3 y4 y5 y6 y7 y8 y9 y10 y11)) ∧ (∀ y0 y1 y2 y3 y4 y5, LeO (llperiod.l2 k y0 y1 y2 y3 y4 y5) (llperiod.l2 (k + 1) y0 y1 y2 y3 y4 y5)) ∧ (∀ y0 y1 y2 y3 y4 y5 y6 y7 y8 y9, LeO (llperiod.l3 k y0 y1 y2 y3 y4 y5 y6 y7 y8 y9) (llperiod.l3 (k + 1) y0 y1 y2 y3 y4 y5 y6 y7 y8 y9)) ∧ (∀ y0 y1 y2 y3 y4 y5 y6 y7 y8 y9 y10 y11, LeO (llperiod.l4 k y0 y1 y2 y3 y4 y5 y6 y7 y8 y9 y10 y11) (llperiod.l4 (k + 1) y0 y1 y2 y3 y4 y5 y6 y7 y8 y9 y10 y11))
 | 0 => ⟨fun _ _ _ _ _ _ _ _ _ r h => by simp [llperiod.l0] at h, fun _ _ _ _ _ _ _ _ _ _ _ _ r h => by simp [llperiod.l1] at h, fun _ _ _ _ _ _ r h => by simp [llperiod.l2] at h, fun _ _ _ _ _ _ _ _ _ _ r h => by simp [llperiod.l3] at h, fun _ _ _ _ _ _ _ _ _ _ _ _ r h => by simp [llperiod.l4] at h⟩
 | k + 1 => by
  obtain ⟨ih0, ih1, ih2, ih3, ih4⟩ := llperiod.mono_l k
  refine ⟨?_, ?_, ?_, ?_, ?_⟩
  ·
   intro y0 y1 y2 y3 y4 y5 y6 y7 y8
   unfold llperiod.l0
   repeat' first
   | (with_reducible exact LeO.refl _)
   | (with_reducible exact LeO.none _)
   | (with_reducible refine LeO.ite ?_ ?_)
   | (with_reducible refine LeO.bind ?_ (fun _ => ?_))
   | exact ih0 _ _ _ _ _ _ _ _ _
   | exact ih1 _ _ _ _ _ _ _ _ _ _ _ _
   | exact ih2 _ _ _ _ _ _
   | exact ih3 _ _ _ _ _ _ _ _ _ _
   | exact ih4 _ _ _ _ _ _ _ _ _ _ _ _
   | exact line_gcd.mono _ _ _
   | exact lgclosed.mono _ _
   | exact lgmapped_period_1.mono _ _ _
   | exact lgtimes.mono _ _ _
   | exact line_one_int.mono _ _
   | exact LeO.none _
   | refine LeO.ite ?_ ?_
   | refine LeO.bind ?_ (fun _ => ?_)
  ·
   intro y0 y1 y2 y3 y4 y5 y6 y7 y8 y9 y10 y11
   unfold llperiod.l1
   repeat' first
   | (with_reducible exact LeO.refl _)
   | (with_reducible exact LeO.none _)
   | (with_reducible refine LeO.ite ?_ ?_)
   | (with_reducible refine LeO.bind ?_ (fun _ => ?_))
   | exact ih0 _ _ _ _ _ _ _ _ _
   | exact ih1 _ _ _ _ _ _ _ _ _ _ _ _
   | exact ih2 _ _ _ _ _ _
   | exact ih3 _ _ _ _ _ _ _ _ _ _
   | exact ih4 _ _ _ _ _ _ _ _ _ _ _ _
   | exact line_gcd.mono _ _ _
   | exact lgclosed.mono _ _
   | exact lgmapped_period_1.mono _ _ _
   | exact lgtimes.mono _ _ _
   | exact line_one_int.mono _ _
   | exact LeO.none _
   | refine LeO.ite ?_ ?_
   | refine LeO.bind ?_ (fun _ => ?_)
  ·
   intro y0 y1 y2 y3 y4 y5
   unfold llperiod.l2
   repeat' first
   | (with_reducible exact LeO.refl _)
   | (with_reducible exact LeO.none _)
   | (with_reducible refine LeO.ite ?_ ?_)
   | (with_reducible refine LeO.bind ?_ (fun _ => ?_))
   | exact ih0 _ _ _ _ _ _ _ _ _
   | exact ih1 _ _ _ _ _ _ _ _ _ _ _ _
   | exact ih2 _ _ _ _ _ _
   | exact ih3 _ _ _ _ _ _ _ _ _ _
   | exact ih4 _ _ _ _ _ _ _ _ _ _ _ _
   | exact line_gcd.mono _ _ _
   | exact lgclosed.mono _ _
   | exact lgmapped_period_1.mono _ _ _
   | exact lgtimes.mono _ _ _
   | exact line_one_int.mono _ _
   | exact LeO.none _
   | refine LeO.ite ?_ ?_
   | refine LeO.bind ?_ (fun _ => ?_)
  ·
   intro y0 y1 y2 y3 y4 y5 y6 y7 y8 y9
   unfold llperiod.l3
   repeat' first
   | (with_reducible exact LeO.refl _)
   | (with_reducible exact LeO.none _)
   | (with_reducible refine LeO.ite ?_ ?_)
   | (with_reducible refine LeO.bind ?_ (fun _ => ?_))
   | exact ih0 _ _ _ _ _ _ _ _ _
   | exact ih1 _ _ _ _ _ _ _ _ _ _ _ _
   | exact ih2 _ _ _ _ _ _
   | exact ih3 _ _ _ _ _ _ _ _ _ _
   | exact ih4 _ _ _ _ _ _ _ _ _ _ _ _
   | exact line_gcd.mono _ _ _
   | exact lgclosed.mono _ _
   | exact lgmapped_period_1.mono _ _ _
   | exact lgtimes.mono _ _ _
   | exact line_one_int.mono _ _
   | exact LeO.none _
   | refine LeO.ite ?_ ?_
   | refine LeO.bind ?_ (fun _ => ?_)
  ·
   intro y0 y1 y2 y3 y4 y5 y6 y7 y8 y9 y10 y11
   unfold llperiod.l4
   repeat' first
   | (with_reducible exact LeO.refl _)
   | (with_reducible exact LeO.none _)
   | (with_reducible refine LeO.ite ?_ ?_)
   | (with_reducible refine LeO.bind ?_ (fun _ => ?_))
   | exact ih0 _ _ _ _ _ _ _ _ _
   | exact ih1 _ _ _ _ _ _ _ _ _ _ _ _
   | exact ih2 _ _ _ _ _ _
   | exact ih3 _ _ _ _ _ _ _ _ _ _
   | exact ih4 _ _ _ _ _ _ _ _ _ _ _ _
   | exact line_gcd.mono _ _ _
   | exact lgclosed.mono _ _
   | exact lgmapped_period_1.mono _ _ _
   | exact lgtimes.mono _ _ _
   | exact line_one_int.mono _ _
   | exact LeO.none _
   | refine LeO.ite ?_ ?_
   | refine LeO.bind ?_ (fun _ => ?_)
theorem llperiod.mono : ∀ a0 a1 a2 a3 a4 k, LeO (llperiod.f k a0 a1 a2 a3 a4) (llperiod.f (k + 1) a0 a1 a2 a3 a4) := by
 intro a0 a1 a2 a3 a4 k
 obtain ⟨ih0, ih1, ih2, ih3, ih4⟩ := llperiod.mono_l k
 unfold llperiod.f
 repeat' first
   | (with_reducible exact LeO.refl _)
   | (with_reducible exact LeO.none _)
   | (with_reducible refine LeO.ite ?_ ?_)
   | (with_reducible refine LeO.bind ?_ (fun _ => ?_))
   | exact ih0 _ _ _ _ _ _ _ _ _
   | exact ih1 _ _ _ _ _ _ _ _ _ _ _ _
   | exact ih2 _ _ _ _ _ _
   | exact ih3 _ _ _ _ _ _ _ _ _ _
   | exact ih4 _ _ _ _ _ _ _ _ _ _ _ _
   | exact line_gcd.mono _ _ _
   | exact lgclosed.mono _ _
   | exact lgmapped_period_1.mono _ _ _
   | exact lgtimes.mono _ _ _
   | exact line_one_int.mono _ _
   | exact LeO.none _
   | refine LeO.ite ?_ ?_
   | refine LeO.bind ?_ (fun _ => ?_)
set_option maxHeartbeats 8000000 in
set_option maxRecDepth 100000 in
theorem llperiod.calls (k : Nat) (A0_0 : Option Addr) (c0_0 : Nat) (l0_0 : List (List Int)) (a0_1 : Int) (a0_2 : Int) (A0_3 : Option Addr) (c0_3 : Nat) (l0_3 : List (List Int)) (A0_4 : Option Addr) (c0_4 : Nat) (l0_4 : List (List Int)) (r : Int) (w : World) (hr0_0 : Kd.C (Kd.slice 3 (Kd.int .i64)) w A0_0 l0_0.length l0_0) (hc0_0 : l0_0.length ≤ c0_0) (hr0_3 : Kd.C (Kd.slice 3 (Kd.int .i64)) w A0_3 l0_3.length l0_3) (hc0_3 : l0_3.length ≤ c0_3) (hr0_4 : Kd.C (Kd.slice 3 (Kd.int .i64)) w A0_4 l0_4.length l0_4) (hc0_4 : l0_4.length ≤ c0_4) (h : llperiod.f k l0_0 a0_1 a0_2 l0_3 l0_4 = some r) :
  Calls Try.prog 54 #[.agg #[.slice A0_0 l0_0.length c0_0, .int .i64 a0_1, .int .i64 a0_2, .slice A0_3 l0_3.length c0_3, .slice A0_4 l0_4.length c0_4]] w fun e w' => e = .returned (.int .i64 r) ∧ Below w.heap.size w w' := by
 have hu58 := Try.underlying58
 have HR0_0 := Aside0.mk hr0_0
 have HC0_0 := Aside0.mk hc0_0
 clear hr0_0 hc0_0
 have HR0_3 := Aside0.mk hr0_3
 have HC0_3 := Aside0.mk hc0_3
 clear hr0_3 hc0_3
 have HR0_4 := Aside0.mk hr0_4
 have HC0_4 := Aside0.mk hc0_4
 clear hr0_4 hc0_4
 have HB := Aside0.mk (Below.refl w.heap.size w)
 have H : ((line_one_int.f k (l0_3.length : Int)).bind fun t294 => ((lgmapped_period_1.f k t294 0).bind fun t297 => (llperiod.l0 k (l0_3.length : Int) t297 (l0_3.length : Int) 0 l0_0 a0_1 a0_2 l0_3 l0_4))) = some r := h
 clear h
 replace H := Option.bind_eq_some_iff.mp H
 obtain ⟨t294, A20, H⟩ := H
 replace H : ((lgmapped_period_1.f k t294 0).bind fun t297 => (llperiod.l0 k (l0_3.length : Int) t297 (l0_3.length : Int) 0 l0_0 a0_1 a0_2 l0_3 l0_4)) = some r := H
 have A2 := Aside0.mk A20
 clear A20
 replace H := Option.bind_eq_some_iff.mp H
 obtain ⟨t297, A30, H⟩ := H
 replace H : (llperiod.l0 k (l0_3.length : Int) t297 (l0_3.length : Int) 0 l0_0 a0_1 a0_2 l0_3 l0_4) = some r := H
 have A3 := Aside0.mk A30
 clear A30
 have H' := Aside0.mk H
 clear H
 go_enter Try.func54, Try.ntmps54
 go_wp2_with (first | ((with_reducible refine gate_dst (N := 1) rfl ?_); refine box_event ?hg (N := 1) ?hd (cs := #[.slice A0_0 l0_0.length c0_0, .int .i64 a0_1, .int .i64 a0_2, .slice A0_3 l0_3.length c0_3, .slice A0_4 l0_4.length c0_4]) (t := 58) ?hr ?_; (case hd => rfl); (case hg => rfl); (case hr => first | (go_simp; done) | (go_simp; rfl)); intro gb293 hg w4 hbox hb; have n0_ := Aside0.mk (below_step (by repeat (first | (with_reducible first | exact HB.out | apply below_alloc | apply pw_below_drewN | apply below_drew1) | exact HB.out)) hb); have n1_ := Aside0.mk (hbox); have n2_ := Aside0.mk ((by rw [hg]; exact (below_size (by repeat (first | (with_reducible first | exact HB.out | apply below_alloc | apply pw_below_drewN | apply below_drew1) | exact HB.out))) : w.heap.size ≤ gb293)); have n3_ := Aside0.mk ((by rw [hg]; exact (below_size (by repeat (first | (with_reducible first | exact HB.out | apply below_alloc | apply pw_below_drewN | apply below_drew1) | exact HB.out))) : w.heap.size ≤ gb293)); clear HB; have HB := n0_; have BK293 := n1_; have GW293 := n2_; have GE293 := n3_; clear n0_ n1_ n2_ n3_; clear hb hbox hg; have hcz5_0 : w4.cell? ⟨gb293, 0, none⟩ = some (.slice A0_0 l0_0.length c0_0) := (blk_cell BK293.out 0).trans rfl; have hcz5_1 : w4.cell? ⟨gb293, 1, none⟩ = some (.int .i64 a0_1) := (blk_cell BK293.out 1).trans rfl; have hcz5_2 : w4.cell? ⟨gb293, 2, none⟩ = some (.int .i64 a0_2) := (blk_cell BK293.out 2).trans rfl; have hcz5_3 : w4.cell? ⟨gb293, 3, none⟩ = some (.slice A0_3 l0_3.length c0_3) := (blk_cell BK293.out 3).trans rfl; have hcz5_4 : w4.cell? ⟨gb293, 4, none⟩ = some (.slice A0_4 l0_4.length c0_4) := (blk_cell BK293.out 4).trans rfl; have hfz5_0 := blk_frozen BK293.out 0; have hfz5_1 := blk_frozen BK293.out 1; have hfz5_2 := blk_frozen BK293.out 2; have hfz5_3 := blk_frozen BK293.out 3; have hfz5_4 := blk_frozen BK293.out 4) | ((with_reducible refine gate_callee (f := 87) rfl ?_); refine goesL_ (some 18) rfl rfl Try.func87 (by kernel_rfl) rfl #[.int .i64 (l0_3.length : Int)] rfl (by (try simp only [List.map_toArray, List.map_cons, List.map_nil]); first | done | rfl | (simp only [List.length_drop, List.length_take]; rfl)) ?_; (with_reducible refine (line_one_int.calls k (l0_3.length : Int) t294 _ A2.out).mono ?_); rintro e w6 ⟨v295, rfl, ho0, hb⟩; refine ⟨_, rfl, ?_⟩; have n0_ := Aside0.mk (Kd.S_lower ho0 (below_size (by repeat (first | (with_reducible first | exact HB.out | apply below_alloc | apply pw_below_drewN | apply below_drew1 | refine below_set ?_ GE293.out) | exact HB.out)))); have n1_ := Aside0.mk (blk_below (g := gb293) (o := .cells #[.slice A0_0 l0_0.length c0_0, .int .i64 a0_1, .int .i64 a0_2, .slice A0_3 l0_3.length c0_3, .slice A0_4 l0_4.length c0_4] 58 (0, 0)) (by (with_reducible repeat (first | refine blk_drewN ?_ _ | refine blk_drew ?_ | refine blk_alloc ?_ _)); exact BK293.out) hb); have n2_ := Aside0.mk (below_step (by repeat (first | (with_reducible first | exact HB.out | apply below_alloc | apply pw_below_drewN | apply below_drew1 | refine below_set ?_ GE293.out) | exact HB.out)) hb); clear BK293; clear HB; have HO296 := n0_; have BK293 := n1_; have HB := n2_; clear n0_ n1_ n2_; (try clear hb); (try clear hb2); (try clear hk); (try clear hi); (try clear ho0); obtain ⟨Ao7, co7, eo7⟩ := Kd.S_slice HO296.out; subst eo7) | ((with_reducible refine gate_callee (f := 57) rfl ?_); refine goesL_ (some 19) rfl rfl Try.func57 (by kernel_rfl) rfl #[.slice Ao7 t294.length co7, .func (.func 88) #[] #[]] rfl (by (try simp only [List.map_toArray, List.map_cons, List.map_nil]); first | done | rfl | (simp only [List.length_drop, List.length_take]; rfl)) ?_; (with_reducible refine (lgmapped_period_1.calls k _ _ t294 0 t297 _ ?side1 ?side2 A3.out).mono ?_); (case side1 => repeat (first | exact (Kd.S_reads' HO296.out).2.2 | (with_reducible refine Kd.C_alloc ?_ _) | (with_reducible refine Kd.C_drewN ?_ _) | (with_reducible refine Kd.C_drew ?_))); (case side2 => exact (Kd.S_reads' HO296.out).2.1); rintro e w8 ⟨v298, rfl, ho0, hb⟩; refine ⟨_, rfl, ?_⟩; have n0_ := Aside0.mk (Kd.S_elder' (by (with_reducible repeat (first | apply Kd.S_alloc | apply Kd.S_drewN | apply Kd.S_drew)); exact HO296.out) (Kd.S_base ho0) hb); have n1_ := Aside0.mk (Kd.S_lower (Kd.S_new' ho0 (Kd.S_lt (by (with_reducible repeat (first | apply Kd.S_alloc | apply Kd.S_drewN | apply Kd.S_drew)); exact HO296.out))) (below_size (by repeat (first | (with_reducible first | exact HB.out | apply below_alloc | apply pw_below_drewN | apply below_drew1 | refine below_set ?_ GE293.out) | exact HB.out)))); have n2_ := Aside0.mk (blk_below (g := gb293) (o := .cells #[.slice A0_0 l0_0.length c0_0, .int .i64 a0_1, .int .i64 a0_2, .slice A0_3 l0_3.length c0_3, .slice A0_4 l0_4.length c0_4] 58 (0, 0)) (by (with_reducible repeat (first | refine blk_drewN ?_ _ | refine blk_drew ?_ | refine blk_alloc ?_ _)); exact BK293.out) hb); have n3_ := Aside0.mk (below_step (by repeat (first | (with_reducible first | exact HB.out | apply below_alloc | apply pw_below_drewN | apply below_drew1 | refine below_set ?_ GE293.out) | exact HB.out)) hb); clear HO296; clear BK293; clear HB; have HO296 := n0_; have HO299 := n1_; have BK293 := n2_; have HB := n3_; clear n0_ n1_ n2_ n3_; (try clear hb); (try clear hb2); (try clear hk); (try clear hi); (try clear ho0)))
 go_loopg [21] k (fun kq v21 w' => ∃ (x4_1 : List (List Int)) (x21_1 : Int), v21 = .int .i64 x21_1 ∧ Aside0 (llperiod.l0 kq (l0_3.length : Int) x4_1 (l0_3.length : Int) x21_1 l0_0 a0_1 a0_2 l0_3 l0_4 = some r) ∧ Aside0 (kq ≤ k) ∧ Aside0 (Kd.S (Kd.slice 3 (Kd.int .i64)) 26 w' w.heap.size (fun _ => True) v298 x4_1) ∧ Aside0 (w'.heap[gb293]? = some (.cells #[(.slice A0_0 l0_0.length c0_0), .int .i64 a0_1, .int .i64 a0_2, (.slice A0_3 l0_3.length c0_3), (.slice A0_4 l0_4.length c0_4)] 58 (0, 0))) ∧ Aside0 (Below w.heap.size w w'))
 case atStart => exact ⟨(t297), (0), (by first | rfl | (simp; done) | (simp [*]; done)), H', ⟨Nat.le_refl _⟩, ⟨by (with_reducible repeat (first | apply Kd.S_alloc | apply Kd.S_drewN | apply Kd.S_drew)); exact Kd.S_mono HO299.out (fun _ hk => trivial)⟩, ⟨by (with_reducible repeat (first | refine blk_drewN ?_ _ | refine blk_drew ?_ | refine blk_alloc ?_ _)); exact BK293.out⟩, ⟨by repeat (first | (with_reducible first | exact HB.out | apply below_alloc | apply pw_below_drewN | apply below_drew1 | refine below_set ?_ GE293.out) | exact HB.out)⟩⟩
 case round =>
  clear H'
  try clear c1
  try clear p2
  try clear c5
  try clear c8
  try clear hcz5_0
  try clear hcz5_1
  try clear hcz5_2
  try clear hcz5_3
  obtain ⟨x4_1, x21_1, rfl, HA, HK1, HO_4, BK293, HB⟩ := hrel
  cases gk with
  | zero => exact absurd HA.out (by simp [llperiod.l0])
  | succ k1 =>
   have H := HA.out
   clear HA
   simp only [llperiod.l0] at H
   by_cases c9 : x21_1 < (l0_3.length : Int)
   ·
    rw [if_pos c9] at H
    have c9b0 : decide (x21_1 < (l0_3.length : Int)) = true := decide_eq_true c9
    clear c9
    have H' := Aside0.mk H
    clear H
    go_wp2
    go_loopg [25] k1 (fun kq v25 w' => ∃ (x4_2 : List (List Int)) (x25_2 : Int), v25 = .int .i64 x25_2 ∧ Aside0 (llperiod.l1 kq (l0_3.length : Int) x4_2 x21_1 (l0_3.length : Int) x21_1 (l0_3.length : Int) x25_2 l0_0 a0_1 a0_2 l0_3 l0_4 = some r) ∧ Aside0 (kq ≤ k1) ∧ Aside0 (Kd.S (Kd.slice 3 (Kd.int .i64)) 26 w' w.heap.size (fun _ => True) v298 x4_2) ∧ Aside0 (w'.heap[gb293]? = some (.cells #[(.slice A0_0 l0_0.length c0_0), .int .i64 a0_1, .int .i64 a0_2, (.slice A0_3 l0_3.length c0_3), (.slice A0_4 l0_4.length c0_4)] 58 (0, 0))) ∧ Aside0 (Below w.heap.size w w'))
    case atStart => exact ⟨(x4_1), (0), rfl, H', ⟨Nat.le_refl _⟩, ⟨by exact HO_4.out⟩, ⟨by (with_reducible repeat (first | refine blk_drewN ?_ _ | refine blk_drew ?_ | refine blk_alloc ?_ _)); exact BK293.out⟩, ⟨by repeat (first | (with_reducible first | exact HB.out | apply below_alloc | apply pw_below_drewN | apply below_drew1 | refine below_set ?_ GE293.out) | exact HB.out)⟩⟩
    case round =>
     clear H'
     obtain ⟨x4_2, x25_2, rfl, HA, HK2, HO_4, BK293, HB⟩ := hrel
     cases gk with
     | zero => exact absurd HA.out (by simp [llperiod.l1])
     | succ k2 =>
      have H := HA.out
      clear HA
      simp only [llperiod.l1] at H
      by_cases c10 : x25_2 < (l0_3.length : Int)
      ·
       rw [if_pos c10] at H
       have c10b0 : decide (x25_2 < (l0_3.length : Int)) = true := decide_eq_true c10
       clear c10
       replace H := Option.bind_eq_some_iff.mp H
       obtain ⟨t300, A110, H⟩ := H
       replace H : (if t300 = true then (if 0 ≤ x21_1 then (if x21_1 < (x4_2.length : Int) then (if 0 ≤ x25_2 then (if x25_2 < ((rd_L1 x4_2 x21_1).length : Int) then (llperiod.l1 k2 (l0_3.length : Int) (x4_2.set (x21_1 : Int).toNat ((rd_L1 x4_2 x21_1).set (x25_2 : Int).toNat 0)) x21_1 (l0_3.length : Int) x21_1 (l0_3.length : Int) (wrap64 (x25_2 + 1)) l0_0 a0_1 a0_2 l0_3 l0_4) else (none)) else (none)) else (none)) else (none)) else (llperiod.l1 k2 (l0_3.length : Int) x4_2 x21_1 (l0_3.length : Int) x21_1 (l0_3.length : Int) (wrap64 (x25_2 + 1)) l0_0 a0_1 a0_2 l0_3 l0_4)) = some r := H
       have A11 := Aside0.mk A110
       clear A110
       by_cases c12 : t300 = true
       ·
        subst c12
        have H1 : (if 0 ≤ x21_1 then (if x21_1 < (x4_2.length : Int) then (if 0 ≤ x25_2 then (if x25_2 < ((rd_L1 x4_2 x21_1).length : Int) then (llperiod.l1 k2 (l0_3.length : Int) (x4_2.set (x21_1 : Int).toNat ((rd_L1 x4_2 x21_1).set (x25_2 : Int).toNat 0)) x21_1 (l0_3.length : Int) x21_1 (l0_3.length : Int) (wrap64 (x25_2 + 1)) l0_0 a0_1 a0_2 l0_3 l0_4) else (none)) else (none)) else (none)) else (none)) = some r := by rw [if_pos rfl] at H; exact H
        clear H
        have H := H1
        clear H1
        by_cases c13 : 0 ≤ x21_1
        ·
         rw [if_pos c13] at H
         have c13b0 : decide (0 ≤ x21_1) = true := decide_eq_true c13
         clear c13
         by_cases c14 : x21_1 < (x4_2.length : Int)
         ·
          rw [if_pos c14] at H
          have c14b0 : decide (x21_1 < (x4_2.length : Int)) = true := decide_eq_true c14
          clear c14
          by_cases c15 : 0 ≤ x25_2
          ·
           rw [if_pos c15] at H
           have c15b0 : decide (0 ≤ x25_2) = true := decide_eq_true c15
           clear c15
           by_cases c16 : x25_2 < ((rd_L1 x4_2 x21_1).length : Int)
           ·
            rw [if_pos c16] at H
            have c16b0 : decide (x25_2 < ((rd_L1 x4_2 x21_1).length : Int)) = true := decide_eq_true c16
            clear c16
            obtain ⟨y302, hy302⟩ : ∃ y_ : List Int, y_ = ((rd_L1 x4_2 x21_1).set (x25_2 : Int).toNat 0) := ⟨_, rfl⟩
            replace H : (llperiod.l1 k2 (l0_3.length : Int) (x4_2.set (x21_1 : Int).toNat y302) x21_1 (l0_3.length : Int) x21_1 (l0_3.length : Int) (wrap64 (x25_2 + 1)) l0_0 a0_1 a0_2 l0_3 l0_4) = some r := by first | (rw [hy302]; with_reducible exact H) | (have H2_ := (Option.bind_some _ _).symm.trans H; rw [hy302]; with_reducible exact H2_) | (have H2_ := (Option.bind_some _ _).symm.trans H; with_reducible exact H2_) | with_reducible exact H | (rw [hy302]; exact H) | exact H
            have Ny302 := Aside0.mk hy302
            clear hy302
            obtain ⟨y304, hy304⟩ : ∃ y_ : List (List Int), y_ = (x4_2.set (x21_1 : Int).toNat y302) := ⟨_, rfl⟩
            replace H : (llperiod.l1 k2 (l0_3.length : Int) y304 x21_1 (l0_3.length : Int) x21_1 (l0_3.length : Int) (wrap64 (x25_2 + 1)) l0_0 a0_1 a0_2 l0_3 l0_4) = some r := by first | (rw [hy304]; with_reducible exact H) | (have H2_ := (Option.bind_some _ _).symm.trans H; rw [hy304]; with_reducible exact H2_) | (have H2_ := (Option.bind_some _ _).symm.trans H; with_reducible exact H2_) | with_reducible exact H | (rw [hy304]; exact H) | exact H
            have Ny304 := Aside0.mk hy304
            clear hy304
            have H' := Aside0.mk H
            clear H
            have hcz18_0 : wr.cell? ⟨gb293, 0, none⟩ = some (.slice A0_0 l0_0.length c0_0) := (blk_cell BK293.out 0).trans rfl
            have hcz18_1 : wr.cell? ⟨gb293, 1, none⟩ = some (.int .i64 a0_1) := (blk_cell BK293.out 1).trans rfl
            have hcz18_2 : wr.cell? ⟨gb293, 2, none⟩ = some (.int .i64 a0_2) := (blk_cell BK293.out 2).trans rfl
            have hcz18_3 : wr.cell? ⟨gb293, 3, none⟩ = some (.slice A0_3 l0_3.length c0_3) := (blk_cell BK293.out 3).trans rfl
            have hcz18_4 : wr.cell? ⟨gb293, 4, none⟩ = some (.slice A0_4 l0_4.length c0_4) := (blk_cell BK293.out 4).trans rfl
            have hfz18_0 := blk_frozen BK293.out 0
            have hfz18_1 := blk_frozen BK293.out 1
            have hfz18_2 := blk_frozen BK293.out 2
            have hfz18_3 := blk_frozen BK293.out 3
            have hfz18_4 := blk_frozen BK293.out 4
            go_wp2_with (first | ((with_reducible refine gate_callee (f := 84) rfl ?_); refine goesL_ (some 31) rfl rfl Try.func84 (by kernel_rfl) rfl #[.agg #[.slice A0_0 l0_0.length c0_0, .int .i64 a0_1, .int .i64 a0_2, .slice A0_3 l0_3.length c0_3, .slice A0_4 l0_4.length c0_4], .int .i64 x21_1, .int .i64 x25_2] rfl (by (try simp only [List.map_toArray, List.map_cons, List.map_nil]); first | done | rfl | (simp only [List.length_drop, List.length_take]; rfl)) ?_; (with_reducible refine (llcritical.calls _ _ l0_0 a0_1 a0_2 _ _ l0_3 _ _ l0_4 x21_1 x25_2 true _ ?side1 ?side2 ?side3 ?side4 ?side5 ?side6 A11.out).mono ?_); (case side1 => repeat (first | exact (Kd.C_below HR0_0.out HB.out) | (with_reducible refine Kd.C_alloc ?_ _) | (with_reducible refine Kd.C_drewN ?_ _) | (with_reducible refine Kd.C_drew ?_))); (case side2 => exact HC0_0.out); (case side3 => repeat (first | exact (Kd.C_below HR0_3.out HB.out) | (with_reducible refine Kd.C_alloc ?_ _) | (with_reducible refine Kd.C_drewN ?_ _) | (with_reducible refine Kd.C_drew ?_))); (case side4 => exact HC0_3.out); (case side5 => repeat (first | exact (Kd.C_below HR0_4.out HB.out) | (with_reducible refine Kd.C_alloc ?_ _) | (with_reducible refine Kd.C_drewN ?_ _) | (with_reducible refine Kd.C_drew ?_))); (case side6 => exact HC0_4.out); rintro e w19 ⟨rfl, hb⟩; refine ⟨_, rfl, ?_⟩; have n0_ := Aside0.mk (Kd.S_below (by (with_reducible repeat (first | apply Kd.S_alloc | apply Kd.S_drewN | apply Kd.S_drew)); exact HO_4.out) hb); have n1_ := Aside0.mk (blk_below (g := gb293) (o := .cells #[.slice A0_0 l0_0.length c0_0, .int .i64 a0_1, .int .i64 a0_2, .slice A0_3 l0_3.length c0_3, .slice A0_4 l0_4.length c0_4] 58 (0, 0)) (by (with_reducible repeat (first | refine blk_drewN ?_ _ | refine blk_drew ?_ | refine blk_alloc ?_ _)); exact BK293.out) hb); have n2_ := Aside0.mk (below_step (by repeat (first | (with_reducible first | exact HB.out | apply below_alloc | apply pw_below_drewN | apply below_drew1 | refine below_set ?_ GE293.out) | exact HB.out)) hb); clear HO_4; clear BK293; clear HB; have HO_4 := n0_; have BK293 := n1_; have HB := n2_; clear n0_ n1_ n2_; (try clear hb); (try clear hb2); (try clear hk); (try clear hi); obtain ⟨Ao20, co20, eo20⟩ := Kd.S_slice HO_4.out; subst eo20; have p301 : 0 ≤ (x21_1 : Int) := of_decide_eq_true (by first | (with_reducible assumption) | assumption); have q301 : x21_1 < (x4_2.length : Int) := of_decide_eq_true (by first | (with_reducible assumption) | assumption); obtain ⟨ad301, A301_0, c301_0, e301, hx301_0, hl301_0, hi301_0⟩ := at_L1 (Kd.S_reads' HO_4.out).2.2 x21_1 p301 q301; cases e301; obtain ⟨ce301, hce301, hMe301, hcc301⟩ := Kd.S_get HO_4.out [] x21_1 p301 (by first | exact q301 | exact of_decide_eq_true (by first | (with_reducible assumption) | assumption) | (have e_ := (Kd.S_reads' HO_4.out).1; omega)); obtain ⟨ve301_0, rfl, ge301_0⟩ := hMe301; have hv301_0 := hcc301 0 _ rfl; rw [Nat.add_zero, show ((Kd.slice 3 (Kd.int .i64))).sz = 1 from rfl, Nat.mul_one] at hv301_0; replace hv301_0 := Option.some.inj (hv301_0.symm.trans hx301_0); rw [hv301_0] at ge301_0; have HL301_0 := Aside0.mk (show Kd.R (Kd.int .i64) 3 _ _ _ _ (rd_L1 x4_2 x21_1) from ge301_0); clear hv301_0 ge301_0; have HX301_0 := Aside0.mk hx301_0; clear hcc301 hce301; have HR301_0 := Aside0.mk hi301_0; have HC301_0 := Aside0.mk hl301_0; clear hi301_0 hl301_0; replace p301 := eq_true p301; replace q301 := eq_true q301; have p17 : 0 ≤ (x25_2 : Int) := of_decide_eq_true (by first | (with_reducible assumption) | assumption); have q17 : (x25_2 : Int) < (((rd_L1 x4_2 x21_1).length : Int) : Int) := of_decide_eq_true (by first | (with_reducible assumption) | assumption); obtain ⟨go17, co17, eo17, gb17, gl17, cl17, HG17⟩ := Kd.R_form HL301_0.out (by omega); (first | cases eo17 | (injection eo17 with ea_ en_ ec_; (first | subst ea_ | (injection ea_ with ea_; subst ea_)); subst ec_; clear en_)); have GB17 := Aside0.mk gb17; have GG17 := Aside0.mk HG17; clear gb17 gl17 HG17; obtain ⟨hx17_0, hf17_0⟩ := Kd.R_celln 0 HL301_0.out (x25_2 : Int) p17 q17; replace p17 := eq_true p17; replace q17 := eq_true q17; have hq21 : (x21_1 : Int) < (x4_2.length : Int) := (by have h_ : (x21_1 : Int) < ((x4_2.length : Int) : Int) := of_decide_eq_true (by first | (with_reducible assumption) | assumption); first | exact h_ | (have e_ := (Kd.S_reads' HO_4.out).1; omega) | simpa only [List.length_set, List.length_set] using h_); obtain ⟨oki21, ce21, hcl21, hM21, hcc21, hok21, hbk21⟩ := Kd.S_borrow HO_4.out [] (x21_1 : Int) (of_decide_eq_true (by first | (with_reducible assumption) | assumption)) hq21; obtain ⟨ve21_0, rfl, ge21_0⟩ := hM21; have hv21 := hcc21 0 _ rfl; rw [Nat.add_zero, show ((Kd.slice 3 (Kd.int .i64))).sz = 1 from rfl, Nat.mul_one] at hv21; replace hv21 := Option.some.inj (hv21.symm.trans HX301_0.out); subst hv21; clear hcc21 hcl21; replace ge21_0 := (show Kd.R (Kd.int .i64) 3 _ _ _ _ (rd_L1 x4_2 x21_1) from ge21_0); have HP21 := Kd.R_putg ge21_0 (x25_2 : Int) 0) | ((with_reducible refine gate_store (t := 3) (p := 37) rfl ?_); refine store_event (t := 3) (p := 37) (v := ?vo_w22) (w1 := (w19.setCell ⟨go17, (x25_2 : Int).toNat, none⟩ (.int .i64 0))) ?hg ?ho ?hn ?hr ?_; (case ho => rfl); (case hg => rfl); (case hn => rfl); (case hr => first | (go_simp; done) | (go_simp; rfl)); intro w22 hw; have hg : w19.grownBy w22 (some go17) := (by rw [hw]; exact HP21.2); have hz_ : Kd.R (Kd.int .i64) 3 w22 w.heap.size oki21 (.slice (some ⟨go17, 0, none⟩) (rd_L1 x4_2 x21_1).length c301_0) y302 := (by rw [hw, Ny302.out]; exact HP21.1); have hp_ : Kd.S (Kd.slice 3 (Kd.int .i64)) 26 w22 w.heap.size (fun _ => True) (.slice (some ad301) x4_2.length co20) y304 := (by rw [Ny304.out]; exact hbk21 hg (fun k_ e_ => by injection e_ with e_; subst e_; exact ge21_0.1 _ rfl) (Kd.M_row hz_)); have hm_ := Kd.R_mono hz_ hok21; clear HP21 hbk21; have n0_ := Aside0.mk (hp_); have n1_ := Aside0.mk (blk_grown (g := gb293) (o := .cells #[.slice A0_0 l0_0.length c0_0, .int .i64 a0_1, .int .i64 a0_2, .slice A0_3 l0_3.length c0_3, .slice A0_4 l0_4.length c0_4] 58 (0, 0)) (by (with_reducible repeat (first | refine blk_drewN ?_ _ | refine blk_drew ?_ | refine blk_alloc ?_ _)); exact BK293.out) hg (Kd.R_ne HL301_0.out BK293.out (by decide))); have n2_ := Aside0.mk ((by rw [hw]; exact below_set (HB.out) GB17.out : Below w.heap.size w w22)); have n3_ := Aside0.mk (hm_); have n4_ := Aside0.mk ((Kd.R_reads' hm_).2.1); clear HO_4; clear BK293; clear HB; clear HL301_0; have HO_4 := n0_; have BK293 := n1_; have HB := n2_; have HL322 := n3_; have HC303 := n4_; clear n0_ n1_ n2_ n3_ n4_; clear hg hw hp_ hz_ hm_ hok21))
            go_roundg k2
            case measure => have := HK1.out; have := HK2.out; omega
            case rel => exact ⟨(y304), (wrap64 (x25_2 + 1)), (by first | rfl | (simp; done) | (simp [*]; done)), H', ⟨by have := HK1.out; have := HK2.out; omega⟩, ⟨by (with_reducible repeat (first | apply Kd.S_alloc | apply Kd.S_drewN | apply Kd.S_drew)); exact HO_4.out⟩, ⟨by (with_reducible repeat (first | refine blk_drewN ?_ _ | refine blk_drew ?_ | refine blk_alloc ?_ _)); exact BK293.out⟩, ⟨by repeat (first | (with_reducible first | exact HB.out | apply below_alloc | apply pw_below_drewN | apply below_drew1 | refine below_set ?_ GE293.out) | exact HB.out)⟩⟩
           ·
            rw [if_neg c16] at H
            exact absurd H (by simp)
          ·
           rw [if_neg c15] at H
           exact absurd H (by simp)
         ·
          rw [if_neg c14] at H
          exact absurd H (by simp)
        ·
         rw [if_neg c13] at H
         exact absurd H (by simp)
       ·
        replace c12 := Bool.eq_false_iff.mpr c12
        subst c12
        have H1 : (llperiod.l1 k2 (l0_3.length : Int) x4_2 x21_1 (l0_3.length : Int) x21_1 (l0_3.length : Int) (wrap64 (x25_2 + 1)) l0_0 a0_1 a0_2 l0_3 l0_4) = some r := by rw [if_neg (show ¬ (false = true) by decide)] at H; exact H
        clear H
        have H := H1
        clear H1
        have H' := Aside0.mk H
        clear H
        have hcz23_0 : wr.cell? ⟨gb293, 0, none⟩ = some (.slice A0_0 l0_0.length c0_0) := (blk_cell BK293.out 0).trans rfl
        have hcz23_1 : wr.cell? ⟨gb293, 1, none⟩ = some (.int .i64 a0_1) := (blk_cell BK293.out 1).trans rfl
        have hcz23_2 : wr.cell? ⟨gb293, 2, none⟩ = some (.int .i64 a0_2) := (blk_cell BK293.out 2).trans rfl
        have hcz23_3 : wr.cell? ⟨gb293, 3, none⟩ = some (.slice A0_3 l0_3.length c0_3) := (blk_cell BK293.out 3).trans rfl
        have hcz23_4 : wr.cell? ⟨gb293, 4, none⟩ = some (.slice A0_4 l0_4.length c0_4) := (blk_cell BK293.out 4).trans rfl
        have hfz23_0 := blk_frozen BK293.out 0
        have hfz23_1 := blk_frozen BK293.out 1
        have hfz23_2 := blk_frozen BK293.out 2
        have hfz23_3 := blk_frozen BK293.out 3
        have hfz23_4 := blk_frozen BK293.out 4
        go_wp2_with (first | ((with_reducible refine gate_callee (f := 84) rfl ?_); refine goesL_ (some 31) rfl rfl Try.func84 (by kernel_rfl) rfl #[.agg #[.slice A0_0 l0_0.length c0_0, .int .i64 a0_1, .int .i64 a0_2, .slice A0_3 l0_3.length c0_3, .slice A0_4 l0_4.length c0_4], .int .i64 x21_1, .int .i64 x25_2] rfl (by (try simp only [List.map_toArray, List.map_cons, List.map_nil]); first | done | rfl | (simp only [List.length_drop, List.length_take]; rfl)) ?_; (with_reducible refine (llcritical.calls _ _ l0_0 a0_1 a0_2 _ _ l0_3 _ _ l0_4 x21_1 x25_2 false _ ?side1 ?side2 ?side3 ?side4 ?side5 ?side6 A11.out).mono ?_); (case side1 => repeat (first | exact (Kd.C_below HR0_0.out HB.out) | (with_reducible refine Kd.C_alloc ?_ _) | (with_reducible refine Kd.C_drewN ?_ _) | (with_reducible refine Kd.C_drew ?_))); (case side2 => exact HC0_0.out); (case side3 => repeat (first | exact (Kd.C_below HR0_3.out HB.out) | (with_reducible refine Kd.C_alloc ?_ _) | (with_reducible refine Kd.C_drewN ?_ _) | (with_reducible refine Kd.C_drew ?_))); (case side4 => exact HC0_3.out); (case side5 => repeat (first | exact (Kd.C_below HR0_4.out HB.out) | (with_reducible refine Kd.C_alloc ?_ _) | (with_reducible refine Kd.C_drewN ?_ _) | (with_reducible refine Kd.C_drew ?_))); (case side6 => exact HC0_4.out); rintro e w24 ⟨rfl, hb⟩; refine ⟨_, rfl, ?_⟩; have n0_ := Aside0.mk (Kd.S_below (by (with_reducible repeat (first | apply Kd.S_alloc | apply Kd.S_drewN | apply Kd.S_drew)); exact HO_4.out) hb); have n1_ := Aside0.mk (blk_below (g := gb293) (o := .cells #[.slice A0_0 l0_0.length c0_0, .int .i64 a0_1, .int .i64 a0_2, .slice A0_3 l0_3.length c0_3, .slice A0_4 l0_4.length c0_4] 58 (0, 0)) (by (with_reducible repeat (first | refine blk_drewN ?_ _ | refine blk_drew ?_ | refine blk_alloc ?_ _)); exact BK293.out) hb); have n2_ := Aside0.mk (below_step (by repeat (first | (with_reducible first | exact HB.out | apply below_alloc | apply pw_below_drewN | apply below_drew1 | refine below_set ?_ GE293.out) | exact HB.out)) hb); clear HO_4; clear BK293; clear HB; have HO_4 := n0_; have BK293 := n1_; have HB := n2_; clear n0_ n1_ n2_; (try clear hb); (try clear hb2); (try clear hk); (try clear hi)))
        go_roundg k2
        case measure => have := HK1.out; have := HK2.out; omega
        case rel => exact ⟨(x4_2), (wrap64 (x25_2 + 1)), (by first | rfl | (simp; done) | (simp [*]; done)), H', ⟨by have := HK1.out; have := HK2.out; omega⟩, ⟨by (with_reducible repeat (first | apply Kd.S_alloc | apply Kd.S_drewN | apply Kd.S_drew)); exact HO_4.out⟩, ⟨by (with_reducible repeat (first | refine blk_drewN ?_ _ | refine blk_drew ?_ | refine blk_alloc ?_ _)); exact BK293.out⟩, ⟨by repeat (first | (with_reducible first | exact HB.out | apply below_alloc | apply pw_below_drewN | apply below_drew1 | refine below_set ?_ GE293.out) | exact HB.out)⟩⟩
      ·
       rw [if_neg c10] at H
       have c10b0 : decide (x25_2 < (l0_3.length : Int)) = false := decide_eq_false c10
       clear c10
       have H' := Aside0.mk H
       clear H
       go_wp2
       go_roundg k2
       case measure => have := HK1.out; have := HK2.out; omega
       case rel => exact ⟨(x4_2), (wrap64 (x21_1 + 1)), (by first | rfl | (simp; done) | (simp [*]; done)), H', ⟨by have := HK1.out; have := HK2.out; omega⟩, ⟨by (with_reducible repeat (first | apply Kd.S_alloc | apply Kd.S_drewN | apply Kd.S_drew)); exact HO_4.out⟩, ⟨by (with_reducible repeat (first | refine blk_drewN ?_ _ | refine blk_drew ?_ | refine blk_alloc ?_ _)); exact BK293.out⟩, ⟨by repeat (first | (with_reducible first | exact HB.out | apply below_alloc | apply pw_below_drewN | apply below_drew1 | refine below_set ?_ GE293.out) | exact HB.out)⟩⟩
   ·
    rw [if_neg c9] at H
    have c9b0 : decide (x21_1 < (l0_3.length : Int)) = false := decide_eq_false c9
    clear c9
    replace H := Option.bind_eq_some_iff.mp H
    obtain ⟨t305, A250, H⟩ := H
    replace H : (llperiod.l2 k1 (l0_3.length : Int) x4_1 t305 1 (l0_3.length : Int) 0) = some r := H
    have A25 := Aside0.mk A250
    clear A250
    have H' := Aside0.mk H
    clear H
    obtain ⟨Ao26, co26, eo26⟩ := Kd.S_slice HO_4.out
    subst eo26
    go_wp2_with (first | ((with_reducible refine gate_callee (f := 66) rfl ?_); refine goesL_ (some 41) rfl rfl Try.func66 (by kernel_rfl) rfl #[.slice Ao26 x4_1.length co26] rfl (by (try simp only [List.map_toArray, List.map_cons, List.map_nil]); first | done | rfl | (simp only [List.length_drop, List.length_take]; rfl)) ?_; (with_reducible refine (lgclosed.calls k1 _ _ x4_1 t305 _ ?side1 ?side2 A25.out).mono ?_); (case side1 => repeat (first | exact (Kd.S_reads' HO_4.out).2.2 | (with_reducible refine Kd.C_alloc ?_ _) | (with_reducible refine Kd.C_drewN ?_ _) | (with_reducible refine Kd.C_drew ?_))); (case side2 => exact (Kd.S_reads' HO_4.out).2.1); rintro e w27 ⟨v306, rfl, ho0, hb⟩; refine ⟨_, rfl, ?_⟩; have n0_ := Aside0.mk (Kd.S_elder' (by (with_reducible repeat (first | apply Kd.S_alloc | apply Kd.S_drewN | apply Kd.S_drew)); exact HO_4.out) (Kd.S_base ho0) hb); have n1_ := Aside0.mk (Kd.S_lower (Kd.S_new' ho0 (Kd.S_lt (by (with_reducible repeat (first | apply Kd.S_alloc | apply Kd.S_drewN | apply Kd.S_drew)); exact HO_4.out))) (below_size (by repeat (first | (with_reducible first | exact HB.out | apply below_alloc | apply pw_below_drewN | apply below_drew1 | refine below_set ?_ GE293.out) | exact HB.out)))); have n2_ := Aside0.mk (blk_below (g := gb293) (o := .cells #[.slice A0_0 l0_0.length c0_0, .int .i64 a0_1, .int .i64 a0_2, .slice A0_3 l0_3.length c0_3, .slice A0_4 l0_4.length c0_4] 58 (0, 0)) (by (with_reducible repeat (first | refine blk_drewN ?_ _ | refine blk_drew ?_ | refine blk_alloc ?_ _)); exact BK293.out) hb); have n3_ := Aside0.mk (below_step (by repeat (first | (with_reducible first | exact HB.out | apply below_alloc | apply pw_below_drewN | apply below_drew1 | refine below_set ?_ GE293.out) | exact HB.out)) hb); clear HO_4; clear BK293; clear HB; have HO_4 := n0_; have HO307 := n1_; have BK293 := n2_; have HB := n3_; clear n0_ n1_ n2_ n3_; (try clear hb); (try clear hb2); (try clear hk); (try clear hi); (try clear ho0)))
    go_loopg [8, 43] k1 (fun kq v8 v43 w' => ∃ (x8_2 : Int) (x43_2 : Int), v8 = .int .i64 x8_2 ∧ v43 = .int .i64 x43_2 ∧ Aside0 (llperiod.l2 kq (l0_3.length : Int) x4_1 t305 x8_2 (l0_3.length : Int) x43_2 = some r) ∧ Aside0 (kq ≤ k1) ∧ Aside0 (Kd.S (Kd.slice 3 (Kd.int .i64)) 26 w' w.heap.size (fun k_ => some k_ ≠ (v306 : Value).ownBlock) (.slice Ao26 x4_1.length co26) x4_1) ∧ Aside0 (Kd.S (Kd.slice 3 (Kd.int .i64)) 26 w' w.heap.size (fun k_ => some k_ ≠ ((.slice Ao26 x4_1.length co26) : Value).ownBlock) v306 t305) ∧ Aside0 (w'.heap[gb293]? = some (.cells #[(.slice A0_0 l0_0.length c0_0), .int .i64 a0_1, .int .i64 a0_2, (.slice A0_3 l0_3.length c0_3), (.slice A0_4 l0_4.length c0_4)] 58 (0, 0))) ∧ Aside0 (Below w.heap.size w w'))
    case atStart => exact ⟨(1), (0), (by first | rfl | (simp; done) | (simp [*]; done)), (by first | rfl | (simp; done) | (simp [*]; done)), H', ⟨Nat.le_refl _⟩, ⟨by (with_reducible repeat (first | apply Kd.S_alloc | apply Kd.S_drewN | apply Kd.S_drew)); exact Kd.S_mono HO_4.out (fun _ hk => hk.2)⟩, ⟨by (with_reducible repeat (first | apply Kd.S_alloc | apply Kd.S_drewN | apply Kd.S_drew)); exact Kd.S_mono HO307.out (fun _ hk => hk.2)⟩, ⟨by (with_reducible repeat (first | refine blk_drewN ?_ _ | refine blk_drew ?_ | refine blk_alloc ?_ _)); exact BK293.out⟩, ⟨by repeat (first | (with_reducible first | exact HB.out | apply below_alloc | apply pw_below_drewN | apply below_drew1 | refine below_set ?_ GE293.out) | exact HB.out)⟩⟩
    case round =>
     clear H'
     try clear c1
     try clear p1
     try clear q1
     try clear hx1
     try clear hf1
     try clear c2
     try clear p2
     try clear q2
     try clear c9
     try clear c9b0
     try clear c10
     try clear c10b0
     try clear c12
     try clear c13
     try clear c13b0
     try clear c14
     try clear c14b0
     try clear c15
     try clear c15b0
     try clear c16
     try clear c16b0
     try clear p17
     try clear q17
     try clear hx17
     try clear hf17
     try clear c21
     try clear q21
     try clear hcz18_0
     try clear hcz18_1
     try clear hcz18_2
     try clear hcz18_3
     try clear hcz18_4
     try clear hcz23_0
     try clear hcz23_1
     try clear hcz23_2
     try clear hcz23_3
     try clear hcz23_4
     try clear hcz5_0
     try clear hcz5_1
     try clear hcz5_2
     try clear hcz5_3
     try clear hcz5_4
     try clear hfz18_0
     try clear hfz18_1
     try clear hfz18_2
     try clear hfz18_3
     try clear hfz18_4
     try clear hfz23_0
     try clear hfz23_1
     try clear hfz23_2
     try clear hfz23_3
     try clear hfz23_4
     try clear hfz5_0
     try clear hfz5_1
     try clear hfz5_2
     try clear hfz5_3
     try clear hfz5_4
     try clear hx17_0
     try clear hx301_0
     try clear p17
     try clear p2
     try clear p301
     try clear q17
     try clear q301
     obtain ⟨x8_2, x43_2, rfl, rfl, HA, HK2, HO_4, HO_7, BK293, HB⟩ := hrel
     cases gk with
     | zero => exact absurd HA.out (by simp [llperiod.l2])
     | succ k2 =>
      have H := HA.out
      clear HA
      simp only [llperiod.l2] at H
      by_cases c28 : x43_2 < (l0_3.length : Int)
      ·
       rw [if_pos c28] at H
       have c28b0 : decide (x43_2 < (l0_3.length : Int)) = true := decide_eq_true c28
       clear c28
       replace H := Option.bind_eq_some_iff.mp H
       obtain ⟨t308, A290, H⟩ := H
       replace H : (llperiod.l3 k2 (l0_3.length : Int) x4_1 t305 x8_2 x43_2 0 t308 1 (l0_3.length : Int) x43_2) = some r := H
       have A29 := Aside0.mk A290
       clear A290
       have H' := Aside0.mk H
       clear H
       go_wp2_with (first | ((with_reducible refine gate_callee (f := 87) rfl ?_); refine goesL_ (some 47) rfl rfl Try.func87 (by kernel_rfl) rfl #[.int .i64 (l0_3.length : Int)] rfl (by (try simp only [List.map_toArray, List.map_cons, List.map_nil]); first | done | rfl | (simp only [List.length_drop, List.length_take]; rfl)) ?_; (with_reducible refine (line_one_int.calls k2 (l0_3.length : Int) t308 _ A29.out).mono ?_); rintro e w30 ⟨v309, rfl, ho0, hb⟩; refine ⟨_, rfl, ?_⟩; have n0_ := Aside0.mk (Kd.S_elder' (by (with_reducible repeat (first | apply Kd.S_alloc | apply Kd.S_drewN | apply Kd.S_drew)); exact HO_4.out) (Kd.S_base ho0) hb); have n1_ := Aside0.mk (Kd.S_elder' (by (with_reducible repeat (first | apply Kd.S_alloc | apply Kd.S_drewN | apply Kd.S_drew)); exact HO_7.out) (Kd.S_base ho0) hb); have n2_ := Aside0.mk (Kd.S_lower (Kd.S_new' (Kd.S_new' ho0 (Kd.S_lt (by (with_reducible repeat (first | apply Kd.S_alloc | apply Kd.S_drewN | apply Kd.S_drew)); exact HO_4.out))) (Kd.S_lt (by (with_reducible repeat (first | apply Kd.S_alloc | apply Kd.S_drewN | apply Kd.S_drew)); exact HO_7.out))) (below_size (by repeat (first | (with_reducible first | exact HB.out | apply below_alloc | apply pw_below_drewN | apply below_drew1 | refine below_set ?_ GE293.out) | exact HB.out)))); have n3_ := Aside0.mk (blk_below (g := gb293) (o := .cells #[.slice A0_0 l0_0.length c0_0, .int .i64 a0_1, .int .i64 a0_2, .slice A0_3 l0_3.length c0_3, .slice A0_4 l0_4.length c0_4] 58 (0, 0)) (by (with_reducible repeat (first | refine blk_drewN ?_ _ | refine blk_drew ?_ | refine blk_alloc ?_ _)); exact BK293.out) hb); have n4_ := Aside0.mk (below_step (by repeat (first | (with_reducible first | exact HB.out | apply below_alloc | apply pw_below_drewN | apply below_drew1 | refine below_set ?_ GE293.out) | exact HB.out)) hb); clear HO_4; clear HO_7; clear BK293; clear HB; have HO_4 := n0_; have HO_7 := n1_; have HO310 := n2_; have BK293 := n3_; have HB := n4_; clear n0_ n1_ n2_ n3_ n4_; (try clear hb); (try clear hb2); (try clear hk); (try clear hi); (try clear ho0)))
       go_loopg [10, 11, 12] k2 (fun kq v10 v11 v12 w' => ∃ (x10_3 : Int) (x11_3 : List (List Int)) (x12_3 : Int), v10 = .int .i64 x10_3 ∧ v12 = .int .i64 x12_3 ∧ Aside0 (llperiod.l3 kq (l0_3.length : Int) x4_1 t305 x8_2 x43_2 x10_3 x11_3 x12_3 (l0_3.length : Int) x43_2 = some r) ∧ Aside0 (kq ≤ k2) ∧ Aside0 (Kd.S (Kd.slice 3 (Kd.int .i64)) 26 w' w.heap.size (fun k_ => some k_ ≠ (v306 : Value).ownBlock ∧ some k_ ≠ (v11 : Value).ownBlock) (.slice Ao26 x4_1.length co26) x4_1) ∧ Aside0 (Kd.S (Kd.slice 3 (Kd.int .i64)) 26 w' w.heap.size (fun k_ => some k_ ≠ ((.slice Ao26 x4_1.length co26) : Value).ownBlock ∧ some k_ ≠ (v11 : Value).ownBlock) v306 t305) ∧ Aside0 (Kd.S (Kd.slice 3 (Kd.int .i64)) 26 w' w.heap.size (fun k_ => some k_ ≠ ((.slice Ao26 x4_1.length co26) : Value).ownBlock ∧ some k_ ≠ (v306 : Value).ownBlock) v11 x11_3) ∧ Aside0 (w'.heap[gb293]? = some (.cells #[(.slice A0_0 l0_0.length c0_0), .int .i64 a0_1, .int .i64 a0_2, (.slice A0_3 l0_3.length c0_3), (.slice A0_4 l0_4.length c0_4)] 58 (0, 0))) ∧ Aside0 (Below w.heap.size w w'))
       case atStart => exact ⟨(0), (t308), (1), (by first | rfl | (simp; done) | (simp [*]; done)), (by first | rfl | (simp; done) | (simp [*]; done)), H', ⟨Nat.le_refl _⟩, ⟨by (with_reducible repeat (first | apply Kd.S_alloc | apply Kd.S_drewN | apply Kd.S_drew)); exact HO_4.out⟩, ⟨by (with_reducible repeat (first | apply Kd.S_alloc | apply Kd.S_drewN | apply Kd.S_drew)); exact HO_7.out⟩, ⟨by (with_reducible repeat (first | apply Kd.S_alloc | apply Kd.S_drewN | apply Kd.S_drew)); exact Kd.S_mono HO310.out (fun _ hk => ⟨hk.1.2, hk.2⟩)⟩, ⟨by (with_reducible repeat (first | refine blk_drewN ?_ _ | refine blk_drew ?_ | refine blk_alloc ?_ _)); exact BK293.out⟩, ⟨by repeat (first | (with_reducible first | exact HB.out | apply below_alloc | apply pw_below_drewN | apply below_drew1 | refine below_set ?_ GE293.out) | exact HB.out)⟩⟩
       case round =>
        clear H'
        try clear c1
        try clear p1
        try clear q1
        try clear hx1
        try clear hf1
        try clear c2
        try clear p2
        try clear q2
        try clear c3
        try clear p3
        try clear q3
        try clear hx3
        try clear c5
        try clear c6
        try clear p6
        try clear c8
        try clear c9
        try clear c9b0
        try clear c10
        try clear c10b0
        try clear c12
        try clear c13
        try clear c13b0
        try clear c14
        try clear c14b0
        try clear c15
        try clear c15b0
        try clear c16
        try clear c16b0
        try clear p17
        try clear q17
        try clear hx17
        try clear hf17
        try clear c21
        try clear q21
        try clear c28
        try clear c28b0
        try clear c30
        try clear p30
        try clear q30
        try clear hx30
        try clear hcz18_0
        try clear hcz18_1
        try clear hcz18_2
        try clear hcz18_3
        try clear hcz18_4
        try clear hcz23_0
        try clear hcz23_1
        try clear hcz23_2
        try clear hcz23_3
        try clear hcz23_4
        try clear hcz5_0
        try clear hcz5_1
        try clear hcz5_2
        try clear hcz5_3
        try clear hcz5_4
        try clear hfz18_0
        try clear hfz18_1
        try clear hfz18_2
        try clear hfz18_3
        try clear hfz18_4
        try clear hfz23_0
        try clear hfz23_1
        try clear hfz23_2
        try clear hfz23_3
        try clear hfz23_4
        try clear hfz5_0
        try clear hfz5_1
        try clear hfz5_2
        try clear hfz5_3
        try clear hfz5_4
        try clear hx17_0
        try clear hx301_0
        try clear p1
        try clear p17
        try clear p2
        try clear p3
        try clear p301
        try clear p6
        try clear q1
        try clear q17
        try clear q2
        try clear q21
        try clear q3
        try clear q301
        obtain ⟨x10_3, x11_3, x12_3, rfl, rfl, HA, HK3, HO_4, HO_7, HO_11, BK293, HB⟩ := hrel
        cases gk with
        | zero => exact absurd HA.out (by simp [llperiod.l3])
        | succ k3 =>
         have H := HA.out
         clear HA
         simp only [llperiod.l3] at H
         by_cases c31 : x12_3 ≤ (wrap64 (2 * (l0_3.length : Int)))
         ·
          rw [if_pos c31] at H
          have c31b0 : decide (x12_3 ≤ (wrap64 (2 * (l0_3.length : Int)))) = true := decide_eq_true c31
          clear c31
          replace H := Option.bind_eq_some_iff.mp H
          obtain ⟨t312, A320, H⟩ := H
          replace H : (llperiod.l4 k3 (l0_3.length : Int) x4_1 t305 x8_2 x43_2 x10_3 t312 x12_3 (l0_3.length : Int) x43_2 (l0_3.length : Int) 0) = some r := H
          have A32 := Aside0.mk A320
          clear A320
          have H' := Aside0.mk H
          clear H
          obtain ⟨Ao33, co33, eo33⟩ := Kd.S_slice HO_11.out
          subst eo33
          go_wp2_with (first | ((with_reducible refine gate_callee (f := 59) rfl ?_); refine goesL_ (some 56) rfl rfl Try.func59 (by kernel_rfl) rfl #[.slice Ao33 x11_3.length co33, .slice Ao26 x4_1.length co26] rfl (by (try simp only [List.map_toArray, List.map_cons, List.map_nil]); first | done | rfl | (simp only [List.length_drop, List.length_take]; rfl)) ?_; (with_reducible refine (lgtimes.calls k3 _ _ x11_3 _ _ x4_1 t312 _ ?side1 ?side2 ?side3 ?side4 A32.out).mono ?_); (case side1 => repeat (first | exact (Kd.S_reads' HO_11.out).2.2 | (with_reducible refine Kd.C_alloc ?_ _) | (with_reducible refine Kd.C_drewN ?_ _) | (with_reducible refine Kd.C_drew ?_))); (case side2 => exact (Kd.S_reads' HO_11.out).2.1); (case side3 => repeat (first | exact (Kd.S_reads' HO_4.out).2.2 | (with_reducible refine Kd.C_alloc ?_ _) | (with_reducible refine Kd.C_drewN ?_ _) | (with_reducible refine Kd.C_drew ?_))); (case side4 => exact (Kd.S_reads' HO_4.out).2.1); rintro e w34 ⟨v313, rfl, ho0, hb⟩; refine ⟨_, rfl, ?_⟩; have n0_ := Aside0.mk (Kd.S_elder' (by (with_reducible repeat (first | apply Kd.S_alloc | apply Kd.S_drewN | apply Kd.S_drew)); exact HO_4.out) (Kd.S_base ho0) hb); have n1_ := Aside0.mk (Kd.S_elder' (by (with_reducible repeat (first | apply Kd.S_alloc | apply Kd.S_drewN | apply Kd.S_drew)); exact HO_7.out) (Kd.S_base ho0) hb); have n2_ := Aside0.mk (Kd.S_elder' (by (with_reducible repeat (first | apply Kd.S_alloc | apply Kd.S_drewN | apply Kd.S_drew)); exact HO_11.out) (Kd.S_base ho0) hb); have n3_ := Aside0.mk (Kd.S_lower (Kd.S_new' (Kd.S_new' (Kd.S_new' ho0 (Kd.S_lt (by (with_reducible repeat (first | apply Kd.S_alloc | apply Kd.S_drewN | apply Kd.S_drew)); exact HO_4.out))) (Kd.S_lt (by (with_reducible repeat (first | apply Kd.S_alloc | apply Kd.S_drewN | apply Kd.S_drew)); exact HO_7.out))) (Kd.S_lt (by (with_reducible repeat (first | apply Kd.S_alloc | apply Kd.S_drewN | apply Kd.S_drew)); exact HO_11.out))) (below_size (by repeat (first | (with_reducible first | exact HB.out | apply below_alloc | apply pw_below_drewN | apply below_drew1 | refine below_set ?_ GE293.out) | exact HB.out)))); have n4_ := Aside0.mk (blk_below (g := gb293) (o := .cells #[.slice A0_0 l0_0.length c0_0, .int .i64 a0_1, .int .i64 a0_2, .slice A0_3 l0_3.length c0_3, .slice A0_4 l0_4.length c0_4] 58 (0, 0)) (by (with_reducible repeat (first | refine blk_drewN ?_ _ | refine blk_drew ?_ | refine blk_alloc ?_ _)); exact BK293.out) hb); have n5_ := Aside0.mk (below_step (by repeat (first | (with_reducible first | exact HB.out | apply below_alloc | apply pw_below_drewN | apply below_drew1 | refine below_set ?_ GE293.out) | exact HB.out)) hb); clear HO_4; clear HO_7; clear HO_11; clear BK293; clear HB; have HO_4 := n0_; have HO_7 := n1_; have HO_11 := n2_; have HO314 := n3_; have BK293 := n4_; have HB := n5_; clear n0_ n1_ n2_ n3_ n4_ n5_; (try clear hb); (try clear hb2); (try clear hk); (try clear hi); (try clear ho0)))
          go_loopg [10, 58] k3 (fun kq v10 v58 w' => ∃ (x10_4 : Int) (x58_4 : Int), v10 = .int .i64 x10_4 ∧ v58 = .int .i64 x58_4 ∧ Aside0 (llperiod.l4 kq (l0_3.length : Int) x4_1 t305 x8_2 x43_2 x10_4 t312 x12_3 (l0_3.length : Int) x43_2 (l0_3.length : Int) x58_4 = some r) ∧ Aside0 (kq ≤ k3) ∧ Aside0 (Kd.S (Kd.slice 3 (Kd.int .i64)) 26 w' w.heap.size (fun k_ => some k_ ≠ (v306 : Value).ownBlock ∧ some k_ ≠ (v313 : Value).ownBlock) (.slice Ao26 x4_1.length co26) x4_1) ∧ Aside0 (Kd.S (Kd.slice 3 (Kd.int .i64)) 26 w' w.heap.size (fun k_ => some k_ ≠ ((.slice Ao26 x4_1.length co26) : Value).ownBlock ∧ some k_ ≠ (v313 : Value).ownBlock) v306 t305) ∧ Aside0 (Kd.S (Kd.slice 3 (Kd.int .i64)) 26 w' w.heap.size (fun k_ => some k_ ≠ ((.slice Ao26 x4_1.length co26) : Value).ownBlock ∧ some k_ ≠ (v306 : Value).ownBlock) v313 t312) ∧ Aside0 (w'.heap[gb293]? = some (.cells #[(.slice A0_0 l0_0.length c0_0), .int .i64 a0_1, .int .i64 a0_2, (.slice A0_3 l0_3.length c0_3), (.slice A0_4 l0_4.length c0_4)] 58 (0, 0))) ∧ Aside0 (Below w.heap.size w w'))
          case atStart => exact ⟨(x10_3), (0), (by first | rfl | (simp; done) | (simp [*]; done)), (by first | rfl | (simp; done) | (simp [*]; done)), H', ⟨Nat.le_refl _⟩, ⟨by (with_reducible repeat (first | apply Kd.S_alloc | apply Kd.S_drewN | apply Kd.S_drew)); exact Kd.S_mono HO_4.out (fun _ hk => ⟨hk.1.1, hk.2⟩)⟩, ⟨by (with_reducible repeat (first | apply Kd.S_alloc | apply Kd.S_drewN | apply Kd.S_drew)); exact Kd.S_mono HO_7.out (fun _ hk => ⟨hk.1.1, hk.2⟩)⟩, ⟨by (with_reducible repeat (first | apply Kd.S_alloc | apply Kd.S_drewN | apply Kd.S_drew)); exact Kd.S_mono HO314.out (fun _ hk => ⟨hk.1.1.2, hk.1.2⟩)⟩, ⟨by (with_reducible repeat (first | refine blk_drewN ?_ _ | refine blk_drew ?_ | refine blk_alloc ?_ _)); exact BK293.out⟩, ⟨by repeat (first | (with_reducible first | exact HB.out | apply below_alloc | apply pw_below_drewN | apply below_drew1 | refine below_set ?_ GE293.out) | exact HB.out)⟩⟩
          case round =>
           clear H'
           try clear c1
           try clear p1
           try clear q1
           try clear hx1
           try clear hf1
           try clear c2
           try clear p2
           try clear q2
           obtain ⟨x10_4, x58_4, rfl, rfl, HA, HK4, HO_4, HO_7, HO_11, BK293, HB⟩ := hrel
           cases gk with
           | zero => exact absurd HA.out (by simp [llperiod.l4])
           | succ k4 =>
            have H := HA.out
            clear HA
            simp only [llperiod.l4] at H
            by_cases c35 : x58_4 < (l0_3.length : Int)
            ·
             rw [if_pos c35] at H
             have c35b0 : decide (x58_4 < (l0_3.length : Int)) = true := decide_eq_true c35
             clear c35
             by_cases c36 : 0 ≤ x58_4
             ·
              rw [if_pos c36] at H
              have c36b0 : decide (0 ≤ x58_4) = true := decide_eq_true c36
              clear c36
              by_cases c37 : x58_4 < (t312.length : Int)
              ·
               rw [if_pos c37] at H
               have c37b0 : decide (x58_4 < (t312.length : Int)) = true := decide_eq_true c37
               clear c37
               by_cases c38 : x58_4 < ((rd_L1 t312 x58_4).length : Int)
               ·
                rw [if_pos c38] at H
                have c38b0 : decide (x58_4 < ((rd_L1 t312 x58_4).length : Int)) = true := decide_eq_true c38
                clear c38
                by_cases c39 : (rd (rd_L1 t312 x58_4) x58_4) = 0
                ·
                 rw [if_pos c39] at H
                 have c39b0 : ((rd (rd_L1 t312 x58_4) x58_4) == 0) = true := beq_iff_eq.mpr c39
                 have c39b1 : ((rd (rd_L1 t312 x58_4) x58_4) != 0) = false := bne_eq_false_iff_eq.mpr c39
                 clear c39
                 by_cases c40 : 0 ≤ x43_2
                 ·
                  rw [if_pos c40] at H
                  have c40b0 : decide (0 ≤ x43_2) = true := decide_eq_true c40
                  clear c40
                  by_cases c41 : x43_2 < (t305.length : Int)
                  ·
                   rw [if_pos c41] at H
                   have c41b0 : decide (x43_2 < (t305.length : Int)) = true := decide_eq_true c41
                   clear c41
                   by_cases c42 : x58_4 < ((rd_L1 t305 x43_2).length : Int)
                   ·
                    rw [if_pos c42] at H
                    have c42b0 : decide (x58_4 < ((rd_L1 t305 x43_2).length : Int)) = true := decide_eq_true c42
                    clear c42
                    by_cases c43 : (rd (rd_L1 t305 x43_2) x58_4) = 0
                    ·
                     rw [if_pos c43] at H
                     have c43b0 : ((rd (rd_L1 t305 x43_2) x58_4) == 0) = true := beq_iff_eq.mpr c43
                     have c43b1 : ((rd (rd_L1 t305 x43_2) x58_4) != 0) = false := bne_eq_false_iff_eq.mpr c43
                     clear c43
                     by_cases c44 : x58_4 < (t305.length : Int)
                     ·
                      rw [if_pos c44] at H
                      have c44b0 : decide (x58_4 < (t305.length : Int)) = true := decide_eq_true c44
                      clear c44
                      by_cases c45 : x43_2 < ((rd_L1 t305 x58_4).length : Int)
                      ·
                       rw [if_pos c45] at H
                       have c45b0 : decide (x43_2 < ((rd_L1 t305 x58_4).length : Int)) = true := decide_eq_true c45
                       clear c45
                       by_cases c46 : (rd (rd_L1 t305 x58_4) x43_2) = 0
                       ·
                        rw [if_pos c46] at H
                        have c46b0 : ((rd (rd_L1 t305 x58_4) x43_2) == 0) = true := beq_iff_eq.mpr c46
                        have c46b1 : ((rd (rd_L1 t305 x58_4) x43_2) != 0) = false := bne_eq_false_iff_eq.mpr c46
                        clear c46
                        replace H := Option.bind_eq_some_iff.mp H
                        obtain ⟨t321, A470, H⟩ := H
                        replace H : (llperiod.l4 k4 (l0_3.length : Int) x4_1 t305 x8_2 x43_2 t321 t312 x12_3 (l0_3.length : Int) x43_2 (l0_3.length : Int) (wrap64 (x58_4 + 1))) = some r := H
                        have A47 := Aside0.mk A470
                        clear A470
                        have H' := Aside0.mk H
                        clear H
                        obtain ⟨Ao48, co48, eo48⟩ := Kd.S_slice HO_11.out
                        subst eo48
                        have p315 : 0 ≤ (x58_4 : Int) := of_decide_eq_true (by first | (with_reducible assumption) | assumption)
                        have q315 : x58_4 < (t312.length : Int) := of_decide_eq_true (by first | (with_reducible assumption) | assumption)
                        obtain ⟨ad315, A315_0, c315_0, e315, hx315_0, hl315_0, hi315_0⟩ := at_L1 (Kd.S_reads' HO_11.out).2.2 x58_4 p315 q315
                        cases e315
                        obtain ⟨ce315, hce315, hMe315, hcc315⟩ := Kd.S_get HO_11.out [] x58_4 p315 (by first | exact q315 | exact of_decide_eq_true (by first | (with_reducible assumption) | assumption) | (have e_ := (Kd.S_reads' HO_11.out).1; omega))
                        obtain ⟨ve315_0, rfl, ge315_0⟩ := hMe315
                        have hv315_0 := hcc315 0 _ rfl
                        rw [Nat.add_zero, show ((Kd.slice 3 (Kd.int .i64))).sz = 1 from rfl, Nat.mul_one] at hv315_0
                        replace hv315_0 := Option.some.inj (hv315_0.symm.trans hx315_0)
                        rw [hv315_0] at ge315_0
                        have HL315_0 := Aside0.mk (show Kd.R (Kd.int .i64) 3 _ _ _ _ (rd_L1 t312 x58_4) from ge315_0)
                        clear hv315_0 ge315_0
                        have HX315_0 := Aside0.mk hx315_0
                        clear hcc315 hce315
                        have HR315_0 := Aside0.mk hi315_0
                        have HC315_0 := Aside0.mk hl315_0
                        clear hi315_0 hl315_0
                        replace p315 := eq_true p315
                        replace q315 := eq_true q315
                        have p316 : 0 ≤ (x58_4 : Int) := of_decide_eq_true (by first | (with_reducible assumption) | assumption)
                        have q316 : x58_4 < ((rd_L1 t312 x58_4).length : Int) := of_decide_eq_true (by first | (with_reducible assumption) | assumption)
                        obtain ⟨ad316, e316, hx316_0⟩ := Kd.at_int (by repeat (first | (with_reducible exact HR315_0.out) | (with_reducible refine Kd.C_alloc ?_ _) | (with_reducible refine Kd.C_drewN ?_ _) | (with_reducible refine Kd.C_drew ?_) | exact HR315_0.out)) x58_4 p316 q316
                        cases e316
                        replace p316 := eq_true p316
                        replace q316 := eq_true q316
                        obtain ⟨Ao49, co49, eo49⟩ := Kd.S_slice HO_7.out
                        subst eo49
                        have p317 : 0 ≤ (x43_2 : Int) := of_decide_eq_true (by first | (with_reducible assumption) | assumption)
                        have q317 : x43_2 < (t305.length : Int) := of_decide_eq_true (by first | (with_reducible assumption) | assumption)
                        obtain ⟨ad317, A317_0, c317_0, e317, hx317_0, hl317_0, hi317_0⟩ := at_L1 (Kd.S_reads' HO_7.out).2.2 x43_2 p317 q317
                        cases e317
                        obtain ⟨ce317, hce317, hMe317, hcc317⟩ := Kd.S_get HO_7.out [] x43_2 p317 (by first | exact q317 | exact of_decide_eq_true (by first | (with_reducible assumption) | assumption) | (have e_ := (Kd.S_reads' HO_7.out).1; omega))
                        obtain ⟨ve317_0, rfl, ge317_0⟩ := hMe317
                        have hv317_0 := hcc317 0 _ rfl
                        rw [Nat.add_zero, show ((Kd.slice 3 (Kd.int .i64))).sz = 1 from rfl, Nat.mul_one] at hv317_0
                        replace hv317_0 := Option.some.inj (hv317_0.symm.trans hx317_0)
                        rw [hv317_0] at ge317_0
                        have HL317_0 := Aside0.mk (show Kd.R (Kd.int .i64) 3 _ _ _ _ (rd_L1 t305 x43_2) from ge317_0)
                        clear hv317_0 ge317_0
                        have HX317_0 := Aside0.mk hx317_0
                        clear hcc317 hce317
                        have HR317_0 := Aside0.mk hi317_0
                        have HC317_0 := Aside0.mk hl317_0
                        clear hi317_0 hl317_0
                        replace p317 := eq_true p317
                        replace q317 := eq_true q317
                        have p318 : 0 ≤ (x58_4 : Int) := of_decide_eq_true (by first | (with_reducible assumption) | assumption)
                        have q318 : x58_4 < ((rd_L1 t305 x43_2).length : Int) := of_decide_eq_true (by first | (with_reducible assumption) | assumption)
                        obtain ⟨ad318, e318, hx318_0⟩ := Kd.at_int (by repeat (first | (with_reducible exact HR317_0.out) | (with_reducible refine Kd.C_alloc ?_ _) | (with_reducible refine Kd.C_drewN ?_ _) | (with_reducible refine Kd.C_drew ?_) | exact HR317_0.out)) x58_4 p318 q318
                        cases e318
                        replace p318 := eq_true p318
                        replace q318 := eq_true q318
                        have p319 : 0 ≤ (x58_4 : Int) := of_decide_eq_true (by first | (with_reducible assumption) | assumption)
                        have q319 : x58_4 < (t305.length : Int) := of_decide_eq_true (by first | (with_reducible assumption) | assumption)
                        obtain ⟨ad319, A319_0, c319_0, e319, hx319_0, hl319_0, hi319_0⟩ := at_L1 (Kd.S_reads' HO_7.out).2.2 x58_4 p319 q319
                        obtain rfl : ad317 = ad319 := (by injection e319)
                        obtain ⟨ce319, hce319, hMe319, hcc319⟩ := Kd.S_get HO_7.out [] x58_4 p319 (by first | exact q319 | exact of_decide_eq_true (by first | (with_reducible assumption) | assumption) | (have e_ := (Kd.S_reads' HO_7.out).1; omega))
                        obtain ⟨ve319_0, rfl, ge319_0⟩ := hMe319
                        have hv319_0 := hcc319 0 _ rfl
                        rw [Nat.add_zero, show ((Kd.slice 3 (Kd.int .i64))).sz = 1 from rfl, Nat.mul_one] at hv319_0
                        replace hv319_0 := Option.some.inj (hv319_0.symm.trans hx319_0)
                        rw [hv319_0] at ge319_0
                        have HL319_0 := Aside0.mk (show Kd.R (Kd.int .i64) 3 _ _ _ _ (rd_L1 t305 x58_4) from ge319_0)
                        clear hv319_0 ge319_0
                        have HX319_0 := Aside0.mk hx319_0
                        clear hcc319 hce319
                        have HR319_0 := Aside0.mk hi319_0
                        have HC319_0 := Aside0.mk hl319_0
                        clear hi319_0 hl319_0
                        replace p319 := eq_true p319
                        replace q319 := eq_true q319
                        have p320 : 0 ≤ (x43_2 : Int) := of_decide_eq_true (by first | (with_reducible assumption) | assumption)
                        have q320 : x43_2 < ((rd_L1 t305 x58_4).length : Int) := of_decide_eq_true (by first | (with_reducible assumption) | assumption)
                        obtain ⟨ad320, e320, hx320_0⟩ := Kd.at_int (by repeat (first | (with_reducible exact HR319_0.out) | (with_reducible refine Kd.C_alloc ?_ _) | (with_reducible refine Kd.C_drewN ?_ _) | (with_reducible refine Kd.C_drew ?_) | exact HR319_0.out)) x43_2 p320 q320
                        cases e320
                        replace p320 := eq_true p320
                        replace q320 := eq_true q320
                        go_wp2_with (first | ((with_reducible refine gate_callee (f := 89) rfl ?_); refine goesL_ (some 91) rfl rfl Try.func89 (by kernel_rfl) rfl #[.int .i64 x10_4, .int .i64 x12_3] rfl (by (try simp only [List.map_toArray, List.map_cons, List.map_nil]); first | done | rfl | (simp only [List.length_drop, List.length_take]; rfl)) ?_; (with_reducible refine (line_gcd.calls k4 x10_4 x12_3 t321 _ A47.out).mono ?_); rintro e w50 ⟨rfl, hb⟩; refine ⟨_, rfl, ?_⟩; have n0_ := Aside0.mk (Kd.S_below (by (with_reducible repeat (first | apply Kd.S_alloc | apply Kd.S_drewN | apply Kd.S_drew)); exact HO_4.out) hb); have n1_ := Aside0.mk (Kd.S_below (by (with_reducible repeat (first | apply Kd.S_alloc | apply Kd.S_drewN | apply Kd.S_drew)); exact HO_7.out) hb); have n2_ := Aside0.mk (Kd.S_below (by (with_reducible repeat (first | apply Kd.S_alloc | apply Kd.S_drewN | apply Kd.S_drew)); exact HO_11.out) hb); have n3_ := Aside0.mk (Kd.R_below (by (with_reducible repeat (first | apply Kd.R_alloc | apply Kd.R_drewN | apply Kd.R_drew)); exact HL315_0.out) hb); have n4_ := Aside0.mk (Kd.R_below (by (with_reducible repeat (first | apply Kd.R_alloc | apply Kd.R_drewN | apply Kd.R_drew)); exact HL317_0.out) hb); have n5_ := Aside0.mk (Kd.R_below (by (with_reducible repeat (first | apply Kd.R_alloc | apply Kd.R_drewN | apply Kd.R_drew)); exact HL319_0.out) hb); have n6_ := Aside0.mk (blk_below (g := gb293) (o := .cells #[.slice A0_0 l0_0.length c0_0, .int .i64 a0_1, .int .i64 a0_2, .slice A0_3 l0_3.length c0_3, .slice A0_4 l0_4.length c0_4] 58 (0, 0)) (by (with_reducible repeat (first | refine blk_drewN ?_ _ | refine blk_drew ?_ | refine blk_alloc ?_ _)); exact BK293.out) hb); have n7_ := Aside0.mk (Kd.C_below (by repeat (first | (with_reducible exact HR315_0.out) | (with_reducible refine Kd.C_alloc ?_ _) | (with_reducible refine Kd.C_drewN ?_ _) | (with_reducible refine Kd.C_drew ?_) | exact HR315_0.out)) hb); have n8_ := Aside0.mk (pw_cell_below hb HX315_0.out); have n9_ := Aside0.mk (Kd.C_below (by repeat (first | (with_reducible exact HR317_0.out) | (with_reducible refine Kd.C_alloc ?_ _) | (with_reducible refine Kd.C_drewN ?_ _) | (with_reducible refine Kd.C_drew ?_) | exact HR317_0.out)) hb); have n10_ := Aside0.mk (pw_cell_below hb HX317_0.out); have n11_ := Aside0.mk (Kd.C_below (by repeat (first | (with_reducible exact HR319_0.out) | (with_reducible refine Kd.C_alloc ?_ _) | (with_reducible refine Kd.C_drewN ?_ _) | (with_reducible refine Kd.C_drew ?_) | exact HR319_0.out)) hb); have n12_ := Aside0.mk (pw_cell_below hb HX319_0.out); have n13_ := Aside0.mk (below_step (by repeat (first | (with_reducible first | exact HB.out | apply below_alloc | apply pw_below_drewN | apply below_drew1 | refine below_set ?_ GE293.out) | exact HB.out)) hb); clear HO_4; clear HO_7; clear HO_11; clear HL315_0; clear HL317_0; clear HL319_0; clear BK293; clear HR315_0; clear HX315_0; clear HR317_0; clear HX317_0; clear HR319_0; clear HX319_0; clear HB; have HO_4 := n0_; have HO_7 := n1_; have HO_11 := n2_; have HL315_0 := n3_; have HL317_0 := n4_; have HL319_0 := n5_; have BK293 := n6_; have HR315_0 := n7_; have HX315_0 := n8_; have HR317_0 := n9_; have HX317_0 := n10_; have HR319_0 := n11_; have HX319_0 := n12_; have HB := n13_; clear n0_ n1_ n2_ n3_ n4_ n5_ n6_ n7_ n8_ n9_ n10_ n11_ n12_ n13_; (try clear hb); (try clear hb2); (try clear hk); (try clear hi)))
                        go_roundg k4
                        case measure => have := HK1.out; have := HK2.out; have := HK3.out; have := HK4.out; omega
                        case rel => exact ⟨(t321), (wrap64 (x58_4 + 1)), (by first | rfl | (simp; done) | (simp [*]; done)), (by first | rfl | (simp; done) | (simp [*]; done)), H', ⟨by have := HK1.out; have := HK2.out; have := HK3.out; have := HK4.out; omega⟩, ⟨by (with_reducible repeat (first | apply Kd.S_alloc | apply Kd.S_drewN | apply Kd.S_drew)); exact HO_4.out⟩, ⟨by (with_reducible repeat (first | apply Kd.S_alloc | apply Kd.S_drewN | apply Kd.S_drew)); exact HO_7.out⟩, ⟨by (with_reducible repeat (first | apply Kd.S_alloc | apply Kd.S_drewN | apply Kd.S_drew)); exact HO_11.out⟩, ⟨by (with_reducible repeat (first | refine blk_drewN ?_ _ | refine blk_drew ?_ | refine blk_alloc ?_ _)); exact BK293.out⟩, ⟨by repeat (first | (with_reducible first | exact HB.out | apply below_alloc | apply pw_below_drewN | apply below_drew1 | refine below_set ?_ GE293.out) | exact HB.out)⟩⟩
                       ·
                        rw [if_neg c46] at H
                        have c46b0 : ((rd (rd_L1 t305 x58_4) x43_2) == 0) = false := beq_eq_false_iff_ne.mpr c46
                        have c46b1 : ((rd (rd_L1 t305 x58_4) x43_2) != 0) = true := bne_iff_ne.mpr c46
                        have H' := Aside0.mk H
                        clear H
                        obtain ⟨Ao51, co51, eo51⟩ := Kd.S_slice HO_11.out
                        subst eo51
                        have p315 : 0 ≤ (x58_4 : Int) := of_decide_eq_true (by first | (with_reducible assumption) | assumption)
                        have q315 : x58_4 < (t312.length : Int) := of_decide_eq_true (by first | (with_reducible assumption) | assumption)
                        obtain ⟨ad315, A315_0, c315_0, e315, hx315_0, hl315_0, hi315_0⟩ := at_L1 (Kd.S_reads' HO_11.out).2.2 x58_4 p315 q315
                        cases e315
                        obtain ⟨ce315, hce315, hMe315, hcc315⟩ := Kd.S_get HO_11.out [] x58_4 p315 (by first | exact q315 | exact of_decide_eq_true (by assumption) | (have e_ := (Kd.S_reads' HO_11.out).1; omega))
                        obtain ⟨ve315_0, rfl, ge315_0⟩ := hMe315
                        have hv315_0 := hcc315 0 _ rfl
                        rw [Nat.add_zero, show ((Kd.slice 3 (Kd.int .i64))).sz = 1 from rfl, Nat.mul_one] at hv315_0
                        replace hv315_0 := Option.some.inj (hv315_0.symm.trans hx315_0)
                        rw [hv315_0] at ge315_0
                        have HL315_0 := Aside0.mk (show Kd.R (Kd.int .i64) 3 _ _ _ _ (rd_L1 t312 x58_4) from ge315_0)
                        clear hv315_0 ge315_0
                        have HX315_0 := Aside0.mk hx315_0
                        clear hcc315 hce315
                        have HR315_0 := Aside0.mk hi315_0
                        have HC315_0 := Aside0.mk hl315_0
                        clear hi315_0 hl315_0
                        replace p315 := eq_true p315
                        replace q315 := eq_true q315
                        have p316 : 0 ≤ (x58_4 : Int) := of_decide_eq_true (by assumption)
                        have q316 : x58_4 < ((rd_L1 t312 x58_4).length : Int) := of_decide_eq_true (by assumption)
                        obtain ⟨ad316, e316, hx316_0⟩ := Kd.at_int (by repeat (first | (with_reducible exact HR315_0.out) | exact HR315_0.out)) x58_4 p316 q316
                        cases e316
                        replace p316 := eq_true p316
                        replace q316 := eq_true q316
                        obtain ⟨Ao52, co52, eo52⟩ := Kd.S_slice HO_7.out
                        subst eo52
                        have p317 : 0 ≤ (x43_2 : Int) := of_decide_eq_true (by assumption)
                        have q317 : x43_2 < (t305.length : Int) := of_decide_eq_true (by assumption)
                        obtain ⟨ad317, A317_0, c317_0, e317, hx317_0, hl317_0, hi317_0⟩ := at_L1 (Kd.S_reads' HO_7.out).2.2 x43_2 p317 q317
                        cases e317
                        obtain ⟨ce317, hce317, hMe317, hcc317⟩ := Kd.S_get HO_7.out [] x43_2 p317 (by first | exact q317 | exact of_decide_eq_true (by assumption) | (have e_ := (Kd.S_reads' HO_7.out).1; omega))
                        obtain ⟨ve317_0, rfl, ge317_0⟩ := hMe317
                        have hv317_0 := hcc317 0 _ rfl
                        rw [Nat.add_zero, show ((Kd.slice 3 (Kd.int .i64))).sz = 1 from rfl, Nat.mul_one] at hv317_0
                        replace hv317_0 := Option.some.inj (hv317_0.symm.trans hx317_0)
                        rw [hv317_0] at ge317_0
                        have HL317_0 := Aside0.mk (show Kd.R (Kd.int .i64) 3 _ _ _ _ (rd_L1 t305 x43_2) from ge317_0)
                        clear hv317_0 ge317_0
                        have HX317_0 := Aside0.mk hx317_0
                        clear hcc317 hce317
                        have HR317_0 := Aside0.mk hi317_0
                        have HC317_0 := Aside0.mk hl317_0
                        clear hi317_0 hl317_0
                        replace p317 := eq_true p317
                        replace q317 := eq_true q317
                        have p318 : 0 ≤ (x58_4 : Int) := of_decide_eq_true (by assumption)
                        have q318 : x58_4 < ((rd_L1 t305 x43_2).length : Int) := of_decide_eq_true (by assumption)
                        obtain ⟨ad318, e318, hx318_0⟩ := Kd.at_int (by repeat (first | (with_reducible exact HR317_0.out) | exact HR317_0.out)) x58_4 p318 q318
                        cases e318
                        replace p318 := eq_true p318
                        replace q318 := eq_true q318
                        have p319 : 0 ≤ (x58_4 : Int) := of_decide_eq_true (by assumption)
                        have q319 : x58_4 < (t305.length : Int) := of_decide_eq_true (by assumption)
                        obtain ⟨ad319, A319_0, c319_0, e319, hx319_0, hl319_0, hi319_0⟩ := at_L1 (Kd.S_reads' HO_7.out).2.2 x58_4 p319 q319
                        obtain rfl : ad317 = ad319 := (by injection e319)
                        obtain ⟨ce319, hce319, hMe319, hcc319⟩ := Kd.S_get HO_7.out [] x58_4 p319 (by first | exact q319 | exact of_decide_eq_true (by assumption) | (have e_ := (Kd.S_reads' HO_7.out).1; omega))
                        obtain ⟨ve319_0, rfl, ge319_0⟩ := hMe319
                        have hv319_0 := hcc319 0 _ rfl
                        rw [Nat.add_zero, show ((Kd.slice 3 (Kd.int .i64))).sz = 1 from rfl, Nat.mul_one] at hv319_0
                        replace hv319_0 := Option.some.inj (hv319_0.symm.trans hx319_0)
                        rw [hv319_0] at ge319_0
                        have HL319_0 := Aside0.mk (show Kd.R (Kd.int .i64) 3 _ _ _ _ (rd_L1 t305 x58_4) from ge319_0)
                        clear hv319_0 ge319_0
                        have HX319_0 := Aside0.mk hx319_0
                        clear hcc319 hce319
                        have HR319_0 := Aside0.mk hi319_0
                        have HC319_0 := Aside0.mk hl319_0
                        clear hi319_0 hl319_0
                        replace p319 := eq_true p319
                        replace q319 := eq_true q319
                        have p320 : 0 ≤ (x43_2 : Int) := of_decide_eq_true (by assumption)
                        have q320 : x43_2 < ((rd_L1 t305 x58_4).length : Int) := of_decide_eq_true (by assumption)
                        obtain ⟨ad320, e320, hx320_0⟩ := Kd.at_int (by repeat (first | (with_reducible exact HR319_0.out) | exact HR319_0.out)) x43_2 p320 q320
                        cases e320
                        replace p320 := eq_true p320
                        replace q320 := eq_true q320
                        go_wp2
                        go_roundg k4
                        case measure => have := HK1.out; have := HK2.out; have := HK3.out; have := HK4.out; omega
                        case rel => exact ⟨(x10_4), (wrap64 (x58_4 + 1)), rfl, rfl, H', ⟨by have := HK1.out; have := HK2.out; have := HK3.out; have := HK4.out; omega⟩, ⟨by exact HO_4.out⟩, ⟨by exact HO_7.out⟩, ⟨by exact HO_11.out⟩, ⟨by (with_reducible repeat (first | refine blk_drewN ?_ _ | refine blk_drew ?_ | refine blk_alloc ?_ _)); exact BK293.out⟩, ⟨by repeat (first | (with_reducible first | exact HB.out | apply below_alloc | apply pw_below_drewN | apply below_drew1 | refine below_set ?_ GE293.out) | exact HB.out)⟩⟩
                      ·
                       rw [if_neg c45] at H
                       exact absurd H (by simp)
                     ·
                      rw [if_neg c44] at H
                      exact absurd H (by simp)
                    ·
                     rw [if_neg c43] at H
                     have c43b0 : ((rd (rd_L1 t305 x43_2) x58_4) == 0) = false := beq_eq_false_iff_ne.mpr c43
                     have H' := Aside0.mk H
                     clear H
                     obtain ⟨Ao53, co53, eo53⟩ := Kd.S_slice HO_11.out
                     subst eo53
                     have p315 : 0 ≤ (x58_4 : Int) := of_decide_eq_true (by assumption)
                     have q315 : x58_4 < (t312.length : Int) := of_decide_eq_true (by assumption)
                     obtain ⟨ad315, A315_0, c315_0, e315, hx315_0, hl315_0, hi315_0⟩ := at_L1 (Kd.S_reads' HO_11.out).2.2 x58_4 p315 q315
                     cases e315
                     obtain ⟨ce315, hce315, hMe315, hcc315⟩ := Kd.S_get HO_11.out [] x58_4 p315 (by first | exact q315 | exact of_decide_eq_true (by assumption) | (have e_ := (Kd.S_reads' HO_11.out).1; omega))
                     obtain ⟨ve315_0, rfl, ge315_0⟩ := hMe315
                     have hv315_0 := hcc315 0 _ rfl
                     rw [Nat.add_zero, show ((Kd.slice 3 (Kd.int .i64))).sz = 1 from rfl, Nat.mul_one] at hv315_0
                     replace hv315_0 := Option.some.inj (hv315_0.symm.trans hx315_0)
                     rw [hv315_0] at ge315_0
                     have HL315_0 := Aside0.mk (show Kd.R (Kd.int .i64) 3 _ _ _ _ (rd_L1 t312 x58_4) from ge315_0)
                     clear hv315_0 ge315_0
                     have HX315_0 := Aside0.mk hx315_0
                     clear hcc315 hce315
                     have HR315_0 := Aside0.mk hi315_0
                     have HC315_0 := Aside0.mk hl315_0
                     clear hi315_0 hl315_0
                     replace p315 := eq_true p315
                     replace q315 := eq_true q315
                     have p316 : 0 ≤ (x58_4 : Int) := of_decide_eq_true (by assumption)
                     have q316 : x58_4 < ((rd_L1 t312 x58_4).length : Int) := of_decide_eq_true (by assumption)
                     obtain ⟨ad316, e316, hx316_0⟩ := Kd.at_int (by repeat (first | (with_reducible exact HR315_0.out) | exact HR315_0.out)) x58_4 p316 q316
                     cases e316
                     replace p316 := eq_true p316
                     replace q316 := eq_true q316
                     obtain ⟨Ao54, co54, eo54⟩ := Kd.S_slice HO_7.out
                     subst eo54
                     have p317 : 0 ≤ (x43_2 : Int) := of_decide_eq_true (by assumption)
                     have q317 : x43_2 < (t305.length : Int) := of_decide_eq_true (by assumption)
                     obtain ⟨ad317, A317_0, c317_0, e317, hx317_0, hl317_0, hi317_0⟩ := at_L1 (Kd.S_reads' HO_7.out).2.2 x43_2 p317 q317
                     cases e317
                     obtain ⟨ce317, hce317, hMe317, hcc317⟩ := Kd.S_get HO_7.out [] x43_2 p317 (by first | exact q317 | exact of_decide_eq_true (by assumption) | (have e_ := (Kd.S_reads' HO_7.out).1; omega))
                     obtain ⟨ve317_0, rfl, ge317_0⟩ := hMe317
                     have hv317_0 := hcc317 0 _ rfl
                     rw [Nat.add_zero, show ((Kd.slice 3 (Kd.int .i64))).sz = 1 from rfl, Nat.mul_one] at hv317_0
                     replace hv317_0 := Option.some.inj (hv317_0.symm.trans hx317_0)
                     rw [hv317_0] at ge317_0
                     have HL317_0 := Aside0.mk (show Kd.R (Kd.int .i64) 3 _ _ _ _ (rd_L1 t305 x43_2) from ge317_0)
                     clear hv317_0 ge317_0
                     have HX317_0 := Aside0.mk hx317_0
                     clear hcc317 hce317
                     have HR317_0 := Aside0.mk hi317_0
                     have HC317_0 := Aside0.mk hl317_0
                     clear hi317_0 hl317_0
                     replace p317 := eq_true p317
                     replace q317 := eq_true q317
                     have p318 : 0 ≤ (x58_4 : Int) := of_decide_eq_true (by first | (with_reducible assumption) | assumption)
                     have q318 : x58_4 < ((rd_L1 t305 x43_2).length : Int) := of_decide_eq_true (by first | (with_reducible assumption) | assumption)
                     obtain ⟨ad318, e318, hx318_0⟩ := Kd.at_int (by repeat (first | (with_reducible exact HR317_0.out) | (with_reducible refine Kd.C_alloc ?_ _) | (with_reducible refine Kd.C_drewN ?_ _) | (with_reducible refine Kd.C_drew ?_) | exact HR317_0.out)) x58_4 p318 q318
                     cases e318
                     replace p318 := eq_true p318
                     replace q318 := eq_true q318
                     go_wp2
                     go_roundg k4
                     case measure => have := HK1.out; have := HK2.out; have := HK3.out; have := HK4.out; omega
                     case rel => exact ⟨(x10_4), (wrap64 (x58_4 + 1)), (by first | rfl | (simp; done) | (simp [*]; done)), (by first | rfl | (simp; done) | (simp [*]; done)), H', ⟨by have := HK1.out; have := HK2.out; have := HK3.out; have := HK4.out; omega⟩, ⟨by (with_reducible repeat (first | apply Kd.S_alloc | apply Kd.S_drewN | apply Kd.S_drew)); exact HO_4.out⟩, ⟨by (with_reducible repeat (first | apply Kd.S_alloc | apply Kd.S_drewN | apply Kd.S_drew)); exact HO_7.out⟩, ⟨by (with_reducible repeat (first | apply Kd.S_alloc | apply Kd.S_drewN | apply Kd.S_drew)); exact HO_11.out⟩, ⟨by (with_reducible repeat (first | refine blk_drewN ?_ _ | refine blk_drew ?_ | refine blk_alloc ?_ _)); exact BK293.out⟩, ⟨by repeat (first | (with_reducible first | exact HB.out | apply below_alloc | apply pw_below_drewN | apply below_drew1 | refine below_set ?_ GE293.out) | exact HB.out)⟩⟩
                   ·
                    rw [if_neg c42] at H
                    exact absurd H (by simp)
                  ·
                   rw [if_neg c41] at H
                   exact absurd H (by simp)
                 ·
                  rw [if_neg c40] at H
                  exact absurd H (by simp)
                ·
                 rw [if_neg c39] at H
                 have c39b0 : ((rd (rd_L1 t312 x58_4) x58_4) == 0) = false := beq_eq_false_iff_ne.mpr c39
                 have c39b1 : ((rd (rd_L1 t312 x58_4) x58_4) != 0) = true := bne_iff_ne.mpr c39
                 have H' := Aside0.mk H
                 clear H
                 obtain ⟨Ao55, co55, eo55⟩ := Kd.S_slice HO_11.out
                 subst eo55
                 have p315 : 0 ≤ (x58_4 : Int) := of_decide_eq_true (by first | (with_reducible assumption) | assumption)
                 have q315 : x58_4 < (t312.length : Int) := of_decide_eq_true (by first | (with_reducible assumption) | assumption)
                 obtain ⟨ad315, A315_0, c315_0, e315, hx315_0, hl315_0, hi315_0⟩ := at_L1 (Kd.S_reads' HO_11.out).2.2 x58_4 p315 q315
                 cases e315
                 obtain ⟨ce315, hce315, hMe315, hcc315⟩ := Kd.S_get HO_11.out [] x58_4 p315 (by first | exact q315 | exact of_decide_eq_true (by first | (with_reducible assumption) | assumption) | (have e_ := (Kd.S_reads' HO_11.out).1; omega))
                 obtain ⟨ve315_0, rfl, ge315_0⟩ := hMe315
                 have hv315_0 := hcc315 0 _ rfl
                 rw [Nat.add_zero, show ((Kd.slice 3 (Kd.int .i64))).sz = 1 from rfl, Nat.mul_one] at hv315_0
                 replace hv315_0 := Option.some.inj (hv315_0.symm.trans hx315_0)
                 rw [hv315_0] at ge315_0
                 have HL315_0 := Aside0.mk (show Kd.R (Kd.int .i64) 3 _ _ _ _ (rd_L1 t312 x58_4) from ge315_0)
                 clear hv315_0 ge315_0
                 have HX315_0 := Aside0.mk hx315_0
                 clear hcc315 hce315
                 have HR315_0 := Aside0.mk hi315_0
                 have HC315_0 := Aside0.mk hl315_0
                 clear hi315_0 hl315_0
                 replace p315 := eq_true p315
                 replace q315 := eq_true q315
                 have p316 : 0 ≤ (x58_4 : Int) := of_decide_eq_true (by first | (with_reducible assumption) | assumption)
                 have q316 : x58_4 < ((rd_L1 t312 x58_4).length : Int) := of_decide_eq_true (by first | (with_reducible assumption) | assumption)
                 obtain ⟨ad316, e316, hx316_0⟩ := Kd.at_int (by repeat (first | (with_reducible exact HR315_0.out) | (with_reducible refine Kd.C_alloc ?_ _) | (with_reducible refine Kd.C_drewN ?_ _) | (with_reducible refine Kd.C_drew ?_) | exact HR315_0.out)) x58_4 p316 q316
                 cases e316
                 replace p316 := eq_true p316
                 replace q316 := eq_true q316
                 go_wp2
                 go_roundg k4
                 case measure => have := HK1.out; have := HK2.out; have := HK3.out; have := HK4.out; omega
                 case rel => exact ⟨(x10_4), (wrap64 (x58_4 + 1)), (by first | rfl | (simp; done) | (simp [*]; done)), (by first | rfl | (simp; done) | (simp [*]; done)), H', ⟨by have := HK1.out; have := HK2.out; have := HK3.out; have := HK4.out; omega⟩, ⟨by (with_reducible repeat (first | apply Kd.S_alloc | apply Kd.S_drewN | apply Kd.S_drew)); exact HO_4.out⟩, ⟨by (with_reducible repeat (first | apply Kd.S_alloc | apply Kd.S_drewN | apply Kd.S_drew)); exact HO_7.out⟩, ⟨by (with_reducible repeat (first | apply Kd.S_alloc | apply Kd.S_drewN | apply Kd.S_drew)); exact HO_11.out⟩, ⟨by (with_reducible repeat (first | refine blk_drewN ?_ _ | refine blk_drew ?_ | refine blk_alloc ?_ _)); exact BK293.out⟩, ⟨by repeat (first | (with_reducible first | exact HB.out | apply below_alloc | apply pw_below_drewN | apply below_drew1 | refine below_set ?_ GE293.out) | exact HB.out)⟩⟩
               ·
                rw [if_neg c38] at H
                exact absurd H (by simp)
              ·
               rw [if_neg c37] at H
               exact absurd H (by simp)
             ·
              rw [if_neg c36] at H
              exact absurd H (by simp)
            ·
             rw [if_neg c35] at H
             have c35b0 : decide (x58_4 < (l0_3.length : Int)) = false := decide_eq_false c35
             clear c35
             have H' := Aside0.mk H
             clear H
             go_wp2
             go_roundg k4
             case measure => have := HK1.out; have := HK2.out; have := HK3.out; have := HK4.out; omega
             case rel => exact ⟨(x10_4), (t312), (wrap64 (x12_3 + 1)), (by first | rfl | (simp; done) | (simp [*]; done)), (by first | rfl | (simp; done) | (simp [*]; done)), H', ⟨by have := HK1.out; have := HK2.out; have := HK3.out; have := HK4.out; omega⟩, ⟨by (with_reducible repeat (first | apply Kd.S_alloc | apply Kd.S_drewN | apply Kd.S_drew)); exact HO_4.out⟩, ⟨by (with_reducible repeat (first | apply Kd.S_alloc | apply Kd.S_drewN | apply Kd.S_drew)); exact HO_7.out⟩, ⟨by (with_reducible repeat (first | apply Kd.S_alloc | apply Kd.S_drewN | apply Kd.S_drew)); exact HO_11.out⟩, ⟨by (with_reducible repeat (first | refine blk_drewN ?_ _ | refine blk_drew ?_ | refine blk_alloc ?_ _)); exact BK293.out⟩, ⟨by repeat (first | (with_reducible first | exact HB.out | apply below_alloc | apply pw_below_drewN | apply below_drew1 | refine below_set ?_ GE293.out) | exact HB.out)⟩⟩
         ·
          rw [if_neg c31] at H
          have c31b0 : decide (x12_3 ≤ (wrap64 (2 * (l0_3.length : Int)))) = false := decide_eq_false c31
          clear c31
          by_cases c56 : x10_3 > 0
          ·
           rw [if_pos c56] at H
           have c56b0 : decide (0 < x10_3) = true := decide_eq_true c56
           clear c56
           replace H := Option.bind_eq_some_iff.mp H
           obtain ⟨t311, A570, H⟩ := H
           replace H : (if t311 = 0 then (none) else (llperiod.l2 k3 (l0_3.length : Int) x4_1 t305 (wrap64 ((wrap64 (Int.tdiv x8_2 t311)) * x10_3)) (l0_3.length : Int) (wrap64 (x43_2 + 1)))) = some r := H
           have A57 := Aside0.mk A570
           clear A570
           by_cases c58 : t311 = 0
           ·
            rw [if_pos c58] at H
            exact absurd H (by simp)
           ·
            rw [if_neg c58] at H
            have c58b0 : (t311 == 0) = false := beq_eq_false_iff_ne.mpr c58
            have c58b1 : (t311 != 0) = true := bne_iff_ne.mpr c58
            have H' := Aside0.mk H
            clear H
            go_wp2_with (first | ((with_reducible refine gate_callee (f := 89) rfl ?_); refine goesL_ (some 98) rfl rfl Try.func89 (by kernel_rfl) rfl #[.int .i64 x8_2, .int .i64 x10_3] rfl (by (try simp only [List.map_toArray, List.map_cons, List.map_nil]); first | done | rfl | (simp only [List.length_drop, List.length_take]; rfl)) ?_; (with_reducible refine (line_gcd.calls k3 x8_2 x10_3 t311 _ A57.out).mono ?_); rintro e w59 ⟨rfl, hb⟩; refine ⟨_, rfl, ?_⟩; have n0_ := Aside0.mk (Kd.S_below (by (with_reducible repeat (first | apply Kd.S_alloc | apply Kd.S_drewN | apply Kd.S_drew)); exact HO_4.out) hb); have n1_ := Aside0.mk (Kd.S_below (by (with_reducible repeat (first | apply Kd.S_alloc | apply Kd.S_drewN | apply Kd.S_drew)); exact HO_7.out) hb); have n2_ := Aside0.mk (Kd.S_below (by (with_reducible repeat (first | apply Kd.S_alloc | apply Kd.S_drewN | apply Kd.S_drew)); exact HO_11.out) hb); have n3_ := Aside0.mk (blk_below (g := gb293) (o := .cells #[.slice A0_0 l0_0.length c0_0, .int .i64 a0_1, .int .i64 a0_2, .slice A0_3 l0_3.length c0_3, .slice A0_4 l0_4.length c0_4] 58 (0, 0)) (by (with_reducible repeat (first | refine blk_drewN ?_ _ | refine blk_drew ?_ | refine blk_alloc ?_ _)); exact BK293.out) hb); have n4_ := Aside0.mk (below_step (by repeat (first | (with_reducible first | exact HB.out | apply below_alloc | apply pw_below_drewN | apply below_drew1 | refine below_set ?_ GE293.out) | exact HB.out)) hb); clear HO_4; clear HO_7; clear HO_11; clear BK293; clear HB; have HO_4 := n0_; have HO_7 := n1_; have HO_11 := n2_; have BK293 := n3_; have HB := n4_; clear n0_ n1_ n2_ n3_ n4_; (try clear hb); (try clear hb2); (try clear hk); (try clear hi)))
            go_roundg k3
            case measure => have := HK1.out; have := HK2.out; have := HK3.out; omega
            case rel => exact ⟨(wrap64 ((wrap64 (Int.tdiv x8_2 t311)) * x10_3)), (wrap64 (x43_2 + 1)), (by first | rfl | (simp; done) | (simp [*]; done)), (by first | rfl | (simp; done) | (simp [*]; done)), H', ⟨by have := HK1.out; have := HK2.out; have := HK3.out; omega⟩, ⟨by (with_reducible repeat (first | apply Kd.S_alloc | apply Kd.S_drewN | apply Kd.S_drew)); exact Kd.S_mono HO_4.out (fun _ hk => hk.1)⟩, ⟨by (with_reducible repeat (first | apply Kd.S_alloc | apply Kd.S_drewN | apply Kd.S_drew)); exact Kd.S_mono HO_7.out (fun _ hk => hk.1)⟩, ⟨by (with_reducible repeat (first | refine blk_drewN ?_ _ | refine blk_drew ?_ | refine blk_alloc ?_ _)); exact BK293.out⟩, ⟨by repeat (first | (with_reducible first | exact HB.out | apply below_alloc | apply pw_below_drewN | apply below_drew1 | refine below_set ?_ GE293.out) | exact HB.out)⟩⟩
          ·
           rw [if_neg c56] at H
           have c56b0 : decide (0 < x10_3) = false := decide_eq_false c56
           clear c56
           have H' := Aside0.mk H
           clear H
           go_wp2
           go_roundg k3
           case measure => have := HK1.out; have := HK2.out; have := HK3.out; omega
           case rel => exact ⟨(x8_2), (wrap64 (x43_2 + 1)), (by first | rfl | (simp; done) | (simp [*]; done)), (by first | rfl | (simp; done) | (simp [*]; done)), H', ⟨by have := HK1.out; have := HK2.out; have := HK3.out; omega⟩, ⟨by (with_reducible repeat (first | apply Kd.S_alloc | apply Kd.S_drewN | apply Kd.S_drew)); exact Kd.S_mono HO_4.out (fun _ hk => hk.1)⟩, ⟨by (with_reducible repeat (first | apply Kd.S_alloc | apply Kd.S_drewN | apply Kd.S_drew)); exact Kd.S_mono HO_7.out (fun _ hk => hk.1)⟩, ⟨by (with_reducible repeat (first | refine blk_drewN ?_ _ | refine blk_drew ?_ | refine blk_alloc ?_ _)); exact BK293.out⟩, ⟨by repeat (first | (with_reducible first | exact HB.out | apply below_alloc | apply pw_below_drewN | apply below_drew1 | refine below_set ?_ GE293.out) | exact HB.out)⟩⟩
      ·
       rw [if_neg c28] at H
       have c28b0 : decide (x43_2 < (l0_3.length : Int)) = false := decide_eq_false c28
       clear c28
       obtain rfl := Option.some.inj H
       go_wp2
       go_ret
       exact ⟨rfl, by repeat (first | (with_reducible first | exact HB.out | apply below_alloc | apply pw_below_drewN | apply below_drew1 | refine below_set ?_ GE293.out) | exact HB.out)⟩

def lgpower.l0 : Nat → List (List Int) → Int → List (List Int) → Option ((List (List Int)))
 | 0, _, _, _ => none
 | k + 1, x0, x1, x5 => if x1 > 0 then (if (Int.tmod x1 2) = 1 then ((lgtimes.f k x5 x0).bind fun t326 => ((lgtimes.f k x0 x0).bind fun t329 => (lgpower.l0 k t329 (wrap64 (Int.tdiv x1 2)) t326))) else ((lgtimes.f k x0 x0).bind fun t332 => (lgpower.l0 k t332 (wrap64 (Int.tdiv x1 2)) x5))) else (some x5)
def lgpower.f (k : Nat) (l0 : List (List Int)) (a1 : Int) : Option ((List (List Int))) := (line_one_int.f k (l0.length : Int)).bind fun t323 => (lgpower.l0 k l0 a1 t323)
theorem lgpower.mono_l : ∀ k, (∀ y0 y1 y2, LeO (lgpower.l0 k y0 y1 y2) (lgpower.l0 (k + 1) y0 y1 y2))
 | 0 => fun _ _ _ r h => by simp [lgpower.l0] at h
 | k + 1 => by
  have ih0 := lgpower.mono_l k
  ·
   intro y0 y1 y2
   unfold lgpower.l0
   repeat' first
   | (with_reducible exact LeO.refl _)
   | (with_reducible exact LeO.none _)
   | (with_reducible refine LeO.ite ?_ ?_)
   | (with_reducible refine LeO.bind ?_ (fun _ => ?_))
   | exact ih0 _ _ _
   | exact lgtimes.mono _ _ _
   | exact line_one_int.mono _ _
   | exact LeO.none _
   | refine LeO.ite ?_ ?_
   | refine LeO.bind ?_ (fun _ => ?_)
theorem lgpower.mono : ∀ a0 a1 k, LeO (lgpower.f k a0 a1) (lgpower.f (k + 1) a0 a1) := by
 intro a0 a1 k
 have ih0 := lgpower.mono_l k
 unfold lgpower.f
 repeat' first
   | (with_reducible exact LeO.refl _)
   | (with_reducible exact LeO.none _)
   | (with_reducible refine LeO.ite ?_ ?_)
   | (with_reducible refine LeO.bind ?_ (fun _ => ?_))
   | exact ih0 _ _ _
   | exact lgtimes.mono _ _ _
   | exact line_one_int.mono _ _
   | exact LeO.none _
   | refine LeO.ite ?_ ?_
   | refine LeO.bind ?_ (fun _ => ?_)
set_option maxHeartbeats 8000000 in
set_option maxRecDepth 100000 in
theorem lgpower.calls (k : Nat) (P0_ : Nat → Prop) (A0 : Option Addr) (c0 : Nat) (l0 : List (List Int)) (a1 : Int) (r : List (List Int)) (w : World) (hs0 : Kd.V (Kd.slice 3 (Kd.int .i64)) 26 w w.heap.size (fun k_ => P0_ k_) (.slice A0 l0.length c0) l0) (h : lgpower.f k l0 a1 = some r) :
  Calls Try.prog 56 #[.slice A0 l0.length c0, .int .i64 a1] w fun e w' => ∃ v0_ : Value, e = .returned (v0_) ∧ Kd.S (Kd.slice 3 (Kd.int .i64)) 26 w' w.heap.size (fun k_ => (w.heap.size ≤ k_)) v0_ r ∧ Below w.heap.size w w' := by
 have HO0 := Aside0.mk (show Kd.V (Kd.slice 3 (Kd.int .i64)) 26 w w.heap.size (fun k_ => (P0_ k_ ∨ w.heap.size ≤ k_)) (.slice A0 l0.length c0) l0 from Kd.V_mono hs0 (fun k_ hk => .inl hk))
 have HB := Aside0.mk (Below.refl w.heap.size w)
 have H : ((line_one_int.f k (l0.length : Int)).bind fun t323 => (lgpower.l0 k l0 a1 t323)) = some r := h
 clear h
 replace H := Option.bind_eq_some_iff.mp H
 obtain ⟨t323, A30, H⟩ := H
 replace H : (lgpower.l0 k l0 a1 t323) = some r := H
 have A3 := Aside0.mk A30
 clear A30
 have H' := Aside0.mk H
 clear H
 go_enter Try.func56, Try.ntmps56
 go_wp2_with (first | ((with_reducible refine gate_callee (f := 87) rfl ?_); refine goesL_ (some 8) rfl rfl Try.func87 (by kernel_rfl) rfl #[.int .i64 (l0.length : Int)] rfl (by (try simp only [List.map_toArray, List.map_cons, List.map_nil]); rfl) ?_; (with_reducible refine (line_one_int.calls k (l0.length : Int) t323 _ A3.out).mono ?_); rintro e w4 ⟨v324, rfl, ho0, hb⟩; refine ⟨_, rfl, ?_⟩; have n0_ := Aside0.mk (Kd.V_elder' (by exact HO0.out) (Kd.S_base ho0) hb); have n1_ := Aside0.mk (Kd.S_lower (Kd.S_newM (M := fun k_ => (w.heap.size ≤ k_)) ho0 (below_size (HB.out)) (fun k_ h_ => h_)) (below_size (HB.out))); have n2_ := Aside0.mk (below_step (HB.out) hb); clear HO0; clear HB; have HO0 := n0_; have HO325 := n1_; have HB := n2_; clear n0_ n1_ n2_))
 go_loopg [0, 1, 5] k (fun kq v0 v1 v5 w' => ∃ (x0_1 : List (List Int)) (x1_1 : Int) (x5_1 : List (List Int)), v1 = .int .i64 x1_1 ∧ Aside0 (lgpower.l0 kq x0_1 x1_1 x5_1 = some r) ∧ Aside0 (kq ≤ k) ∧ Aside0 (Kd.V (Kd.slice 3 (Kd.int .i64)) 26 w' w.heap.size (fun k_ => (P0_ k_ ∨ w.heap.size ≤ k_) ∧ some k_ ≠ (v5 : Value).ownBlock) v0 x0_1) ∧ Aside0 (Kd.S (Kd.slice 3 (Kd.int .i64)) 26 w' w.heap.size (fun k_ => (w.heap.size ≤ k_)) v5 x5_1) ∧ Aside0 (Below w.heap.size w w'))
 case atStart => exact ⟨(l0), (a1), (t323), rfl, H', ⟨Nat.le_refl _⟩, ⟨by exact HO0.out⟩, ⟨by exact Kd.S_mono HO325.out (fun _ hk => hk.1)⟩, ⟨HB.out⟩⟩
 case round =>
  clear H'
  obtain ⟨x0_1, x1_1, x5_1, rfl, HA, HK1, HO_0, HO_5, HB⟩ := hrel
  cases gk with
  | zero => exact absurd HA.out (by simp [lgpower.l0])
  | succ k1 =>
   have H := HA.out
   clear HA
   simp only [lgpower.l0] at H
   by_cases c5 : x1_1 > 0
   ·
    rw [if_pos c5] at H
    have c5b0 : decide (0 < x1_1) = true := decide_eq_true c5
    clear c5
    by_cases c6 : (Int.tmod x1_1 2) = 1
    ·
     rw [if_pos c6] at H
     have c6b0 : ((Int.tmod x1_1 2) == 1) = true := beq_iff_eq.mpr c6
     clear c6
     replace H := Option.bind_eq_some_iff.mp H
     obtain ⟨t326, A70, H⟩ := H
     replace H : ((lgtimes.f k1 x0_1 x0_1).bind fun t329 => (lgpower.l0 k1 t329 (wrap64 (Int.tdiv x1_1 2)) t326)) = some r := H
     have A7 := Aside0.mk A70
     clear A70
     replace H := Option.bind_eq_some_iff.mp H
     obtain ⟨t329, A80, H⟩ := H
     replace H : (lgpower.l0 k1 t329 (wrap64 (Int.tdiv x1_1 2)) t326) = some r := H
     have A8 := Aside0.mk A80
     clear A80
     have H' := Aside0.mk H
     clear H
     obtain ⟨Ao9, co9, eo9⟩ := Kd.S_slice HO_5.out
     subst eo9
     obtain ⟨Ao10, co10, eo10⟩ := Kd.V_slice HO_0.out
     subst eo10
     go_wp2_with (first | ((with_reducible refine gate_callee (f := 59) rfl ?_); refine goesL_ (some 18) rfl rfl Try.func59 (by kernel_rfl) rfl #[.slice Ao9 x5_1.length co9, .slice Ao10 x0_1.length co10] rfl (by (try simp only [List.map_toArray, List.map_cons, List.map_nil]); rfl) ?_; (with_reducible refine (lgtimes.calls k1 _ _ x5_1 _ _ x0_1 t326 _ ?side1 ?side2 ?side3 ?side4 A7.out).mono ?_); (case side1 => repeat (first | exact (Kd.S_reads' HO_5.out).2.2)); (case side2 => exact (Kd.S_reads' HO_5.out).2.1); (case side3 => repeat (first | exact (Kd.V_reads' HO_0.out).2.2)); (case side4 => exact (Kd.V_reads' HO_0.out).2.1); rintro e w11 ⟨v327, rfl, ho0, hb⟩; refine ⟨_, rfl, ?_⟩; have n0_ := Aside0.mk (Kd.V_elder' (by exact HO_0.out) (Kd.S_base ho0) hb); have n1_ := Aside0.mk (Kd.S_elder' (by exact HO_5.out) (Kd.S_base ho0) hb); have n2_ := Aside0.mk (Kd.S_lower (Kd.S_new' (Kd.S_newM (M := fun k_ => (w.heap.size ≤ k_)) ho0 (below_size (HB.out)) (fun k_ h_ => h_)) (Kd.S_lt (by exact HO_5.out))) (below_size (HB.out))); have n3_ := Aside0.mk (below_step (HB.out) hb); clear HO_0; clear HO_5; clear HB; have HO_0 := n0_; have HO_5 := n1_; have HO328 := n2_; have HB := n3_; clear n0_ n1_ n2_ n3_) | ((with_reducible refine gate_callee (f := 59) rfl ?_); refine goesL_ (some 21) rfl rfl Try.func59 (by kernel_rfl) rfl #[.slice Ao10 x0_1.length co10, .slice Ao10 x0_1.length co10] rfl (by (try simp only [List.map_toArray, List.map_cons, List.map_nil]); rfl) ?_; (with_reducible refine (lgtimes.calls k1 _ _ x0_1 _ _ x0_1 t329 _ ?side1 ?side2 ?side3 ?side4 A8.out).mono ?_); (case side1 => repeat (first | exact (Kd.V_reads' HO_0.out).2.2)); (case side2 => exact (Kd.V_reads' HO_0.out).2.1); (case side3 => repeat (first | exact (Kd.V_reads' HO_0.out).2.2)); (case side4 => exact (Kd.V_reads' HO_0.out).2.1); rintro e w12 ⟨v330, rfl, ho0, hb⟩; refine ⟨_, rfl, ?_⟩; have n0_ := Aside0.mk (Kd.V_elder' (by exact HO_0.out) (Kd.S_base ho0) hb); have n1_ := Aside0.mk (Kd.S_elder' (by exact HO_5.out) (Kd.S_base ho0) hb); have n2_ := Aside0.mk (Kd.S_elder' (by exact HO328.out) (Kd.S_base ho0) hb); have n3_ := Aside0.mk (Kd.S_lower (Kd.S_new' (Kd.S_new' (Kd.S_newM (M := fun k_ => (w.heap.size ≤ k_)) ho0 (below_size (HB.out)) (fun k_ h_ => h_)) (Kd.S_lt (by exact HO_5.out))) (Kd.S_lt (by exact HO328.out))) (below_size (HB.out))); have n4_ := Aside0.mk (below_step (HB.out) hb); clear HO_0; clear HO_5; clear HO328; clear HB; have HO_0 := n0_; have HO_5 := n1_; have HO328 := n2_; have HO331 := n3_; have HB := n4_; clear n0_ n1_ n2_ n3_ n4_))
     go_roundg k1
     case measure => have := HK1.out; omega
     case rel => exact ⟨(t329), (wrap64 (Int.tdiv x1_1 2)), (t326), rfl, H', ⟨by have := HK1.out; omega⟩, ⟨Kd.V_mono (Kd.S_V (by exact HO331.out)) (fun k_ hk => by exact ⟨.inr (hk.1.1.1), hk.2⟩)⟩, ⟨by exact Kd.S_mono HO328.out (fun _ hk => hk.1.1.1)⟩, ⟨HB.out⟩⟩
    ·
     rw [if_neg c6] at H
     have c6b0 : ((Int.tmod x1_1 2) == 1) = false := beq_eq_false_iff_ne.mpr c6
     replace H := Option.bind_eq_some_iff.mp H
     obtain ⟨t332, A130, H⟩ := H
     replace H : (lgpower.l0 k1 t332 (wrap64 (Int.tdiv x1_1 2)) x5_1) = some r := H
     have A13 := Aside0.mk A130
     clear A130
     have H' := Aside0.mk H
     clear H
     obtain ⟨Ao14, co14, eo14⟩ := Kd.V_slice HO_0.out
     subst eo14
     go_wp2_with (first | ((with_reducible refine gate_callee (f := 59) rfl ?_); refine goesL_ (some 21) rfl rfl Try.func59 (by kernel_rfl) rfl #[.slice Ao14 x0_1.length co14, .slice Ao14 x0_1.length co14] rfl (by (try simp only [List.map_toArray, List.map_cons, List.map_nil]); rfl) ?_; (with_reducible refine (lgtimes.calls k1 _ _ x0_1 _ _ x0_1 t332 _ ?side1 ?side2 ?side3 ?side4 A13.out).mono ?_); (case side1 => repeat (first | exact (Kd.V_reads' HO_0.out).2.2)); (case side2 => exact (Kd.V_reads' HO_0.out).2.1); (case side3 => repeat (first | exact (Kd.V_reads' HO_0.out).2.2)); (case side4 => exact (Kd.V_reads' HO_0.out).2.1); rintro e w15 ⟨v333, rfl, ho0, hb⟩; refine ⟨_, rfl, ?_⟩; have n0_ := Aside0.mk (Kd.V_elder' (by exact HO_0.out) (Kd.S_base ho0) hb); have n1_ := Aside0.mk (Kd.S_elder' (by exact HO_5.out) (Kd.S_base ho0) hb); have n2_ := Aside0.mk (Kd.S_lower (Kd.S_new' (Kd.S_newM (M := fun k_ => (w.heap.size ≤ k_)) ho0 (below_size (HB.out)) (fun k_ h_ => h_)) (Kd.S_lt (by exact HO_5.out))) (below_size (HB.out))); have n3_ := Aside0.mk (below_step (HB.out) hb); clear HO_0; clear HO_5; clear HB; have HO_0 := n0_; have HO_5 := n1_; have HO334 := n2_; have HB := n3_; clear n0_ n1_ n2_ n3_))
     go_roundg k1
     case measure => have := HK1.out; omega
     case rel => exact ⟨(t332), (wrap64 (Int.tdiv x1_1 2)), (x5_1), rfl, H', ⟨by have := HK1.out; omega⟩, ⟨Kd.V_mono (Kd.S_V (by exact HO334.out)) (fun k_ hk => by exact ⟨.inr (hk.1.1), hk.2⟩)⟩, ⟨by exact Kd.S_mono HO_5.out (fun _ hk => hk.1)⟩, ⟨HB.out⟩⟩
   ·
    rw [if_neg c5] at H
    have c5b0 : decide (0 < x1_1) = false := decide_eq_false c5
    clear c5
    obtain rfl := Option.some.inj H
    go_wp2
    go_ret
    exact ⟨_, rfl, by exact HO_5.out, HB.out⟩

def slices_Equal_int_int.l0 : Nat → List Int → List Int → Int → Int → Option (Bool)
 | 0, _, _, _, _ => none
 | k + 1, x0, x1, x12, x13 => if x13 < x12 then (if 0 ≤ x13 then (if x13 < (x0.length : Int) then (if x13 < (x1.length : Int) then (if (rd x0 x13) = (rd x1 x13) then (slices_Equal_int_int.l0 k x0 x1 x12 (wrap64 (x13 + 1))) else (some false)) else (none)) else (none)) else (none)) else (some true)
def slices_Equal_int_int.f (k : Nat) (l0 : List Int) (l1 : List Int) : Option (Bool) := if (l0.length : Int) = (l1.length : Int) then (slices_Equal_int_int.l0 k l0 l1 (l0.length : Int) 0) else (some false)
theorem slices_Equal_int_int.mono_l : ∀ k, (∀ y0 y1 y2 y3, LeO (slices_Equal_int_int.l0 k y0 y1 y2 y3) (slices_Equal_int_int.l0 (k + 1) y0 y1 y2 y3))
 | 0 => fun _ _ _ _ r h => by simp [slices_Equal_int_int.l0] at h
 | k + 1 => by
  have ih0 := slices_Equal_int_int.mono_l k
  ·
   intro y0 y1 y2 y3
   unfold slices_Equal_int_int.l0
   repeat' first
   | (with_reducible exact LeO.refl _)
   | (with_reducible exact LeO.none _)
   | (with_reducible refine LeO.ite ?_ ?_)
   | (with_reducible refine LeO.bind ?_ (fun _ => ?_))
   | exact ih0 _ _ _ _
   | exact LeO.none _
   | refine LeO.ite ?_ ?_
   | refine LeO.bind ?_ (fun _ => ?_)
theorem slices_Equal_int_int.mono : ∀ a0 a1 k, LeO (slices_Equal_int_int.f k a0 a1) (slices_Equal_int_int.f (k + 1) a0 a1) := by
 intro a0 a1 k
 have ih0 := slices_Equal_int_int.mono_l k
 unfold slices_Equal_int_int.f
 repeat' first
   | (with_reducible exact LeO.refl _)
   | (with_reducible exact LeO.none _)
   | (with_reducible refine LeO.ite ?_ ?_)
   | (with_reducible refine LeO.bind ?_ (fun _ => ?_))
   | exact ih0 _ _ _ _
   | exact LeO.none _
   | refine LeO.ite ?_ ?_
   | refine LeO.bind ?_ (fun _ => ?_)
set_option maxHeartbeats 8000000 in
set_option maxRecDepth 100000 in
theorem slices_Equal_int_int.calls (k : Nat) (A0 : Option Addr) (c0 : Nat) (l0 : List Int) (A1 : Option Addr) (c1 : Nat) (l1 : List Int) (r : Bool) (w : World) (hr0 : Kd.C (Kd.int .i64) w A0 l0.length l0) (hc0 : l0.length ≤ c0) (hr1 : Kd.C (Kd.int .i64) w A1 l1.length l1) (hc1 : l1.length ≤ c1) (h : slices_Equal_int_int.f k l0 l1 = some r) :
  Calls Try.prog 60 #[.slice A0 l0.length c0, .slice A1 l1.length c1] w fun e w' => e = .returned (.bool r) ∧ Drawn0 w w' := by
 have HR0 := Aside0.mk hr0
 have HC0 := Aside0.mk hc0
 clear hr0 hc0
 have HR1 := Aside0.mk hr1
 have HC1 := Aside0.mk hc1
 clear hr1 hc1
 have H : (if (l0.length : Int) = (l1.length : Int) then (slices_Equal_int_int.l0 k l0 l1 (l0.length : Int) 0) else (some false)) = some r := h
 clear h
 by_cases c3 : (l0.length : Int) = (l1.length : Int)
 ·
  rw [if_pos c3] at H
  have c3b0 : ((l0.length : Int) == (l1.length : Int)) = true := beq_iff_eq.mpr c3
  have c3b2 : (l0.length == l1.length) = true := by first | simpa using c3 | (simp at c3 ⊢; omega)
  clear c3
  have H' := Aside0.mk H
  clear H
  go_enter Try.func60, Try.ntmps60
  go_wp2
  go_loopg [13] k (fun kq v13 w' => ∃ (x13_1 : Int), v13 = .int .i64 x13_1 ∧ Aside0 (slices_Equal_int_int.l0 kq l0 l1 (l0.length : Int) x13_1 = some r) ∧ Aside0 (kq ≤ k) ∧ Drawn0 w w')
  case atStart => exact ⟨(0), rfl, H', ⟨Nat.le_refl _⟩, by repeat (first | exact Drawn0.refl _ | apply Drawn0.step)⟩
  case round =>
   clear H'
   obtain ⟨x13_1, rfl, HA, HK1, ⟨m1, rfl⟩⟩ := hrel
   cases gk with
   | zero => exact absurd HA.out (by simp [slices_Equal_int_int.l0])
   | succ k1 =>
    have H := HA.out
    clear HA
    simp only [slices_Equal_int_int.l0] at H
    by_cases c4 : x13_1 < (l0.length : Int)
    ·
     rw [if_pos c4] at H
     have c4b0 : decide (x13_1 < (l0.length : Int)) = true := decide_eq_true c4
     clear c4
     by_cases c5 : 0 ≤ x13_1
     ·
      rw [if_pos c5] at H
      have c5b0 : decide (0 ≤ x13_1) = true := decide_eq_true c5
      clear c5
      by_cases c6 : x13_1 < (l0.length : Int)
      ·
       rw [if_pos c6] at H
       have c6b0 : decide (x13_1 < (l0.length : Int)) = true := decide_eq_true c6
       clear c6
       by_cases c7 : x13_1 < (l1.length : Int)
       ·
        rw [if_pos c7] at H
        have c7b0 : decide (x13_1 < (l1.length : Int)) = true := decide_eq_true c7
        clear c7
        by_cases c8 : (rd l0 x13_1) = (rd l1 x13_1)
        ·
         rw [if_pos c8] at H
         have c8b0 : ((rd l0 x13_1) == (rd l1 x13_1)) = true := beq_iff_eq.mpr c8
         clear c8
         have H' := Aside0.mk H
         clear H
         have p335 : 0 ≤ (x13_1 : Int) := of_decide_eq_true (by assumption)
         have q335 : x13_1 < (l0.length : Int) := of_decide_eq_true (by assumption)
         obtain ⟨ad335, e335, hx335_0⟩ := Kd.at_int HR0.out x13_1 p335 q335
         cases e335
         replace p335 := eq_true p335
         replace q335 := eq_true q335
         have p336 : 0 ≤ (x13_1 : Int) := of_decide_eq_true (by assumption)
         have q336 : x13_1 < (l1.length : Int) := of_decide_eq_true (by assumption)
         obtain ⟨ad336, e336, hx336_0⟩ := Kd.at_int HR1.out x13_1 p336 q336
         cases e336
         replace p336 := eq_true p336
         replace q336 := eq_true q336
         go_wp2
         repeat (go_quiet (fail); try go_wp2)
         go_roundg k1
         case measure => have := HK1.out; omega
         case rel => exact ⟨(wrap64 (x13_1 + 1)), rfl, H', ⟨by have := HK1.out; omega⟩, by repeat (first | exact Drawn0.refl _ | apply Drawn0.step)⟩
        ·
         rw [if_neg c8] at H
         have c8b0 : ((rd l0 x13_1) == (rd l1 x13_1)) = false := beq_eq_false_iff_ne.mpr c8
         obtain rfl := Option.some.inj H
         have p335 : 0 ≤ (x13_1 : Int) := of_decide_eq_true (by assumption)
         have q335 : x13_1 < (l0.length : Int) := of_decide_eq_true (by assumption)
         obtain ⟨ad335, e335, hx335_0⟩ := Kd.at_int HR0.out x13_1 p335 q335
         cases e335
         replace p335 := eq_true p335
         replace q335 := eq_true q335
         have p336 : 0 ≤ (x13_1 : Int) := of_decide_eq_true (by assumption)
         have q336 : x13_1 < (l1.length : Int) := of_decide_eq_true (by assumption)
         obtain ⟨ad336, e336, hx336_0⟩ := Kd.at_int HR1.out x13_1 p336 q336
         cases e336
         replace p336 := eq_true p336
         replace q336 := eq_true q336
         go_wp2
         repeat (go_quiet (fail); try go_wp2)
         go_ret
         exact ⟨by first | rfl | (simp; done) | (simp [*]; done), by repeat (first | exact Drawn0.refl _ | apply Drawn0.step)⟩
       ·
        rw [if_neg c7] at H
        exact absurd H (by simp)
      ·
       rw [if_neg c6] at H
       exact absurd H (by simp)
     ·
      rw [if_neg c5] at H
      exact absurd H (by simp)
    ·
     rw [if_neg c4] at H
     have c4b0 : decide (x13_1 < (l0.length : Int)) = false := decide_eq_false c4
     clear c4
     obtain rfl := Option.some.inj H
     go_wp2
     go_ret
     exact ⟨by first | rfl | (simp; done) | (simp [*]; done), by repeat (first | exact Drawn0.refl _ | apply Drawn0.step)⟩
 ·
  rw [if_neg c3] at H
  have c3b0 : ((l0.length : Int) == (l1.length : Int)) = false := beq_eq_false_iff_ne.mpr c3
  have c3b2 : (l0.length == l1.length) = false := by first | simpa using c3 | (simp at c3 ⊢; omega)
  obtain rfl := Option.some.inj H
  go_enter Try.func60, Try.ntmps60
  go_wp2
  go_ret
  exact ⟨by first | rfl | (simp; done) | (simp [*]; done), by repeat (first | exact Drawn0.refl _ | apply Drawn0.step)⟩

def lgmapped_add.f (k : Nat) (l0 : List (List Int)) (a1 : Int) : Option ((List (List Int))) := lgmapped.f (fun e => some (wrap64 (e + a1))) k l0 0
theorem lgmapped_add.mono : ∀ a0 a1 k, LeO (lgmapped_add.f k a0 a1) (lgmapped_add.f (k + 1) a0 a1) := fun a0 _ k => lgmapped.mono _ a0 0 k
theorem line_Regime_1_1.calls (add x : Int) (b : Nat) (r : Int) (w : World) (h0 : w.cell? ⟨b, 0, none⟩ = some (.int .i64 add)) (h : some (wrap64 (x + add)) = some r) :
  Calls Try.prog 58 #[.int .i64 x, .pointer (some ⟨b, 0, none⟩)] w fun e w' => e = .returned (.int .i64 r) ∧ Drawn0 w w' := by
 obtain rfl := Option.some.inj h
 clear h
 go_enter Try.func58, Try.ntmps58
 go_wp2
 go_ret
 exact ⟨by rfl, Drawn0.refl _⟩
theorem lgmapped_add.calls (k : Nat) (A0 : Option Addr) (c0 : Nat) (l0 : List (List Int)) (a1 : Int) (r : List (List Int)) (w : World) (hr0 : Kd.C (Kd.slice 3 (Kd.int .i64)) w A0 l0.length l0) (hc0 : l0.length ≤ c0) (h : lgmapped_add.f k l0 a1 = some r) (b : Nat) (hb : b < w.heap.size) (hba : w.cell? ⟨b, 0, none⟩ = some (.int .i64 a1)) :
  Calls Try.prog 57 #[.slice A0 l0.length c0, .func (.func 58) #[] #[.pointer (some ⟨b, 0, none⟩)]] w fun e w' => ∃ v0_ : Value, e = .returned (v0_) ∧ Kd.S (Kd.slice 3 (Kd.int .i64)) 26 w' w.heap.size (fun _ => True) v0_ r ∧ Below w.heap.size w w' :=
 lgmapped.calls _ 58 _ #[.pointer (some ⟨b, 0, none⟩)] Try.func58 (by kernel_rfl) rfl k A0 c0 l0 0 r w hr0 hc0 (fun w' hw x r hx => line_Regime_1_1.calls a1 x b r w' ((hw.cell (p := ⟨b, 0, none⟩) hb).trans hba) hx) h

def line_Regime_1.l0 : Nat → List (List Int) → List (List Int) → Int → Int → Option (Bool)
 | 0, _, _, _, _ => none
 | k + 1, x7, x22, x23, x24 => if x24 < x23 then (if 0 ≤ x24 then (if x24 < (x22.length : Int) then (if x24 < (x7.length : Int) then ((slices_Equal_int_int.f k (rd_L1 x22 x24) (rd_L1 x7 x24)).bind fun t366 => (if t366 = true then (line_Regime_1.l0 k x7 x22 x23 (wrap64 (x24 + 1))) else (some false))) else (none)) else (none)) else (none)) else (some true)
def line_Regime_1.f (k : Nat) (a0 : Int) (l1 : List (List Int)) (a2 : Int) (a3 : Int) : Option (Bool) := (lgpower.f k l1 a0).bind fun t352 => ((lgmapped_add.f k t352 a2).bind fun t355 => ((lgpower.f k l1 a3).bind fun t358 => ((lgtimes.f k t352 t358).bind fun t361 => (line_Regime_1.l0 k t355 t361 (t361.length : Int) 0))))
theorem line_Regime_1.mono_l : ∀ k, (∀ y0 y1 y2 y3, LeO (line_Regime_1.l0 k y0 y1 y2 y3) (line_Regime_1.l0 (k + 1) y0 y1 y2 y3))
 | 0 => fun _ _ _ _ r h => by simp [line_Regime_1.l0] at h
 | k + 1 => by
  have ih0 := line_Regime_1.mono_l k
  ·
   intro y0 y1 y2 y3
   unfold line_Regime_1.l0
   repeat' first
   | (with_reducible exact LeO.refl _)
   | (with_reducible exact LeO.none _)
   | (with_reducible refine LeO.ite ?_ ?_)
   | (with_reducible refine LeO.bind ?_ (fun _ => ?_))
   | exact ih0 _ _ _ _
   | exact lgmapped_add.mono _ _ _
   | exact lgpower.mono _ _ _
   | exact lgtimes.mono _ _ _
   | exact slices_Equal_int_int.mono _ _ _
   | exact LeO.none _
   | refine LeO.ite ?_ ?_
   | refine LeO.bind ?_ (fun _ => ?_)
theorem line_Regime_1.mono : ∀ a0 a1 a2 a3 k, LeO (line_Regime_1.f k a0 a1 a2 a3) (line_Regime_1.f (k + 1) a0 a1 a2 a3) := by
 intro a0 a1 a2 a3 k
 have ih0 := line_Regime_1.mono_l k
 unfold line_Regime_1.f
 repeat' first
   | (with_reducible exact LeO.refl _)
   | (with_reducible exact LeO.none _)
   | (with_reducible refine LeO.ite ?_ ?_)
   | (with_reducible refine LeO.bind ?_ (fun _ => ?_))
   | exact ih0 _ _ _ _
   | exact lgmapped_add.mono _ _ _
   | exact lgpower.mono _ _ _
   | exact lgtimes.mono _ _ _
   | exact slices_Equal_int_int.mono _ _ _
   | exact LeO.none _
   | refine LeO.ite ?_ ?_
   | refine LeO.bind ?_ (fun _ => ?_)
set_option maxHeartbeats 8000000 in
set_option maxRecDepth 100000 in
theorem line_Regime_1.calls (k : Nat) (a0 : Int) (A1 : Option Addr) (c1 : Nat) (l1 : List (List Int)) (a2 : Int) (a3 : Int) (r : Bool) (w : World) (hr1 : Kd.C (Kd.slice 3 (Kd.int .i64)) w A1 l1.length l1) (hc1 : l1.length ≤ c1) (h : line_Regime_1.f k a0 l1 a2 a3 = some r) (bl ba bc : Nat) (hbl : bl < w.heap.size) (hba : ba < w.heap.size) (hbc : bc < w.heap.size) (hl : w.cell? ⟨bl, 0, none⟩ = some (.slice A1 l1.length c1)) (ha : w.cell? ⟨ba, 0, none⟩ = some (.int .i64 a2)) (hc : w.cell? ⟨bc, 0, none⟩ = some (.int .i64 a3)) :
  Calls Try.prog 55 #[.int .i64 a0, .pointer (some ⟨bl, 0, none⟩), .pointer (some ⟨ba, 0, none⟩), .pointer (some ⟨bc, 0, none⟩)] w fun e w' => e = .returned (.bool r) ∧ Below w.heap.size w w' := by
 have HBL := Aside0.mk hbl
 have HBA := Aside0.mk hba
 have HBC := Aside0.mk hbc
 have HCL := Aside0.mk hl
 have HCA := Aside0.mk ha
 have HCC := Aside0.mk hc
 clear hbl hba hbc
 have HR1 := Aside0.mk hr1
 have HC1 := Aside0.mk hc1
 clear hr1 hc1
 have HB := Aside0.mk (Below.refl w.heap.size w)
 have H : ((lgpower.f k l1 a0).bind fun t352 => ((lgmapped_add.f k t352 a2).bind fun t355 => ((lgpower.f k l1 a3).bind fun t358 => ((lgtimes.f k t352 t358).bind fun t361 => (line_Regime_1.l0 k t355 t361 (t361.length : Int) 0))))) = some r := h
 clear h
 replace H := Option.bind_eq_some_iff.mp H
 obtain ⟨t352, A50, H⟩ := H
 replace H : ((lgmapped_add.f k t352 a2).bind fun t355 => ((lgpower.f k l1 a3).bind fun t358 => ((lgtimes.f k t352 t358).bind fun t361 => (line_Regime_1.l0 k t355 t361 (t361.length : Int) 0)))) = some r := H
 have A5 := Aside0.mk A50
 clear A50
 replace H := Option.bind_eq_some_iff.mp H
 obtain ⟨t355, A60, H⟩ := H
 replace H : ((lgpower.f k l1 a3).bind fun t358 => ((lgtimes.f k t352 t358).bind fun t361 => (line_Regime_1.l0 k t355 t361 (t361.length : Int) 0))) = some r := H
 have A6 := Aside0.mk A60
 clear A60
 replace H := Option.bind_eq_some_iff.mp H
 obtain ⟨t358, A70, H⟩ := H
 replace H : ((lgtimes.f k t352 t358).bind fun t361 => (line_Regime_1.l0 k t355 t361 (t361.length : Int) 0)) = some r := H
 have A7 := Aside0.mk A70
 clear A70
 replace H := Option.bind_eq_some_iff.mp H
 obtain ⟨t361, A80, H⟩ := H
 replace H : (line_Regime_1.l0 k t355 t361 (t361.length : Int) 0) = some r := H
 have A8 := Aside0.mk A80
 clear A80
 have H' := Aside0.mk H
 clear H
 go_enter Try.func55, Try.ntmps55
 go_wp2_with (first | ((with_reducible refine gate_callee (f := 56) rfl ?_); refine goesL_ (some 13) rfl rfl Try.func56 (by kernel_rfl) rfl #[.slice A1 l1.length c1, .int .i64 a0] rfl (by (try simp only [List.map_toArray, List.map_cons, List.map_nil]); rfl) ?_; (with_reducible refine (lgpower.calls k (fun k_ => k_ < w.heap.size) _ _ l1 a0 t352 _ ?side1 A5.out).mono ?_); (case side1 => exact Kd.V_mk HC1.out (Kd.F_below (Kd.C_F (Kd.heap_slice 3 (Kd.heap_int .i64)) HR1.out) (HB.out))); rintro e w9 ⟨v353, rfl, ho0, hb⟩; refine ⟨_, rfl, ?_⟩; have n0_ := Aside0.mk (Kd.S_lower (Kd.S_mono (ok' := fun k_ => True) ho0 (fun _ hk_ => trivial)) (below_size (HB.out))); have n1_ := Aside0.mk (below_step (HB.out) hb); clear HB; have HO354 := n0_; have HB := n1_; have hlw9 := (HB.out.cell (p := ⟨bl, 0, none⟩) HBL.out).trans HCL.out; have hcw9 := (HB.out.cell (p := ⟨bc, 0, none⟩) HBC.out).trans HCC.out; clear n0_ n1_; obtain ⟨Ao10, co10, eo10⟩ := Kd.S_slice HO354.out; subst eo10) | ((with_reducible refine gate_callee (f := 57) rfl ?_); refine goesL_ (some 16) rfl rfl Try.func57 (by kernel_rfl) rfl #[.slice Ao10 t352.length co10, .func (.func 58) #[] #[.pointer (some ⟨ba, 0, none⟩)]] rfl (by (try simp only [List.map_toArray, List.map_cons, List.map_nil]); rfl) ?_; (with_reducible refine (lgmapped_add.calls k _ _ t352 a2 t355 _ ?side1 ?side2 A6.out ba (Nat.lt_of_lt_of_le HBA.out (below_size HB.out)) ((HB.out.cell (p := ⟨ba, 0, none⟩) HBA.out).trans HCA.out)).mono ?_); (case side1 => repeat (first | exact (Kd.S_reads' HO354.out).2.2)); (case side2 => exact (Kd.S_reads' HO354.out).2.1); rintro e w11 ⟨v356, rfl, ho0, hb⟩; refine ⟨_, rfl, ?_⟩; have n0_ := Aside0.mk (Kd.S_elder' (by exact HO354.out) (Kd.S_base ho0) hb); have n1_ := Aside0.mk (Kd.S_lower (Kd.S_new' ho0 (Kd.S_lt (by exact HO354.out))) (below_size (HB.out))); have n2_ := Aside0.mk (below_step (HB.out) hb); clear HO354; clear HB; have HO354 := n0_; have HO357 := n1_; have HB := n2_; have hlw11 := (HB.out.cell (p := ⟨bl, 0, none⟩) HBL.out).trans HCL.out; have hcw11 := (HB.out.cell (p := ⟨bc, 0, none⟩) HBC.out).trans HCC.out; clear n0_ n1_ n2_) | ((with_reducible refine gate_callee (f := 56) rfl ?_); refine goesL_ (some 21) rfl rfl Try.func56 (by kernel_rfl) rfl #[.slice A1 l1.length c1, .int .i64 a3] rfl (by (try simp only [List.map_toArray, List.map_cons, List.map_nil]); rfl) ?_; (with_reducible refine (lgpower.calls k (fun k_ => k_ < w.heap.size) _ _ l1 a3 t358 _ ?side1 A7.out).mono ?_); (case side1 => exact Kd.V_mk HC1.out (Kd.F_below (Kd.C_F (Kd.heap_slice 3 (Kd.heap_int .i64)) HR1.out) (HB.out))); rintro e w12 ⟨v359, rfl, ho0, hb⟩; refine ⟨_, rfl, ?_⟩; have n0_ := Aside0.mk (Kd.S_elder' (by exact HO354.out) (Kd.S_base ho0) hb); have n1_ := Aside0.mk (Kd.S_elder' (by exact HO357.out) (Kd.S_base ho0) hb); have n2_ := Aside0.mk (Kd.S_lower (Kd.S_new' (Kd.S_new' (Kd.S_mono (ok' := fun k_ => True) ho0 (fun _ hk_ => trivial)) (Kd.S_lt (by exact HO354.out))) (Kd.S_lt (by exact HO357.out))) (below_size (HB.out))); have n3_ := Aside0.mk (below_step (HB.out) hb); clear HO354; clear HO357; clear HB; have HO354 := n0_; have HO357 := n1_; have HO360 := n2_; have HB := n3_; have hlw12 := (HB.out.cell (p := ⟨bl, 0, none⟩) HBL.out).trans HCL.out; have hcw12 := (HB.out.cell (p := ⟨bc, 0, none⟩) HBC.out).trans HCC.out; clear n0_ n1_ n2_ n3_; obtain ⟨Ao13, co13, eo13⟩ := Kd.S_slice HO360.out; subst eo13) | ((with_reducible refine gate_callee (f := 59) rfl ?_); refine goesL_ (some 22) rfl rfl Try.func59 (by kernel_rfl) rfl #[.slice Ao10 t352.length co10, .slice Ao13 t358.length co13] rfl (by (try simp only [List.map_toArray, List.map_cons, List.map_nil]); rfl) ?_; (with_reducible refine (lgtimes.calls k _ _ t352 _ _ t358 t361 _ ?side1 ?side2 ?side3 ?side4 A8.out).mono ?_); (case side1 => repeat (first | exact (Kd.S_reads' HO354.out).2.2)); (case side2 => exact (Kd.S_reads' HO354.out).2.1); (case side3 => repeat (first | exact (Kd.S_reads' HO360.out).2.2)); (case side4 => exact (Kd.S_reads' HO360.out).2.1); rintro e w14 ⟨v362, rfl, ho0, hb⟩; refine ⟨_, rfl, ?_⟩; have n0_ := Aside0.mk (Kd.S_elder' (by exact HO354.out) (Kd.S_base ho0) hb); have n1_ := Aside0.mk (Kd.S_elder' (by exact HO357.out) (Kd.S_base ho0) hb); have n2_ := Aside0.mk (Kd.S_elder' (by exact HO360.out) (Kd.S_base ho0) hb); have n3_ := Aside0.mk (Kd.S_lower (Kd.S_new' (Kd.S_new' (Kd.S_new' ho0 (Kd.S_lt (by exact HO354.out))) (Kd.S_lt (by exact HO357.out))) (Kd.S_lt (by exact HO360.out))) (below_size (HB.out))); have n4_ := Aside0.mk (below_step (HB.out) hb); clear HO354; clear HO357; clear HO360; clear HB; have HO354 := n0_; have HO357 := n1_; have HO360 := n2_; have HO363 := n3_; have HB := n4_; have hlw14 := (HB.out.cell (p := ⟨bl, 0, none⟩) HBL.out).trans HCL.out; have hcw14 := (HB.out.cell (p := ⟨bc, 0, none⟩) HBC.out).trans HCC.out; clear n0_ n1_ n2_ n3_ n4_; obtain ⟨Ao15, co15, eo15⟩ := Kd.S_slice HO363.out; subst eo15))
 go_loopg [24] k (fun kq v24 w' => ∃ (x24_1 : Int), v24 = .int .i64 x24_1 ∧ Aside0 (line_Regime_1.l0 kq t355 t361 (t361.length : Int) x24_1 = some r) ∧ Aside0 (kq ≤ k) ∧ Aside0 (Kd.S (Kd.slice 3 (Kd.int .i64)) 26 w' w.heap.size (fun k_ => some k_ ≠ ((.slice Ao15 t361.length co15) : Value).ownBlock) v356 t355) ∧ Aside0 (Kd.S (Kd.slice 3 (Kd.int .i64)) 26 w' w.heap.size (fun k_ => some k_ ≠ (v356 : Value).ownBlock) (.slice Ao15 t361.length co15) t361) ∧ Aside0 (Below w.heap.size w w'))
 case atStart => exact ⟨(0), rfl, H', ⟨Nat.le_refl _⟩, ⟨by exact Kd.S_mono HO357.out (fun _ hk => hk.2)⟩, ⟨by exact Kd.S_mono HO363.out (fun _ hk => hk.1.2)⟩, ⟨HB.out⟩⟩
 case round =>
  clear H'
  obtain ⟨x24_1, rfl, HA, HK1, HO_7, HO_22, HB⟩ := hrel
  cases gk with
  | zero => exact absurd HA.out (by simp [line_Regime_1.l0])
  | succ k1 =>
   have H := HA.out
   clear HA
   simp only [line_Regime_1.l0] at H
   by_cases c16 : x24_1 < (t361.length : Int)
   ·
    rw [if_pos c16] at H
    have c16b0 : decide (x24_1 < (t361.length : Int)) = true := decide_eq_true c16
    clear c16
    by_cases c17 : 0 ≤ x24_1
    ·
     rw [if_pos c17] at H
     have c17b0 : decide (0 ≤ x24_1) = true := decide_eq_true c17
     clear c17
     by_cases c18 : x24_1 < (t361.length : Int)
     ·
      rw [if_pos c18] at H
      have c18b0 : decide (x24_1 < (t361.length : Int)) = true := decide_eq_true c18
      clear c18
      by_cases c19 : x24_1 < (t355.length : Int)
      ·
       rw [if_pos c19] at H
       have c19b0 : decide (x24_1 < (t355.length : Int)) = true := decide_eq_true c19
       clear c19
       replace H := Option.bind_eq_some_iff.mp H
       obtain ⟨t366, A200, H⟩ := H
       replace H : (if t366 = true then (line_Regime_1.l0 k1 t355 t361 (t361.length : Int) (wrap64 (x24_1 + 1))) else (some false)) = some r := H
       have A20 := Aside0.mk A200
       clear A200
       by_cases c21 : t366 = true
       ·
        subst c21
        have H1 : (line_Regime_1.l0 k1 t355 t361 (t361.length : Int) (wrap64 (x24_1 + 1))) = some r := by rw [if_pos rfl] at H; exact H
        clear H
        have H := H1
        clear H1
        have H' := Aside0.mk H
        clear H
        have p364 : 0 ≤ (x24_1 : Int) := of_decide_eq_true (by assumption)
        have q364 : x24_1 < (t361.length : Int) := of_decide_eq_true (by assumption)
        obtain ⟨ad364, A364_0, c364_0, e364, hx364_0, hl364_0, hi364_0⟩ := at_L1 (Kd.S_reads' HO_22.out).2.2 x24_1 p364 q364
        cases e364
        obtain ⟨ce364, hce364, hMe364, hcc364⟩ := Kd.S_get HO_22.out [] x24_1 p364 (by first | exact q364 | exact of_decide_eq_true (by assumption) | (have e_ := (Kd.S_reads' HO_22.out).1; omega))
        obtain ⟨ve364_0, rfl, ge364_0⟩ := hMe364
        have hv364_0 := hcc364 0 _ rfl
        rw [Nat.add_zero, show ((Kd.slice 3 (Kd.int .i64))).sz = 1 from rfl, Nat.mul_one] at hv364_0
        replace hv364_0 := Option.some.inj (hv364_0.symm.trans hx364_0)
        rw [hv364_0] at ge364_0
        have HL364_0 := Aside0.mk (show Kd.R (Kd.int .i64) 3 _ _ _ _ (rd_L1 t361 x24_1) from ge364_0)
        clear hv364_0 ge364_0
        clear hcc364 hce364
        have HR364_0 := Aside0.mk hi364_0
        have HC364_0 := Aside0.mk hl364_0
        clear hi364_0 hl364_0
        replace p364 := eq_true p364
        replace q364 := eq_true q364
        obtain ⟨Ao22, co22, eo22⟩ := Kd.S_slice HO_7.out
        subst eo22
        have p365 : 0 ≤ (x24_1 : Int) := of_decide_eq_true (by assumption)
        have q365 : x24_1 < (t355.length : Int) := of_decide_eq_true (by assumption)
        obtain ⟨ad365, A365_0, c365_0, e365, hx365_0, hl365_0, hi365_0⟩ := at_L1 (Kd.S_reads' HO_7.out).2.2 x24_1 p365 q365
        cases e365
        obtain ⟨ce365, hce365, hMe365, hcc365⟩ := Kd.S_get HO_7.out [] x24_1 p365 (by first | exact q365 | exact of_decide_eq_true (by assumption) | (have e_ := (Kd.S_reads' HO_7.out).1; omega))
        obtain ⟨ve365_0, rfl, ge365_0⟩ := hMe365
        have hv365_0 := hcc365 0 _ rfl
        rw [Nat.add_zero, show ((Kd.slice 3 (Kd.int .i64))).sz = 1 from rfl, Nat.mul_one] at hv365_0
        replace hv365_0 := Option.some.inj (hv365_0.symm.trans hx365_0)
        rw [hv365_0] at ge365_0
        have HL365_0 := Aside0.mk (show Kd.R (Kd.int .i64) 3 _ _ _ _ (rd_L1 t355 x24_1) from ge365_0)
        clear hv365_0 ge365_0
        clear hcc365 hce365
        have HR365_0 := Aside0.mk hi365_0
        have HC365_0 := Aside0.mk hl365_0
        clear hi365_0 hl365_0
        replace p365 := eq_true p365
        replace q365 := eq_true q365
        go_wp2_with (first | ((with_reducible refine gate_callee (f := 60) rfl ?_); refine goesL_ (some 34) rfl rfl Try.func60 (by kernel_rfl) rfl #[.slice A364_0 (rd_L1 t361 x24_1).length c364_0, .slice A365_0 (rd_L1 t355 x24_1).length c365_0] rfl (by (try simp only [List.map_toArray, List.map_cons, List.map_nil]); rfl) ?_; (with_reducible refine (slices_Equal_int_int.calls k1 _ _ (rd_L1 t361 x24_1) _ _ (rd_L1 t355 x24_1) true _ ?side1 ?side2 ?side3 ?side4 A20.out).mono ?_); (case side1 => repeat (first | exact (by repeat (first | (with_reducible exact HR364_0.out) | exact HR364_0.out)))); (case side2 => exact HC364_0.out); (case side3 => repeat (first | exact (by repeat (first | (with_reducible exact HR365_0.out) | exact HR365_0.out)))); (case side4 => exact HC365_0.out); rintro e w' ⟨rfl, ⟨nd, rfl⟩⟩; refine ⟨_, rfl, ?_⟩))
        go_roundg k1
        case measure => have := HK1.out; omega
        case rel => exact ⟨(wrap64 (x24_1 + 1)), rfl, H', ⟨by have := HK1.out; omega⟩, ⟨by (with_reducible repeat (first | apply Kd.S_alloc | apply Kd.S_drewN | apply Kd.S_drew)); exact HO_7.out⟩, ⟨by (with_reducible repeat (first | apply Kd.S_alloc | apply Kd.S_drewN | apply Kd.S_drew)); exact HO_22.out⟩, ⟨by repeat (first | exact HB.out | apply below_alloc | apply pw_below_drewN | apply below_drew1)⟩⟩
       ·
        replace c21 := Bool.eq_false_iff.mpr c21
        subst c21
        have H1 : (some false) = some r := by rw [if_neg (show ¬ (false = true) by decide)] at H; exact H
        clear H
        have H := H1
        clear H1
        obtain rfl := Option.some.inj H
        have p364 : 0 ≤ (x24_1 : Int) := of_decide_eq_true (by assumption)
        have q364 : x24_1 < (t361.length : Int) := of_decide_eq_true (by assumption)
        obtain ⟨ad364, A364_0, c364_0, e364, hx364_0, hl364_0, hi364_0⟩ := at_L1 (Kd.S_reads' HO_22.out).2.2 x24_1 p364 q364
        cases e364
        obtain ⟨ce364, hce364, hMe364, hcc364⟩ := Kd.S_get HO_22.out [] x24_1 p364 (by first | exact q364 | exact of_decide_eq_true (by assumption) | (have e_ := (Kd.S_reads' HO_22.out).1; omega))
        obtain ⟨ve364_0, rfl, ge364_0⟩ := hMe364
        have hv364_0 := hcc364 0 _ rfl
        rw [Nat.add_zero, show ((Kd.slice 3 (Kd.int .i64))).sz = 1 from rfl, Nat.mul_one] at hv364_0
        replace hv364_0 := Option.some.inj (hv364_0.symm.trans hx364_0)
        rw [hv364_0] at ge364_0
        have HL364_0 := Aside0.mk (show Kd.R (Kd.int .i64) 3 _ _ _ _ (rd_L1 t361 x24_1) from ge364_0)
        clear hv364_0 ge364_0
        clear hcc364 hce364
        have HR364_0 := Aside0.mk hi364_0
        have HC364_0 := Aside0.mk hl364_0
        clear hi364_0 hl364_0
        replace p364 := eq_true p364
        replace q364 := eq_true q364
        obtain ⟨Ao23, co23, eo23⟩ := Kd.S_slice HO_7.out
        subst eo23
        have p365 : 0 ≤ (x24_1 : Int) := of_decide_eq_true (by assumption)
        have q365 : x24_1 < (t355.length : Int) := of_decide_eq_true (by assumption)
        obtain ⟨ad365, A365_0, c365_0, e365, hx365_0, hl365_0, hi365_0⟩ := at_L1 (Kd.S_reads' HO_7.out).2.2 x24_1 p365 q365
        cases e365
        obtain ⟨ce365, hce365, hMe365, hcc365⟩ := Kd.S_get HO_7.out [] x24_1 p365 (by first | exact q365 | exact of_decide_eq_true (by assumption) | (have e_ := (Kd.S_reads' HO_7.out).1; omega))
        obtain ⟨ve365_0, rfl, ge365_0⟩ := hMe365
        have hv365_0 := hcc365 0 _ rfl
        rw [Nat.add_zero, show ((Kd.slice 3 (Kd.int .i64))).sz = 1 from rfl, Nat.mul_one] at hv365_0
        replace hv365_0 := Option.some.inj (hv365_0.symm.trans hx365_0)
        rw [hv365_0] at ge365_0
        have HL365_0 := Aside0.mk (show Kd.R (Kd.int .i64) 3 _ _ _ _ (rd_L1 t355 x24_1) from ge365_0)
        clear hv365_0 ge365_0
        clear hcc365 hce365
        have HR365_0 := Aside0.mk hi365_0
        have HC365_0 := Aside0.mk hl365_0
        clear hi365_0 hl365_0
        replace p365 := eq_true p365
        replace q365 := eq_true q365
        go_wp2_with (first | ((with_reducible refine gate_callee (f := 60) rfl ?_); refine goesL_ (some 34) rfl rfl Try.func60 (by kernel_rfl) rfl #[.slice A364_0 (rd_L1 t361 x24_1).length c364_0, .slice A365_0 (rd_L1 t355 x24_1).length c365_0] rfl (by (try simp only [List.map_toArray, List.map_cons, List.map_nil]); rfl) ?_; (with_reducible refine (slices_Equal_int_int.calls k1 _ _ (rd_L1 t361 x24_1) _ _ (rd_L1 t355 x24_1) false _ ?side1 ?side2 ?side3 ?side4 A20.out).mono ?_); (case side1 => repeat (first | exact (by repeat (first | (with_reducible exact HR364_0.out) | exact HR364_0.out)))); (case side2 => exact HC364_0.out); (case side3 => repeat (first | exact (by repeat (first | (with_reducible exact HR365_0.out) | exact HR365_0.out)))); (case side4 => exact HC365_0.out); rintro e w' ⟨rfl, ⟨nd, rfl⟩⟩; refine ⟨_, rfl, ?_⟩))
        go_ret
        exact ⟨rfl, by repeat (first | exact HB.out | apply below_alloc | apply pw_below_drewN | apply below_drew1)⟩
      ·
       rw [if_neg c19] at H
       exact absurd H (by simp)
     ·
      rw [if_neg c18] at H
      exact absurd H (by simp)
    ·
     rw [if_neg c17] at H
     exact absurd H (by simp)
   ·
    rw [if_neg c16] at H
    have c16b0 : decide (x24_1 < (t361.length : Int)) = false := decide_eq_false c16
    clear c16
    obtain rfl := Option.some.inj H
    go_wp2
    go_ret
    exact ⟨rfl, HB.out⟩
end Go.Proofs.Ythjmfbmffchicaa.V
