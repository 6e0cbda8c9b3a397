/- Walks of functions that the law LineRegimes reaches: each theorem '.calls' says that the call comes to what its printed plain function says, under the conditions that stand in it. -/
import Derived.Test.YthjmfbmffchicaaKGHub
import Derived.Test.YthjmfbmffchicaaKGf0
import Derived.Test.YthjmfbmffchicaaKGf1
namespace Go.Proofs.Ythjmfbmffchicaa.V
open Go.RowKit Go.Proofs.YthjmfbmffchicaaW.PrintWords Go.Proofs.YthjmfbmffchicaaW.PrintLast Go.Proofs.YthjmfbmffchicaaW.PrintMore
attribute [local go_sem] max2_int min2_int max_two min_two max_three min_three max_four min_four
set_option maxHeartbeats 8000000
set_option maxRecDepth 100000
set_option linter.unusedVariables false
set_option linter.unusedSimpArgs false
mutual
def llperiod.l0 : Nat → Int → List (List Int) → Int → Int → List (List Int) → Int → Int → List (List Int) → List (List Int) → Option (Int)
 | 0, _, _, _, _, _, _, _, _, _ => none
 | k + 1, x3, x4, x20, x21, x294000, x294001, x294002, x294003, x294004 => if x21 < x20 then (llperiod.l1 k x3 x4 x21 x20 x21 x3 0 x294000 x294001 x294002 x294003 x294004) else ((lgclosed.f k x4).bind fun t305 => (llperiod.l2 k x3 x4 t305 1 x3 0))
def llperiod.l1 : Nat → Int → List (List Int) → Int → Int → Int → Int → Int → List (List Int) → Int → Int → List (List Int) → List (List Int) → Option (Int)
 | 0, _, _, _, _, _, _, _, _, _, _, _, _ => none
 | k + 1, x3, x4, x5, x20, x21, x24, x25, x294000, x294001, x294002, x294003, x294004 => if x25 < x24 then ((llcritical.f x294000 x294001 x294002 x294003 x294004 x5 x25).bind fun t300 => (if t300 = true then (if 0 ≤ x5 then (if x5 < (x4.length : Int) then (if 0 ≤ x25 then (if x25 < ((rd_L1 x4 x5).length : Int) then (llperiod.l1 k x3 (x4.set (x5 : Int).toNat ((rd_L1 x4 x5).set (x25 : Int).toNat 0)) x5 x20 x21 x24 (wrap64 (x25 + 1)) x294000 x294001 x294002 x294003 x294004) else (none)) else (none)) else (none)) else (none)) else (llperiod.l1 k x3 x4 x5 x20 x21 x24 (wrap64 (x25 + 1)) x294000 x294001 x294002 x294003 x294004))) else (llperiod.l0 k x3 x4 x20 (wrap64 (x21 + 1)) x294000 x294001 x294002 x294003 x294004)
def llperiod.l2 : Nat → Int → List (List Int) → List (List Int) → Int → Int → Int → Option (Int)
 | 0, _, _, _, _, _, _ => none
 | k + 1, x3, x4, x7, x8, x42, x43 => if x43 < x42 then ((line_one_int.f k x3).bind fun t308 => (llperiod.l3 k x3 x4 x7 x8 x43 0 t308 1 x42 x43)) else (some x8)
def llperiod.l3 : Nat → Int → List (List Int) → List (List Int) → Int → Int → Int → List (List Int) → Int → Int → Int → Option (Int)
 | 0, _, _, _, _, _, _, _, _, _, _ => none
 | k + 1, x3, x4, x7, x8, x9, x10, x11, x12, x42, x43 => if x12 ≤ (wrap64 (2 * x3)) then ((lgtimes.f k x11 x4).bind fun t312 => (llperiod.l4 k x3 x4 x7 x8 x9 x10 t312 x12 x42 x43 x3 0)) else (if x10 > 0 then ((line_gcd.f k x8 x10).bind fun t311 => (if t311 = 0 then (none) else (llperiod.l2 k x3 x4 x7 (wrap64 ((wrap64 (Int.tdiv x8 t311)) * x10)) x42 (wrap64 (x43 + 1))))) else (llperiod.l2 k x3 x4 x7 x8 x42 (wrap64 (x43 + 1))))
def llperiod.l4 : Nat → Int → List (List Int) → List (List Int) → Int → Int → Int → List (List Int) → Int → Int → Int → Int → Int → Option (Int)
 | 0, _, _, _, _, _, _, _, _, _, _, _, _ => none
 | k + 1, x3, x4, x7, x8, x9, x10, x11, x12, x42, x43, x57, x58 => if x58 < x57 then (if 0 ≤ x58 then (if x58 < (x11.length : Int) then (if x58 < ((rd_L1 x11 x58).length : Int) then (if (rd (rd_L1 x11 x58) x58) = 0 then (if 0 ≤ x9 then (if x9 < (x7.length : Int) then (if x58 < ((rd_L1 x7 x9).length : Int) then (if (rd (rd_L1 x7 x9) x58) = 0 then (if x58 < (x7.length : Int) then (if x9 < ((rd_L1 x7 x58).length : Int) then (if (rd (rd_L1 x7 x58) x9) = 0 then ((line_gcd.f k x10 x12).bind fun t321 => (llperiod.l4 k x3 x4 x7 x8 x9 t321 x11 x12 x42 x43 x57 (wrap64 (x58 + 1)))) else (llperiod.l4 k x3 x4 x7 x8 x9 x10 x11 x12 x42 x43 x57 (wrap64 (x58 + 1)))) else (none)) else (none)) else (llperiod.l4 k x3 x4 x7 x8 x9 x10 x11 x12 x42 x43 x57 (wrap64 (x58 + 1)))) else (none)) else (none)) else (none)) else (llperiod.l4 k x3 x4 x7 x8 x9 x10 x11 x12 x42 x43 x57 (wrap64 (x58 + 1)))) else (none)) else (none)) else (none)) else (llperiod.l3 k x3 x4 x7 x8 x9 x10 x11 (wrap64 (x12 + 1)) x42 x43)
end
def llperiod.f (k : Nat) (l0_0 : List (List Int)) (a0_1 : Int) (a0_2 : Int) (l0_3 : List (List Int)) (l0_4 : List (List Int)) : Option (Int) := (line_one_int.f k (l0_3.length : Int)).bind fun t294 => ((lgmapped_period_1.f k t294 0).bind fun t297 => (llperiod.l0 k (l0_3.length : Int) t297 (l0_3.length : Int) 0 l0_0 a0_1 a0_2 l0_3 l0_4))
theorem llperiod.mono_l : ∀ k, (∀ y0 y1 y2 y3 y4 y5 y6 y7 y8, LeO (llperiod.l0 k y0 y1 y2 y3 y4 y5 y6 y7 y8) (llperiod.l0 (k + 1) y0 y1 y2 y3 y4 y5 y6 y7 y8)) ∧ (∀ y0 y1 y2 y3 y4 y5 y6 y7 y8 y9 y10 y11, LeO (llperiod.l1 k y0 y1 y2 y3 y4 y5 y6 y7 y8 y9 y10 y11) (llperiod.l1 (k + 1) y0 y1 y2 y3 y4 y5 y6 y7 y8 y9 y10 y11)) ∧ (∀ y0 y1 y2 y3 y4 y5, LeO (llperiod.l2 k y0 y1 y2 y3 y4 y5) (llperiod.l2 (k + 1) y0 y1 y2 y3 y4 y5)) ∧ (∀ y0 y1 y2 y3 y4 y5 y6 y7 y8 y9, LeO (llperiod.l3 k y0 y1 y2 y3 y4 y5 y6 y7 y8 y9) (llperiod.l3 (k + 1) y0 y1 y2 y3 y4 y5 y6 y7 y8 y9)) ∧ (∀ y0 y1 y2 y3 y4 y5 y6 y7 y8 y9 y10 y11, LeO (llperiod.l4 k y0 y1 y2 y3 y4 y5 y6 y7 y8 y9 y10 y11) (llperiod.l4 (k + 1) y0 y1 y2 y3 y4 y5 y6 y7 y8 y9 y10 y11))
 | 0 => ⟨fun _ _ _ _ _ _ _ _ _ r h => by simp [llperiod.l0] at h, fun _ _ _ _ _ _ _ _ _ _ _ _ r h => by simp [llperiod.l1] at h, fun _ _ _ _ _ _ r h => by simp [llperiod.l2] at h, fun _ _ _ _ _ _ _ _ _ _ r h => by simp [llperiod.l3] at h, fun _ _ _ _ _ _ _ _ _ _ _ _ r h => by simp [llperiod.l4] at h⟩
 | k + 1 => by
  obtain ⟨ih0, ih1, ih2, ih3, ih4⟩ := llperiod.mono_l k
  refine ⟨?_, ?_, ?_, ?_, ?_⟩
  ·
   intro y0 y1 y2 y3 y4 y5 y6 y7 y8
   unfold llperiod.l0
   repeat' first
   | (with_reducible exact LeO.refl _)
   | (with_reducible exact LeO.none _)
   | (with_reducible refine LeO.ite ?_ ?_)
   | (with_reducible refine LeO.bind ?_ (fun _ => ?_))
   | exact ih0 _ _ _ _ _ _ _ _ _
   | exact ih1 _ _ _ _ _ _ _ _ _ _ _ _
   | exact ih2 _ _ _ _ _ _
   | exact ih3 _ _ _ _ _ _ _ _ _ _
   | exact ih4 _ _ _ _ _ _ _ _ _ _ _ _
   | exact line_gcd.mono _ _ _
   | exact lgclosed.mono _ _
   | exact lgmapped_period_1.mono _ _ _
   | exact lgtimes.mono _ _ _
   | exact line_one_int.mono _ _
  ·
   intro y0 y1 y2 y3 y4 y5 y6 y7 y8 y9 y10 y11
   unfold llperiod.l1
   repeat' first
   | (with_reducible exact LeO.refl _)
   | (with_reducible exact LeO.none _)
   | (with_reducible refine LeO.ite ?_ ?_)
   | (with_reducible refine LeO.bind ?_ (fun _ => ?_))
   | exact ih0 _ _ _ _ _ _ _ _ _
   | exact ih1 _ _ _ _ _ _ _ _ _ _ _ _
   | exact ih2 _ _ _ _ _ _
   | exact ih3 _ _ _ _ _ _ _ _ _ _
   | exact ih4 _ _ _ _ _ _ _ _ _ _ _ _
   | exact line_gcd.mono _ _ _
   | exact lgclosed.mono _ _
   | exact lgmapped_period_1.mono _ _ _
   | exact lgtimes.mono _ _ _
   | exact line_one_int.mono _ _
  ·
   intro y0 y1 y2 y3 y4 y5
   unfold llperiod.l2
   repeat' first
   | (with_reducible exact LeO.refl _)
   | (with_reducible exact LeO.none _)
   | (with_reducible refine LeO.ite ?_ ?_)
   | (with_reducible refine LeO.bind ?_ (fun _ => ?_))
   | exact ih0 _ _ _ _ _ _ _ _ _
   | exact ih1 _ _ _ _ _ _ _ _ _ _ _ _
   | exact ih2 _ _ _ _ _ _
   | exact ih3 _ _ _ _ _ _ _ _ _ _
   | exact ih4 _ _ _ _ _ _ _ _ _ _ _ _
   | exact line_gcd.mono _ _ _
   | exact lgclosed.mono _ _
   | exact lgmapped_period_1.mono _ _ _
   | exact lgtimes.mono _ _ _
   | exact line_one_int.mono _ _
  ·
   intro y0 y1 y2 y3 y4 y5 y6 y7 y8 y9
   unfold llperiod.l3
   repeat' first
   | (with_reducible exact LeO.refl _)
   | (with_reducible exact LeO.none _)
   | (with_reducible refine LeO.ite ?_ ?_)
   | (with_reducible refine LeO.bind ?_ (fun _ => ?_))
   | exact ih0 _ _ _ _ _ _ _ _ _
   | exact ih1 _ _ _ _ _ _ _ _ _ _ _ _
   | exact ih2 _ _ _ _ _ _
   | exact ih3 _ _ _ _ _ _ _ _ _ _
   | exact ih4 _ _ _ _ _ _ _ _ _ _ _ _
   | exact line_gcd.mono _ _ _
   | exact lgclosed.mono _ _
   | exact lgmapped_period_1.mono _ _ _
   | exact lgtimes.mono _ _ _
   | exact line_one_int.mono _ _
  ·
   intro y0 y1 y2 y3 y4 y5 y6 y7 y8 y9 y10 y11
   unfold llperiod.l4
   repeat' first
   | (with_reducible exact LeO.refl _)
   | (with_reducible exact LeO.none _)
   | (with_reducible refine LeO.ite ?_ ?_)
   | (with_reducible refine LeO.bind ?_ (fun _ => ?_))
   | exact ih0 _ _ _ _ _ _ _ _ _
   | exact ih1 _ _ _ _ _ _ _ _ _ _ _ _
   | exact ih2 _ _ _ _ _ _
   | exact ih3 _ _ _ _ _ _ _ _ _ _
   | exact ih4 _ _ _ _ _ _ _ _ _ _ _ _
   | exact line_gcd.mono _ _ _
   | exact lgclosed.mono _ _
   | exact lgmapped_period_1.mono _ _ _
   | exact lgtimes.mono _ _ _
   | exact line_one_int.mono _ _
theorem llperiod.mono : ∀ a0 a1 a2 a3 a4 k, LeO (llperiod.f k a0 a1 a2 a3 a4) (llperiod.f (k + 1) a0 a1 a2 a3 a4) := by
 intro a0 a1 a2 a3 a4 k
 obtain ⟨ih0, ih1, ih2, ih3, ih4⟩ := llperiod.mono_l k
 unfold llperiod.f
 repeat' first
   | (with_reducible exact LeO.refl _)
   | (with_reducible exact LeO.none _)
   | (with_reducible refine LeO.ite ?_ ?_)
   | (with_reducible refine LeO.bind ?_ (fun _ => ?_))
   | exact ih0 _ _ _ _ _ _ _ _ _
   | exact ih1 _ _ _ _ _ _ _ _ _ _ _ _
   | exact ih2 _ _ _ _ _ _
   | exact ih3 _ _ _ _ _ _ _ _ _ _
   | exact ih4 _ _ _ _ _ _ _ _ _ _ _ _
   | exact line_gcd.mono _ _ _
   | exact lgclosed.mono _ _
   | exact lgmapped_period_1.mono _ _ _
   | exact lgtimes.mono _ _ _
   | exact line_one_int.mono _ _
theorem llperiod.calls (k : Nat) (A0_0 : Option Addr) (c0_0 : Nat) (l0_0 : List (List Int)) (a0_1 : Int) (a0_2 : Int) (A0_3 : Option Addr) (c0_3 : Nat) (l0_3 : List (List Int)) (A0_4 : Option Addr) (c0_4 : Nat) (l0_4 : List (List Int)) (r : Int) (w : World) (hr0_0 : Kd.C (Kd.slice 3 (Kd.int .i64)) w A0_0 l0_0.length l0_0) (hc0_0 : l0_0.length ≤ c0_0) (hr0_3 : Kd.C (Kd.slice 3 (Kd.int .i64)) w A0_3 l0_3.length l0_3) (hc0_3 : l0_3.length ≤ c0_3) (hr0_4 : Kd.C (Kd.slice 3 (Kd.int .i64)) w A0_4 l0_4.length l0_4) (hc0_4 : l0_4.length ≤ c0_4) (h : llperiod.f k l0_0 a0_1 a0_2 l0_3 l0_4 = some r) :
  Calls Try.prog 54 #[.agg #[.slice A0_0 l0_0.length c0_0, .int .i64 a0_1, .int .i64 a0_2, .slice A0_3 l0_3.length c0_3, .slice A0_4 l0_4.length c0_4]] w fun e w' => e = .returned (.int .i64 r) ∧ Below w.heap.size w w' := by
 have hu58 := Try.underlying58
 have HR0_0 := xA.mk hr0_0
 have HC0_0 := xA.mk hc0_0
 clear hr0_0 hc0_0
 have HR0_3 := xA.mk hr0_3
 have HC0_3 := xA.mk hc0_3
 clear hr0_3 hc0_3
 have HR0_4 := xA.mk hr0_4
 have HC0_4 := xA.mk hc0_4
 clear hr0_4 hc0_4
 have HB := xA.mk (Below.refl w.heap.size w)
 have H : ((line_one_int.f k (l0_3.length : Int)).bind fun t294 => ((lgmapped_period_1.f k t294 0).bind fun t297 => (llperiod.l0 k (l0_3.length : Int) t297 (l0_3.length : Int) 0 l0_0 a0_1 a0_2 l0_3 l0_4))) = some r := h
 clear h
 replace H := qw H
 obtain ⟨t294, A20, H⟩ := H
 replace H : ((lgmapped_period_1.f k t294 0).bind fun t297 => (llperiod.l0 k (l0_3.length : Int) t297 (l0_3.length : Int) 0 l0_0 a0_1 a0_2 l0_3 l0_4)) = some r := H
 have A2 := xA.mk A20
 clear A20
 replace H := qw H
 obtain ⟨t297, A30, H⟩ := H
 replace H : (llperiod.l0 k (l0_3.length : Int) t297 (l0_3.length : Int) 0 l0_0 a0_1 a0_2 l0_3 l0_4) = some r := H
 have A3 := xA.mk A30
 clear A30
 have H' := xA.mk H
 clear H
 go_enter Try.func54, Try.ntmps54
 go_wp2_with (first | ((with_reducible refine xZ (N := 1) rfl ?_); refine yD ?hg (N := 1) ?hd (cs := #[.slice A0_0 l0_0.length c0_0, .int .i64 a0_1, .int .i64 a0_2, .slice A0_3 l0_3.length c0_3, .slice A0_4 l0_4.length c0_4]) (t := 58) ?hr ?_; (case hd => rfl); (case hg => rfl); (case hr => go_simp); intro gb293 hg w4 hbox hb; have n0_ := xA.mk (xD (HB.out) hb); have n1_ := xA.mk (hbox); have n2_ := xA.mk ((by rw [hg]; exact (xB (HB.out)) : w.heap.size ≤ gb293)); have n3_ := xA.mk ((by rw [hg]; exact (xB (HB.out)) : w.heap.size ≤ gb293)); clear HB; have HB := n0_; have BK293 := n1_; have GW293 := n2_; have GE293 := n3_; clear n0_ n1_ n2_ n3_; clear hb hbox hg; have hcz5_0 : w4.cell? ⟨gb293, 0, none⟩ = some (.slice A0_0 l0_0.length c0_0) := (xE BK293.out 0).trans rfl; have hcz5_1 : w4.cell? ⟨gb293, 1, none⟩ = some (.int .i64 a0_1) := (xE BK293.out 1).trans rfl; have hcz5_2 : w4.cell? ⟨gb293, 2, none⟩ = some (.int .i64 a0_2) := (xE BK293.out 2).trans rfl; have hcz5_3 : w4.cell? ⟨gb293, 3, none⟩ = some (.slice A0_3 l0_3.length c0_3) := (xE BK293.out 3).trans rfl; have hcz5_4 : w4.cell? ⟨gb293, 4, none⟩ = some (.slice A0_4 l0_4.length c0_4) := (xE BK293.out 4).trans rfl; have hfz5_0 := xC BK293.out 0; have hfz5_1 := xC BK293.out 1; have hfz5_2 := xC BK293.out 2; have hfz5_3 := xC BK293.out 3; have hfz5_4 := xC BK293.out 4) | ((with_reducible refine xG (f := 87) rfl ?_); refine xM (some 18) rfl rfl Try.func87 jk rfl #[.int .i64 (l0_3.length : Int)] rfl qd ?_; (with_reducible refine (line_one_int.calls k (l0_3.length : Int) t294 _ A2.out).mono ?_); rintro e w6 ⟨v295, rfl, ho0, hb⟩; refine ⟨_, rfl, ?_⟩; have HO296 := xA.mk (Kd.S_lower ho0 (xB (HB.out))); replace BK293 := xA.mk (xO (g := gb293) (o := .cells #[.slice A0_0 l0_0.length c0_0, .int .i64 a0_1, .int .i64 a0_2, .slice A0_3 l0_3.length c0_3, .slice A0_4 l0_4.length c0_4] 58 (0, 0)) (by exact BK293.out) hb); replace HB := xA.mk (xD (HB.out) hb); obtain ⟨Ao7, co7, eo7⟩ := Kd.yC HO296.out; subst eo7) | ((with_reducible refine xG (f := 57) rfl ?_); refine xM (some 19) rfl rfl Try.func57 jk rfl #[.slice Ao7 t294.length co7, .func (.func 88) #[] #[]] rfl qd ?_; (with_reducible refine (lgmapped_period_1.calls k _ _ t294 0 t297 _ ?side1 ?side2 A3.out).mono ?_); (case side1 => repeat (first | exact (Kd.xH HO296.out).2.2)); (case side2 => exact (Kd.xH HO296.out).2.1); rintro e w8 ⟨v298, rfl, ho0, hb⟩; refine ⟨_, rfl, ?_⟩; have HO299 := xA.mk (Kd.S_lower (Kd.S_new' ho0 (Kd.S_lt (by exact HO296.out))) (xB (HB.out))); replace HO296 := xA.mk (Kd.S_elder' (by exact HO296.out) (Kd.S_base ho0) hb); replace BK293 := xA.mk (xO (g := gb293) (o := .cells #[.slice A0_0 l0_0.length c0_0, .int .i64 a0_1, .int .i64 a0_2, .slice A0_3 l0_3.length c0_3, .slice A0_4 l0_4.length c0_4] 58 (0, 0)) (by exact BK293.out) hb); replace HB := xA.mk (xD (HB.out) hb)))
 go_loopg [21] k (fun kq v21 w' => ∃ (x4_1 : List (List Int)) (x21_1 : Int), v21 = .int .i64 x21_1 ∧ xA (llperiod.l0 kq (l0_3.length : Int) x4_1 (l0_3.length : Int) x21_1 l0_0 a0_1 a0_2 l0_3 l0_4 = some r) ∧ xA (kq ≤ k) ∧ xA (Kd.S (Kd.slice 3 (Kd.int .i64)) 26 w' w.heap.size (fun _ => True) v298 x4_1) ∧ xA (w'.heap[gb293]? = some (.cells #[(.slice A0_0 l0_0.length c0_0), .int .i64 a0_1, .int .i64 a0_2, (.slice A0_3 l0_3.length c0_3), (.slice A0_4 l0_4.length c0_4)] 58 (0, 0))) ∧ xA (Below w.heap.size w w'))
 case atStart => exact ⟨(t297), (0), rfl, H', ⟨Nat.le_refl _⟩, ⟨by exact Kd.xT HO299.out (fun _ hk => trivial)⟩, ⟨by exact BK293.out⟩, ⟨HB.out⟩⟩
 case round =>
  clear H'
  obtain ⟨x4_1, x21_1, rfl, HA, HK1, HO_4, BK293, HB⟩ := hrel
  obtain _ | k1 := gk
  · exact absurd HA.out (by simp [llperiod.l0])
  have H := HA.out
  clear HA
  simp only [llperiod.l0] at H
  obtain ⟨c9b0, H⟩ | ⟨c9b0, H⟩ := yA H
  ·
   have H' := xA.mk H
   clear H
   go_wp2
   go_loopg [25] k1 (fun kq v25 w' => ∃ (x4_2 : List (List Int)) (x25_2 : Int), v25 = .int .i64 x25_2 ∧ xA (llperiod.l1 kq (l0_3.length : Int) x4_2 x21_1 (l0_3.length : Int) x21_1 (l0_3.length : Int) x25_2 l0_0 a0_1 a0_2 l0_3 l0_4 = some r) ∧ xA (kq ≤ k1) ∧ xA (Kd.S (Kd.slice 3 (Kd.int .i64)) 26 w' w.heap.size (fun _ => True) v298 x4_2) ∧ xA (w'.heap[gb293]? = some (.cells #[(.slice A0_0 l0_0.length c0_0), .int .i64 a0_1, .int .i64 a0_2, (.slice A0_3 l0_3.length c0_3), (.slice A0_4 l0_4.length c0_4)] 58 (0, 0))) ∧ xA (Below w.heap.size w w'))
   case atStart => exact ⟨(x4_1), (0), rfl, H', ⟨Nat.le_refl _⟩, ⟨by exact HO_4.out⟩, ⟨by exact BK293.out⟩, ⟨HB.out⟩⟩
   case round =>
    clear H'
    obtain ⟨x4_2, x25_2, rfl, HA, HK2, HO_4, BK293, HB⟩ := hrel
    obtain _ | k2 := gk
    · exact absurd HA.out (by simp [llperiod.l1])
    have H := HA.out
    clear HA
    simp only [llperiod.l1] at H
    obtain ⟨c10b0, H⟩ | ⟨c10b0, H⟩ := yA H
    rotate_left
    ·
     have H' := xA.mk H
     clear H
     go_wp2
     go_roundg k2
     case measure => have := HK1.out; have := HK2.out; omega
     case rel => exact ⟨(x4_2), (wrap64 (x21_1 + 1)), rfl, H', ⟨by have := HK1.out; have := HK2.out; omega⟩, ⟨by exact HO_4.out⟩, ⟨by exact BK293.out⟩, ⟨HB.out⟩⟩
    replace H := qw H
    obtain ⟨t300, A110, H⟩ := H
    replace H : (if t300 = true then (if 0 ≤ x21_1 then (if x21_1 < (x4_2.length : Int) then (if 0 ≤ x25_2 then (if x25_2 < ((rd_L1 x4_2 x21_1).length : Int) then (llperiod.l1 k2 (l0_3.length : Int) (x4_2.set (x21_1 : Int).toNat ((rd_L1 x4_2 x21_1).set (x25_2 : Int).toNat 0)) x21_1 (l0_3.length : Int) x21_1 (l0_3.length : Int) (wrap64 (x25_2 + 1)) l0_0 a0_1 a0_2 l0_3 l0_4) else (none)) else (none)) else (none)) else (none)) else (llperiod.l1 k2 (l0_3.length : Int) x4_2 x21_1 (l0_3.length : Int) x21_1 (l0_3.length : Int) (wrap64 (x25_2 + 1)) l0_0 a0_1 a0_2 l0_3 l0_4)) = some r := H
    have A11 := xA.mk A110
    clear A110
    by_cases c12 : t300 = true
    rotate_left
    ·
     replace c12 := Bool.eq_false_iff.mpr c12
     subst c12
     have H1 : (llperiod.l1 k2 (l0_3.length : Int) x4_2 x21_1 (l0_3.length : Int) x21_1 (l0_3.length : Int) (wrap64 (x25_2 + 1)) l0_0 a0_1 a0_2 l0_3 l0_4) = some r := by rw [if_neg (show ¬ (false = true) by decide)] at H; exact H
     clear H
     have H := H1
     clear H1
     have H' := xA.mk H
     clear H
     have hcz23_0 : wr.cell? ⟨gb293, 0, none⟩ = some (.slice A0_0 l0_0.length c0_0) := (xE BK293.out 0).trans rfl
     have hcz23_1 : wr.cell? ⟨gb293, 1, none⟩ = some (.int .i64 a0_1) := (xE BK293.out 1).trans rfl
     have hcz23_2 : wr.cell? ⟨gb293, 2, none⟩ = some (.int .i64 a0_2) := (xE BK293.out 2).trans rfl
     have hcz23_3 : wr.cell? ⟨gb293, 3, none⟩ = some (.slice A0_3 l0_3.length c0_3) := (xE BK293.out 3).trans rfl
     have hcz23_4 : wr.cell? ⟨gb293, 4, none⟩ = some (.slice A0_4 l0_4.length c0_4) := (xE BK293.out 4).trans rfl
     have hfz23_0 := xC BK293.out 0
     have hfz23_1 := xC BK293.out 1
     have hfz23_2 := xC BK293.out 2
     have hfz23_3 := xC BK293.out 3
     have hfz23_4 := xC BK293.out 4
     go_wp2_with (first | ((with_reducible refine xG (f := 84) rfl ?_); refine xM (some 31) rfl rfl Try.func84 jk rfl #[.agg #[.slice A0_0 l0_0.length c0_0, .int .i64 a0_1, .int .i64 a0_2, .slice A0_3 l0_3.length c0_3, .slice A0_4 l0_4.length c0_4], .int .i64 x21_1, .int .i64 x25_2] rfl qd ?_; (with_reducible refine (llcritical.calls _ _ l0_0 a0_1 a0_2 _ _ l0_3 _ _ l0_4 x21_1 x25_2 false _ ?side1 ?side2 ?side3 ?side4 ?side5 ?side6 A11.out).mono ?_); (case side1 => repeat (first | exact (Kd.xQ HR0_0.out HB.out))); (case side2 => exact HC0_0.out); (case side3 => repeat (first | exact (Kd.xQ HR0_3.out HB.out))); (case side4 => exact HC0_3.out); (case side5 => repeat (first | exact (Kd.xQ HR0_4.out HB.out))); (case side6 => exact HC0_4.out); rintro e w24 ⟨rfl, hb⟩; refine ⟨_, rfl, ?_⟩; replace HO_4 := xA.mk (Kd.S_below (by exact HO_4.out) hb); replace BK293 := xA.mk (xO (g := gb293) (o := .cells #[.slice A0_0 l0_0.length c0_0, .int .i64 a0_1, .int .i64 a0_2, .slice A0_3 l0_3.length c0_3, .slice A0_4 l0_4.length c0_4] 58 (0, 0)) (by exact BK293.out) hb); replace HB := xA.mk (xD (HB.out) hb)))
     go_roundg k2
     case measure => have := HK1.out; have := HK2.out; omega
     case rel => exact ⟨(x4_2), (wrap64 (x25_2 + 1)), rfl, H', ⟨by have := HK1.out; have := HK2.out; omega⟩, ⟨by exact HO_4.out⟩, ⟨by exact BK293.out⟩, ⟨HB.out⟩⟩
    subst c12
    have H1 : (if 0 ≤ x21_1 then (if x21_1 < (x4_2.length : Int) then (if 0 ≤ x25_2 then (if x25_2 < ((rd_L1 x4_2 x21_1).length : Int) then (llperiod.l1 k2 (l0_3.length : Int) (x4_2.set (x21_1 : Int).toNat ((rd_L1 x4_2 x21_1).set (x25_2 : Int).toNat 0)) x21_1 (l0_3.length : Int) x21_1 (l0_3.length : Int) (wrap64 (x25_2 + 1)) l0_0 a0_1 a0_2 l0_3 l0_4) else (none)) else (none)) else (none)) else (none)) = some r := by rw [if_pos rfl] at H; exact H
    clear H
    have H := H1
    clear H1
    obtain ⟨c13b0, H⟩ := xF H
    obtain ⟨c14b0, H⟩ := xF H
    obtain ⟨c15b0, H⟩ := xF H
    obtain ⟨c16b0, H⟩ := xF H
    obtain ⟨y302, hy302⟩ : ∃ y_ : List Int, y_ = ((rd_L1 x4_2 x21_1).set (x25_2 : Int).toNat 0) := ⟨_, rfl⟩
    replace H : (llperiod.l1 k2 (l0_3.length : Int) (x4_2.set (x21_1 : Int).toNat y302) x21_1 (l0_3.length : Int) x21_1 (l0_3.length : Int) (wrap64 (x25_2 + 1)) l0_0 a0_1 a0_2 l0_3 l0_4) = some r := by rw [hy302]; exact H
    have Ny302 := xA.mk hy302
    clear hy302
    obtain ⟨y304, hy304⟩ : ∃ y_ : List (List Int), y_ = (x4_2.set (x21_1 : Int).toNat y302) := ⟨_, rfl⟩
    replace H : (llperiod.l1 k2 (l0_3.length : Int) y304 x21_1 (l0_3.length : Int) x21_1 (l0_3.length : Int) (wrap64 (x25_2 + 1)) l0_0 a0_1 a0_2 l0_3 l0_4) = some r := by rw [hy304]; exact H
    have Ny304 := xA.mk hy304
    clear hy304
    have H' := xA.mk H
    clear H
    have hcz18_0 : wr.cell? ⟨gb293, 0, none⟩ = some (.slice A0_0 l0_0.length c0_0) := (xE BK293.out 0).trans rfl
    have hcz18_1 : wr.cell? ⟨gb293, 1, none⟩ = some (.int .i64 a0_1) := (xE BK293.out 1).trans rfl
    have hcz18_2 : wr.cell? ⟨gb293, 2, none⟩ = some (.int .i64 a0_2) := (xE BK293.out 2).trans rfl
    have hcz18_3 : wr.cell? ⟨gb293, 3, none⟩ = some (.slice A0_3 l0_3.length c0_3) := (xE BK293.out 3).trans rfl
    have hcz18_4 : wr.cell? ⟨gb293, 4, none⟩ = some (.slice A0_4 l0_4.length c0_4) := (xE BK293.out 4).trans rfl
    have hfz18_0 := xC BK293.out 0
    have hfz18_1 := xC BK293.out 1
    have hfz18_2 := xC BK293.out 2
    have hfz18_3 := xC BK293.out 3
    have hfz18_4 := xC BK293.out 4
    go_wp2_with (first | ((with_reducible refine xG (f := 84) rfl ?_); refine xM (some 31) rfl rfl Try.func84 jk rfl #[.agg #[.slice A0_0 l0_0.length c0_0, .int .i64 a0_1, .int .i64 a0_2, .slice A0_3 l0_3.length c0_3, .slice A0_4 l0_4.length c0_4], .int .i64 x21_1, .int .i64 x25_2] rfl qd ?_; (with_reducible refine (llcritical.calls _ _ l0_0 a0_1 a0_2 _ _ l0_3 _ _ l0_4 x21_1 x25_2 true _ ?side1 ?side2 ?side3 ?side4 ?side5 ?side6 A11.out).mono ?_); (case side1 => repeat (first | exact (Kd.xQ HR0_0.out HB.out))); (case side2 => exact HC0_0.out); (case side3 => repeat (first | exact (Kd.xQ HR0_3.out HB.out))); (case side4 => exact HC0_3.out); (case side5 => repeat (first | exact (Kd.xQ HR0_4.out HB.out))); (case side6 => exact HC0_4.out); rintro e w19 ⟨rfl, hb⟩; refine ⟨_, rfl, ?_⟩; replace HO_4 := xA.mk (Kd.S_below (by exact HO_4.out) hb); replace BK293 := xA.mk (xO (g := gb293) (o := .cells #[.slice A0_0 l0_0.length c0_0, .int .i64 a0_1, .int .i64 a0_2, .slice A0_3 l0_3.length c0_3, .slice A0_4 l0_4.length c0_4] 58 (0, 0)) (by exact BK293.out) hb); replace HB := xA.mk (xD (HB.out) hb); obtain ⟨Ao20, co20, eo20⟩ := Kd.yC HO_4.out; subst eo20; have p301 : 0 ≤ (x21_1 : Int) := qq; have q301 : x21_1 < (x4_2.length : Int) := qq; obtain ⟨ad301, A301_0, c301_0, e301, hx301_0, hl301_0, hi301_0⟩ := at_L1 (Kd.xH HO_4.out).2.2 x21_1 p301 q301; cases e301; obtain ⟨ce301, hce301, hMe301, hcc301⟩ := Kd.S_get HO_4.out [] x21_1 p301 (by first | exact q301 | exact qq | (have e_ := (Kd.xH HO_4.out).1; omega)); obtain ⟨ve301_0, rfl, ge301_0⟩ := hMe301; have hv301_0 := hcc301 0 _ rfl; rw [Nat.add_zero, show ((Kd.slice 3 (Kd.int .i64))).sz = 1 from rfl, Nat.mul_one] at hv301_0; replace hv301_0 := qx (hv301_0.symm.trans hx301_0); rw [hv301_0] at ge301_0; have HL301_0 := xA.mk (show Kd.R (Kd.int .i64) 3 _ _ _ _ (rd_L1 x4_2 x21_1) from ge301_0); clear hv301_0 ge301_0; have HX301_0 := xA.mk hx301_0; clear hcc301 hce301; have HR301_0 := xA.mk hi301_0; have HC301_0 := xA.mk hl301_0; clear hi301_0 hl301_0; replace p301 := eq_true p301; replace q301 := eq_true q301; have p17 : 0 ≤ (x25_2 : Int) := qq; have q17 : (x25_2 : Int) < (((rd_L1 x4_2 x21_1).length : Int) : Int) := qq; obtain ⟨go17, co17, eo17, gb17, gl17, cl17, HG17⟩ := Kd.R_form HL301_0.out jj; (first | cases eo17 | (injection eo17 with ea_ en_ ec_; (first | subst ea_ | (injection ea_ with ea_; subst ea_)); subst ec_; clear en_)); have GB17 := xA.mk gb17; have GG17 := xA.mk HG17; clear gb17 gl17 HG17; obtain ⟨hx17_0, hf17_0⟩ := Kd.R_celln 0 HL301_0.out (x25_2 : Int) p17 q17; replace p17 := eq_true p17; replace q17 := eq_true q17; have hq21 : (x21_1 : Int) < (x4_2.length : Int) := (by have h_ : (x21_1 : Int) < ((x4_2.length : Int) : Int) := qq; first | exact h_ | (have e_ := (Kd.xH HO_4.out).1; omega) | simpa only [List.length_set, List.length_set] using h_); obtain ⟨oki21, ce21, hcl21, hM21, hcc21, hok21, hbk21⟩ := Kd.S_borrow HO_4.out [] (x21_1 : Int) (qq) hq21; obtain ⟨ve21_0, rfl, ge21_0⟩ := hM21; have hv21 := hcc21 0 _ rfl; rw [Nat.add_zero, show ((Kd.slice 3 (Kd.int .i64))).sz = 1 from rfl, Nat.mul_one] at hv21; replace hv21 := qx (hv21.symm.trans HX301_0.out); subst hv21; clear hcc21 hcl21; replace ge21_0 := (show Kd.R (Kd.int .i64) 3 _ _ _ _ (rd_L1 x4_2 x21_1) from ge21_0); have HP21 := Kd.R_putg ge21_0 (x25_2 : Int) 0) | ((with_reducible refine gate_store (t := 3) (p := 37) rfl ?_); refine store_event (t := 3) (p := 37) (v := ?vo_w22) (w1 := (w19.setCell ⟨go17, (x25_2 : Int).toNat, none⟩ (.int .i64 0))) ?hg ?ho ?hn ?hr ?_; (case ho => rfl); (case hg => rfl); (case hn => rfl); (case hr => go_simp); intro w22 hw; have hg : w19.grownBy w22 (some go17) := (by rw [hw]; exact HP21.2); have hz_ : Kd.R (Kd.int .i64) 3 w22 w.heap.size oki21 (.slice (some ⟨go17, 0, none⟩) (rd_L1 x4_2 x21_1).length c301_0) y302 := (by rw [hw, Ny302.out]; exact HP21.1); have hp_ : Kd.S (Kd.slice 3 (Kd.int .i64)) 26 w22 w.heap.size (fun _ => True) (.slice (some ad301) x4_2.length co20) y304 := (by rw [Ny304.out]; exact hbk21 hg (fun k_ e_ => by injection e_ with e_; subst e_; exact ge21_0.1 _ rfl) (Kd.M_row hz_)); have hm_ := Kd.R_mono hz_ hok21; clear HP21 hbk21; have n0_ := xA.mk (hp_); have n1_ := xA.mk (blk_grown (g := gb293) (o := .cells #[.slice A0_0 l0_0.length c0_0, .int .i64 a0_1, .int .i64 a0_2, .slice A0_3 l0_3.length c0_3, .slice A0_4 l0_4.length c0_4] 58 (0, 0)) (by exact BK293.out) hg (Kd.R_ne HL301_0.out BK293.out (by decide))); have n2_ := xA.mk ((by rw [hw]; exact xR (HB.out) GB17.out : Below w.heap.size w w22)); have n3_ := xA.mk (hm_); have n4_ := xA.mk ((Kd.R_reads' hm_).2.1); clear HO_4; clear BK293; clear HB; clear HL301_0; have HO_4 := n0_; have BK293 := n1_; have HB := n2_; have HL322 := n3_; have HC303 := n4_; clear n0_ n1_ n2_ n3_ n4_; clear hg hw hp_ hz_ hm_ hok21))
    go_roundg k2
    case measure => have := HK1.out; have := HK2.out; omega
    case rel => exact ⟨(y304), (wrap64 (x25_2 + 1)), rfl, H', ⟨by have := HK1.out; have := HK2.out; omega⟩, ⟨by exact HO_4.out⟩, ⟨by exact BK293.out⟩, ⟨HB.out⟩⟩
  replace H := qw H
  obtain ⟨t305, A250, H⟩ := H
  replace H : (llperiod.l2 k1 (l0_3.length : Int) x4_1 t305 1 (l0_3.length : Int) 0) = some r := H
  have A25 := xA.mk A250
  clear A250
  have H' := xA.mk H
  clear H
  obtain ⟨Ao26, co26, eo26⟩ := Kd.yC HO_4.out
  subst eo26
  go_wp2_with (first | ((with_reducible refine xG (f := 66) rfl ?_); refine xM (some 41) rfl rfl Try.func66 jk rfl #[.slice Ao26 x4_1.length co26] rfl qd ?_; (with_reducible refine (lgclosed.calls k1 _ _ x4_1 t305 _ ?side1 ?side2 A25.out).mono ?_); (case side1 => repeat (first | exact (Kd.xH HO_4.out).2.2)); (case side2 => exact (Kd.xH HO_4.out).2.1); rintro e w27 ⟨v306, rfl, ho0, hb⟩; refine ⟨_, rfl, ?_⟩; have HO307 := xA.mk (Kd.S_lower (Kd.S_new' ho0 (Kd.S_lt (by exact HO_4.out))) (xB (HB.out))); replace HO_4 := xA.mk (Kd.S_elder' (by exact HO_4.out) (Kd.S_base ho0) hb); replace BK293 := xA.mk (xO (g := gb293) (o := .cells #[.slice A0_0 l0_0.length c0_0, .int .i64 a0_1, .int .i64 a0_2, .slice A0_3 l0_3.length c0_3, .slice A0_4 l0_4.length c0_4] 58 (0, 0)) (by exact BK293.out) hb); replace HB := xA.mk (xD (HB.out) hb)))
  go_loopg [8, 43] k1 (fun kq v8 v43 w' => ∃ (x8_2 : Int) (x43_2 : Int), v8 = .int .i64 x8_2 ∧ v43 = .int .i64 x43_2 ∧ xA (llperiod.l2 kq (l0_3.length : Int) x4_1 t305 x8_2 (l0_3.length : Int) x43_2 = some r) ∧ xA (kq ≤ k1) ∧ xA (Kd.S (Kd.slice 3 (Kd.int .i64)) 26 w' w.heap.size (fun k_ => some k_ ≠ (v306 : Value).ownBlock) (.slice Ao26 x4_1.length co26) x4_1) ∧ xA (Kd.S (Kd.slice 3 (Kd.int .i64)) 26 w' w.heap.size (fun k_ => some k_ ≠ ((.slice Ao26 x4_1.length co26) : Value).ownBlock) v306 t305) ∧ xA (w'.heap[gb293]? = some (.cells #[(.slice A0_0 l0_0.length c0_0), .int .i64 a0_1, .int .i64 a0_2, (.slice A0_3 l0_3.length c0_3), (.slice A0_4 l0_4.length c0_4)] 58 (0, 0))) ∧ xA (Below w.heap.size w w'))
  case atStart => exact ⟨(1), (0), rfl, rfl, H', ⟨Nat.le_refl _⟩, ⟨by exact Kd.xT HO_4.out (fun _ hk => hk.2)⟩, ⟨by exact Kd.xT HO307.out (fun _ hk => hk.2)⟩, ⟨by exact BK293.out⟩, ⟨HB.out⟩⟩
  case round =>
   clear H'
   obtain ⟨x8_2, x43_2, rfl, rfl, HA, HK2, HO_4, HO_7, BK293, HB⟩ := hrel
   obtain _ | k2 := gk
   · exact absurd HA.out (by simp [llperiod.l2])
   have H := HA.out
   clear HA
   simp only [llperiod.l2] at H
   obtain ⟨c28b0, H⟩ | ⟨c28b0, H⟩ := yA H
   rotate_left
   ·
    obtain rfl := qx H
    go_wp2
    go_ret
    exact ⟨rfl, HB.out⟩
   replace H := qw H
   obtain ⟨t308, A290, H⟩ := H
   replace H : (llperiod.l3 k2 (l0_3.length : Int) x4_1 t305 x8_2 x43_2 0 t308 1 (l0_3.length : Int) x43_2) = some r := H
   have A29 := xA.mk A290
   clear A290
   have H' := xA.mk H
   clear H
   go_wp2_with (first | ((with_reducible refine xG (f := 87) rfl ?_); refine xM (some 47) rfl rfl Try.func87 jk rfl #[.int .i64 (l0_3.length : Int)] rfl qd ?_; (with_reducible refine (line_one_int.calls k2 (l0_3.length : Int) t308 _ A29.out).mono ?_); rintro e w30 ⟨v309, rfl, ho0, hb⟩; refine ⟨_, rfl, ?_⟩; have HO310 := xA.mk (Kd.S_lower (Kd.S_new' (Kd.S_new' ho0 (Kd.S_lt (by exact HO_4.out))) (Kd.S_lt (by exact HO_7.out))) (xB (HB.out))); replace HO_4 := xA.mk (Kd.S_elder' (by exact HO_4.out) (Kd.S_base ho0) hb); replace HO_7 := xA.mk (Kd.S_elder' (by exact HO_7.out) (Kd.S_base ho0) hb); replace BK293 := xA.mk (xO (g := gb293) (o := .cells #[.slice A0_0 l0_0.length c0_0, .int .i64 a0_1, .int .i64 a0_2, .slice A0_3 l0_3.length c0_3, .slice A0_4 l0_4.length c0_4] 58 (0, 0)) (by exact BK293.out) hb); replace HB := xA.mk (xD (HB.out) hb)))
   go_loopg [10, 11, 12] k2 (fun kq v10 v11 v12 w' => ∃ (x10_3 : Int) (x11_3 : List (List Int)) (x12_3 : Int), v10 = .int .i64 x10_3 ∧ v12 = .int .i64 x12_3 ∧ xA (llperiod.l3 kq (l0_3.length : Int) x4_1 t305 x8_2 x43_2 x10_3 x11_3 x12_3 (l0_3.length : Int) x43_2 = some r) ∧ xA (kq ≤ k2) ∧ xA (Kd.S (Kd.slice 3 (Kd.int .i64)) 26 w' w.heap.size (fun k_ => some k_ ≠ (v306 : Value).ownBlock ∧ some k_ ≠ (v11 : Value).ownBlock) (.slice Ao26 x4_1.length co26) x4_1) ∧ xA (Kd.S (Kd.slice 3 (Kd.int .i64)) 26 w' w.heap.size (fun k_ => some k_ ≠ ((.slice Ao26 x4_1.length co26) : Value).ownBlock ∧ some k_ ≠ (v11 : Value).ownBlock) v306 t305) ∧ xA (Kd.S (Kd.slice 3 (Kd.int .i64)) 26 w' w.heap.size (fun k_ => some k_ ≠ ((.slice Ao26 x4_1.length co26) : Value).ownBlock ∧ some k_ ≠ (v306 : Value).ownBlock) v11 x11_3) ∧ xA (w'.heap[gb293]? = some (.cells #[(.slice A0_0 l0_0.length c0_0), .int .i64 a0_1, .int .i64 a0_2, (.slice A0_3 l0_3.length c0_3), (.slice A0_4 l0_4.length c0_4)] 58 (0, 0))) ∧ xA (Below w.heap.size w w'))
   case atStart => exact ⟨(0), (t308), (1), rfl, rfl, H', ⟨Nat.le_refl _⟩, ⟨by exact HO_4.out⟩, ⟨by exact HO_7.out⟩, ⟨by exact Kd.xT HO310.out (fun _ hk => ⟨hk.1.2, hk.2⟩)⟩, ⟨by exact BK293.out⟩, ⟨HB.out⟩⟩
   case round =>
    clear H'
    obtain ⟨x10_3, x11_3, x12_3, rfl, rfl, HA, HK3, HO_4, HO_7, HO_11, BK293, HB⟩ := hrel
    obtain _ | k3 := gk
    · exact absurd HA.out (by simp [llperiod.l3])
    have H := HA.out
    clear HA
    simp only [llperiod.l3] at H
    obtain ⟨c31b0, H⟩ | ⟨c31b0, H⟩ := yA H
    rotate_left
    ·
     by_cases c56 : x10_3 > 0
     rotate_left
     ·
      rw [if_neg c56] at H
      have c56b0 : decide (0 < x10_3) = false := qv c56
      clear c56
      have H' := xA.mk H
      clear H
      go_wp2
      go_roundg k3
      case measure => have := HK1.out; have := HK2.out; have := HK3.out; omega
      case rel => exact ⟨(x8_2), (wrap64 (x43_2 + 1)), rfl, rfl, H', ⟨by have := HK1.out; have := HK2.out; have := HK3.out; omega⟩, ⟨by exact Kd.xT HO_4.out (fun _ hk => hk.1)⟩, ⟨by exact Kd.xT HO_7.out (fun _ hk => hk.1)⟩, ⟨by exact BK293.out⟩, ⟨HB.out⟩⟩
     rw [if_pos c56] at H
     have c56b0 : decide (0 < x10_3) = true := qu c56
     clear c56
     replace H := qw H
     obtain ⟨t311, A570, H⟩ := H
     replace H : (if t311 = 0 then (none) else (llperiod.l2 k3 (l0_3.length : Int) x4_1 t305 (wrap64 ((wrap64 (Int.tdiv x8_2 t311)) * x10_3)) (l0_3.length : Int) (wrap64 (x43_2 + 1)))) = some r := H
     have A57 := xA.mk A570
     clear A570
     by_cases c58 : t311 = 0
     ·
      rw [if_pos c58] at H
      exact absurd H (by simp)
     rw [if_neg c58] at H
     have c58b0 : (t311 == 0) = false := jg c58
     have H' := xA.mk H
     clear H
     go_wp2_with (first | ((with_reducible refine xG (f := 89) rfl ?_); refine xM (some 98) rfl rfl Try.func89 jk rfl #[.int .i64 x8_2, .int .i64 x10_3] rfl qd ?_; (with_reducible refine (line_gcd.calls k3 x8_2 x10_3 t311 _ A57.out).mono ?_); rintro e w59 ⟨rfl, hb⟩; refine ⟨_, rfl, ?_⟩; replace HO_4 := xA.mk (Kd.S_below (by exact HO_4.out) hb); replace HO_7 := xA.mk (Kd.S_below (by exact HO_7.out) hb); replace HO_11 := xA.mk (Kd.S_below (by exact HO_11.out) hb); replace BK293 := xA.mk (xO (g := gb293) (o := .cells #[.slice A0_0 l0_0.length c0_0, .int .i64 a0_1, .int .i64 a0_2, .slice A0_3 l0_3.length c0_3, .slice A0_4 l0_4.length c0_4] 58 (0, 0)) (by exact BK293.out) hb); replace HB := xA.mk (xD (HB.out) hb)))
     go_roundg k3
     case measure => have := HK1.out; have := HK2.out; have := HK3.out; omega
     case rel => exact ⟨(wrap64 ((wrap64 (Int.tdiv x8_2 t311)) * x10_3)), (wrap64 (x43_2 + 1)), rfl, rfl, H', ⟨by have := HK1.out; have := HK2.out; have := HK3.out; omega⟩, ⟨by exact Kd.xT HO_4.out (fun _ hk => hk.1)⟩, ⟨by exact Kd.xT HO_7.out (fun _ hk => hk.1)⟩, ⟨by exact BK293.out⟩, ⟨HB.out⟩⟩
    replace H := qw H
    obtain ⟨t312, A320, H⟩ := H
    replace H : (llperiod.l4 k3 (l0_3.length : Int) x4_1 t305 x8_2 x43_2 x10_3 t312 x12_3 (l0_3.length : Int) x43_2 (l0_3.length : Int) 0) = some r := H
    have A32 := xA.mk A320
    clear A320
    have H' := xA.mk H
    clear H
    obtain ⟨Ao33, co33, eo33⟩ := Kd.yC HO_11.out
    subst eo33
    go_wp2_with (first | ((with_reducible refine xG (f := 59) rfl ?_); refine xM (some 56) rfl rfl Try.func59 jk rfl #[.slice Ao33 x11_3.length co33, .slice Ao26 x4_1.length co26] rfl qd ?_; (with_reducible refine (lgtimes.calls k3 _ _ x11_3 _ _ x4_1 t312 _ ?side1 ?side2 ?side3 ?side4 A32.out).mono ?_); (case side1 => repeat (first | exact (Kd.xH HO_11.out).2.2)); (case side2 => exact (Kd.xH HO_11.out).2.1); (case side3 => repeat (first | exact (Kd.xH HO_4.out).2.2)); (case side4 => exact (Kd.xH HO_4.out).2.1); rintro e w34 ⟨v313, rfl, ho0, hb⟩; refine ⟨_, rfl, ?_⟩; have HO314 := xA.mk (Kd.S_lower (Kd.S_new' (Kd.S_new' (Kd.S_new' ho0 (Kd.S_lt (by exact HO_4.out))) (Kd.S_lt (by exact HO_7.out))) (Kd.S_lt (by exact HO_11.out))) (xB (HB.out))); replace HO_4 := xA.mk (Kd.S_elder' (by exact HO_4.out) (Kd.S_base ho0) hb); replace HO_7 := xA.mk (Kd.S_elder' (by exact HO_7.out) (Kd.S_base ho0) hb); replace HO_11 := xA.mk (Kd.S_elder' (by exact HO_11.out) (Kd.S_base ho0) hb); replace BK293 := xA.mk (xO (g := gb293) (o := .cells #[.slice A0_0 l0_0.length c0_0, .int .i64 a0_1, .int .i64 a0_2, .slice A0_3 l0_3.length c0_3, .slice A0_4 l0_4.length c0_4] 58 (0, 0)) (by exact BK293.out) hb); replace HB := xA.mk (xD (HB.out) hb)))
    go_loopg [10, 58] k3 (fun kq v10 v58 w' => ∃ (x10_4 : Int) (x58_4 : Int), v10 = .int .i64 x10_4 ∧ v58 = .int .i64 x58_4 ∧ xA (llperiod.l4 kq (l0_3.length : Int) x4_1 t305 x8_2 x43_2 x10_4 t312 x12_3 (l0_3.length : Int) x43_2 (l0_3.length : Int) x58_4 = some r) ∧ xA (kq ≤ k3) ∧ xA (Kd.S (Kd.slice 3 (Kd.int .i64)) 26 w' w.heap.size (fun k_ => some k_ ≠ (v306 : Value).ownBlock ∧ some k_ ≠ (v313 : Value).ownBlock) (.slice Ao26 x4_1.length co26) x4_1) ∧ xA (Kd.S (Kd.slice 3 (Kd.int .i64)) 26 w' w.heap.size (fun k_ => some k_ ≠ ((.slice Ao26 x4_1.length co26) : Value).ownBlock ∧ some k_ ≠ (v313 : Value).ownBlock) v306 t305) ∧ xA (Kd.S (Kd.slice 3 (Kd.int .i64)) 26 w' w.heap.size (fun k_ => some k_ ≠ ((.slice Ao26 x4_1.length co26) : Value).ownBlock ∧ some k_ ≠ (v306 : Value).ownBlock) v313 t312) ∧ xA (w'.heap[gb293]? = some (.cells #[(.slice A0_0 l0_0.length c0_0), .int .i64 a0_1, .int .i64 a0_2, (.slice A0_3 l0_3.length c0_3), (.slice A0_4 l0_4.length c0_4)] 58 (0, 0))) ∧ xA (Below w.heap.size w w'))
    case atStart => exact ⟨(x10_3), (0), rfl, rfl, H', ⟨Nat.le_refl _⟩, ⟨by exact Kd.xT HO_4.out (fun _ hk => ⟨hk.1.1, hk.2⟩)⟩, ⟨by exact Kd.xT HO_7.out (fun _ hk => ⟨hk.1.1, hk.2⟩)⟩, ⟨by exact Kd.xT HO314.out (fun _ hk => ⟨hk.1.1.2, hk.1.2⟩)⟩, ⟨by exact BK293.out⟩, ⟨HB.out⟩⟩
    case round =>
     clear H'
     obtain ⟨x10_4, x58_4, rfl, rfl, HA, HK4, HO_4, HO_7, HO_11, BK293, HB⟩ := hrel
     obtain _ | k4 := gk
     · exact absurd HA.out (by simp [llperiod.l4])
     have H := HA.out
     clear HA
     simp only [llperiod.l4] at H
     obtain ⟨c35b0, H⟩ | ⟨c35b0, H⟩ := yA H
     rotate_left
     ·
      have H' := xA.mk H
      clear H
      go_wp2
      go_roundg k4
      case measure => have := HK1.out; have := HK2.out; have := HK3.out; have := HK4.out; omega
      case rel => exact ⟨(x10_4), (t312), (wrap64 (x12_3 + 1)), rfl, rfl, H', ⟨by have := HK1.out; have := HK2.out; have := HK3.out; have := HK4.out; omega⟩, ⟨by exact HO_4.out⟩, ⟨by exact HO_7.out⟩, ⟨by exact HO_11.out⟩, ⟨by exact BK293.out⟩, ⟨HB.out⟩⟩
     obtain ⟨c36b0, H⟩ := xF H
     obtain ⟨c37b0, H⟩ := xF H
     obtain ⟨c38b0, H⟩ := xF H
     by_cases c39 : (rd (rd_L1 t312 x58_4) x58_4) = 0
     rotate_left
     ·
      rw [if_neg c39] at H
      have c39b0 : ((rd (rd_L1 t312 x58_4) x58_4) == 0) = false := jg c39
      have H' := xA.mk H
      clear H
      obtain ⟨Ao55, co55, eo55⟩ := Kd.yC HO_11.out
      subst eo55
      have p315 : 0 ≤ (x58_4 : Int) := qq
      have q315 : x58_4 < (t312.length : Int) := qq
      obtain ⟨ad315, A315_0, c315_0, e315, hx315_0, hl315_0, hi315_0⟩ := at_L1 (Kd.xH HO_11.out).2.2 x58_4 p315 q315
      cases e315
      obtain ⟨ce315, hce315, hMe315, hcc315⟩ := Kd.S_get HO_11.out [] x58_4 p315 (by first | exact q315 | exact qq | (have e_ := (Kd.xH HO_11.out).1; omega))
      obtain ⟨ve315_0, rfl, ge315_0⟩ := hMe315
      have hv315_0 := hcc315 0 _ rfl
      rw [Nat.add_zero, show ((Kd.slice 3 (Kd.int .i64))).sz = 1 from rfl, Nat.mul_one] at hv315_0
      replace hv315_0 := qx (hv315_0.symm.trans hx315_0)
      rw [hv315_0] at ge315_0
      have HL315_0 := xA.mk (show Kd.R (Kd.int .i64) 3 _ _ _ _ (rd_L1 t312 x58_4) from ge315_0)
      clear hv315_0 ge315_0
      have HX315_0 := xA.mk hx315_0
      clear hcc315 hce315
      have HR315_0 := xA.mk hi315_0
      have HC315_0 := xA.mk hl315_0
      clear hi315_0 hl315_0
      replace p315 := eq_true p315
      replace q315 := eq_true q315
      have p316 : 0 ≤ (x58_4 : Int) := qq
      have q316 : x58_4 < ((rd_L1 t312 x58_4).length : Int) := qq
      obtain ⟨ad316, e316, hx316_0⟩ := Kd.xU (by repeat (first | (with_reducible exact HR315_0.out) | exact HR315_0.out)) x58_4 p316 q316
      cases e316
      replace p316 := eq_true p316
      replace q316 := eq_true q316
      go_wp2
      go_roundg k4
      case measure => have := HK1.out; have := HK2.out; have := HK3.out; have := HK4.out; omega
      case rel => exact ⟨(x10_4), (wrap64 (x58_4 + 1)), rfl, rfl, H', ⟨by have := HK1.out; have := HK2.out; have := HK3.out; have := HK4.out; omega⟩, ⟨by exact HO_4.out⟩, ⟨by exact HO_7.out⟩, ⟨by exact HO_11.out⟩, ⟨by exact BK293.out⟩, ⟨HB.out⟩⟩
     rw [if_pos c39] at H
     have c39b0 : ((rd (rd_L1 t312 x58_4) x58_4) == 0) = true := beq_iff_eq.mpr c39
     clear c39
     obtain ⟨c40b0, H⟩ := xF H
     obtain ⟨c41b0, H⟩ := xF H
     obtain ⟨c42b0, H⟩ := xF H
     by_cases c43 : (rd (rd_L1 t305 x43_2) x58_4) = 0
     rotate_left
     ·
      rw [if_neg c43] at H
      have c43b0 : ((rd (rd_L1 t305 x43_2) x58_4) == 0) = false := jg c43
      have H' := xA.mk H
      clear H
      obtain ⟨Ao53, co53, eo53⟩ := Kd.yC HO_11.out
      subst eo53
      have p315 : 0 ≤ (x58_4 : Int) := qq
      have q315 : x58_4 < (t312.length : Int) := qq
      obtain ⟨ad315, A315_0, c315_0, e315, hx315_0, hl315_0, hi315_0⟩ := at_L1 (Kd.xH HO_11.out).2.2 x58_4 p315 q315
      cases e315
      obtain ⟨ce315, hce315, hMe315, hcc315⟩ := Kd.S_get HO_11.out [] x58_4 p315 (by first | exact q315 | exact qq | (have e_ := (Kd.xH HO_11.out).1; omega))
      obtain ⟨ve315_0, rfl, ge315_0⟩ := hMe315
      have hv315_0 := hcc315 0 _ rfl
      rw [Nat.add_zero, show ((Kd.slice 3 (Kd.int .i64))).sz = 1 from rfl, Nat.mul_one] at hv315_0
      replace hv315_0 := qx (hv315_0.symm.trans hx315_0)
      rw [hv315_0] at ge315_0
      have HL315_0 := xA.mk (show Kd.R (Kd.int .i64) 3 _ _ _ _ (rd_L1 t312 x58_4) from ge315_0)
      clear hv315_0 ge315_0
      have HX315_0 := xA.mk hx315_0
      clear hcc315 hce315
      have HR315_0 := xA.mk hi315_0
      have HC315_0 := xA.mk hl315_0
      clear hi315_0 hl315_0
      replace p315 := eq_true p315
      replace q315 := eq_true q315
      have p316 : 0 ≤ (x58_4 : Int) := qq
      have q316 : x58_4 < ((rd_L1 t312 x58_4).length : Int) := qq
      obtain ⟨ad316, e316, hx316_0⟩ := Kd.xU (by repeat (first | (with_reducible exact HR315_0.out) | exact HR315_0.out)) x58_4 p316 q316
      cases e316
      replace p316 := eq_true p316
      replace q316 := eq_true q316
      obtain ⟨Ao54, co54, eo54⟩ := Kd.yC HO_7.out
      subst eo54
      have p317 : 0 ≤ (x43_2 : Int) := qq
      have q317 : x43_2 < (t305.length : Int) := qq
      obtain ⟨ad317, A317_0, c317_0, e317, hx317_0, hl317_0, hi317_0⟩ := at_L1 (Kd.xH HO_7.out).2.2 x43_2 p317 q317
      cases e317
      obtain ⟨ce317, hce317, hMe317, hcc317⟩ := Kd.S_get HO_7.out [] x43_2 p317 (by first | exact q317 | exact qq | (have e_ := (Kd.xH HO_7.out).1; omega))
      obtain ⟨ve317_0, rfl, ge317_0⟩ := hMe317
      have hv317_0 := hcc317 0 _ rfl
      rw [Nat.add_zero, show ((Kd.slice 3 (Kd.int .i64))).sz = 1 from rfl, Nat.mul_one] at hv317_0
      replace hv317_0 := qx (hv317_0.symm.trans hx317_0)
      rw [hv317_0] at ge317_0
      have HL317_0 := xA.mk (show Kd.R (Kd.int .i64) 3 _ _ _ _ (rd_L1 t305 x43_2) from ge317_0)
      clear hv317_0 ge317_0
      have HX317_0 := xA.mk hx317_0
      clear hcc317 hce317
      have HR317_0 := xA.mk hi317_0
      have HC317_0 := xA.mk hl317_0
      clear hi317_0 hl317_0
      replace p317 := eq_true p317
      replace q317 := eq_true q317
      have p318 : 0 ≤ (x58_4 : Int) := qq
      have q318 : x58_4 < ((rd_L1 t305 x43_2).length : Int) := qq
      obtain ⟨ad318, e318, hx318_0⟩ := Kd.xU (by repeat (first | (with_reducible exact HR317_0.out) | exact HR317_0.out)) x58_4 p318 q318
      cases e318
      replace p318 := eq_true p318
      replace q318 := eq_true q318
      go_wp2
      go_roundg k4
      case measure => have := HK1.out; have := HK2.out; have := HK3.out; have := HK4.out; omega
      case rel => exact ⟨(x10_4), (wrap64 (x58_4 + 1)), rfl, rfl, H', ⟨by have := HK1.out; have := HK2.out; have := HK3.out; have := HK4.out; omega⟩, ⟨by exact HO_4.out⟩, ⟨by exact HO_7.out⟩, ⟨by exact HO_11.out⟩, ⟨by exact BK293.out⟩, ⟨HB.out⟩⟩
     rw [if_pos c43] at H
     have c43b0 : ((rd (rd_L1 t305 x43_2) x58_4) == 0) = true := beq_iff_eq.mpr c43
     clear c43
     obtain ⟨c44b0, H⟩ := xF H
     obtain ⟨c45b0, H⟩ := xF H
     by_cases c46 : (rd (rd_L1 t305 x58_4) x43_2) = 0
     rotate_left
     ·
      rw [if_neg c46] at H
      have c46b0 : ((rd (rd_L1 t305 x58_4) x43_2) == 0) = false := jg c46
      have H' := xA.mk H
      clear H
      obtain ⟨Ao51, co51, eo51⟩ := Kd.yC HO_11.out
      subst eo51
      have p315 : 0 ≤ (x58_4 : Int) := qq
      have q315 : x58_4 < (t312.length : Int) := qq
      obtain ⟨ad315, A315_0, c315_0, e315, hx315_0, hl315_0, hi315_0⟩ := at_L1 (Kd.xH HO_11.out).2.2 x58_4 p315 q315
      cases e315
      obtain ⟨ce315, hce315, hMe315, hcc315⟩ := Kd.S_get HO_11.out [] x58_4 p315 (by first | exact q315 | exact qq | (have e_ := (Kd.xH HO_11.out).1; omega))
      obtain ⟨ve315_0, rfl, ge315_0⟩ := hMe315
      have hv315_0 := hcc315 0 _ rfl
      rw [Nat.add_zero, show ((Kd.slice 3 (Kd.int .i64))).sz = 1 from rfl, Nat.mul_one] at hv315_0
      replace hv315_0 := qx (hv315_0.symm.trans hx315_0)
      rw [hv315_0] at ge315_0
      have HL315_0 := xA.mk (show Kd.R (Kd.int .i64) 3 _ _ _ _ (rd_L1 t312 x58_4) from ge315_0)
      clear hv315_0 ge315_0
      have HX315_0 := xA.mk hx315_0
      clear hcc315 hce315
      have HR315_0 := xA.mk hi315_0
      have HC315_0 := xA.mk hl315_0
      clear hi315_0 hl315_0
      replace p315 := eq_true p315
      replace q315 := eq_true q315
      have p316 : 0 ≤ (x58_4 : Int) := qq
      have q316 : x58_4 < ((rd_L1 t312 x58_4).length : Int) := qq
      obtain ⟨ad316, e316, hx316_0⟩ := Kd.xU (by repeat (first | (with_reducible exact HR315_0.out) | exact HR315_0.out)) x58_4 p316 q316
      cases e316
      replace p316 := eq_true p316
      replace q316 := eq_true q316
      obtain ⟨Ao52, co52, eo52⟩ := Kd.yC HO_7.out
      subst eo52
      have p317 : 0 ≤ (x43_2 : Int) := qq
      have q317 : x43_2 < (t305.length : Int) := qq
      obtain ⟨ad317, A317_0, c317_0, e317, hx317_0, hl317_0, hi317_0⟩ := at_L1 (Kd.xH HO_7.out).2.2 x43_2 p317 q317
      cases e317
      obtain ⟨ce317, hce317, hMe317, hcc317⟩ := Kd.S_get HO_7.out [] x43_2 p317 (by first | exact q317 | exact qq | (have e_ := (Kd.xH HO_7.out).1; omega))
      obtain ⟨ve317_0, rfl, ge317_0⟩ := hMe317
      have hv317_0 := hcc317 0 _ rfl
      rw [Nat.add_zero, show ((Kd.slice 3 (Kd.int .i64))).sz = 1 from rfl, Nat.mul_one] at hv317_0
      replace hv317_0 := qx (hv317_0.symm.trans hx317_0)
      rw [hv317_0] at ge317_0
      have HL317_0 := xA.mk (show Kd.R (Kd.int .i64) 3 _ _ _ _ (rd_L1 t305 x43_2) from ge317_0)
      clear hv317_0 ge317_0
      have HX317_0 := xA.mk hx317_0
      clear hcc317 hce317
      have HR317_0 := xA.mk hi317_0
      have HC317_0 := xA.mk hl317_0
      clear hi317_0 hl317_0
      replace p317 := eq_true p317
      replace q317 := eq_true q317
      have p318 : 0 ≤ (x58_4 : Int) := qq
      have q318 : x58_4 < ((rd_L1 t305 x43_2).length : Int) := qq
      obtain ⟨ad318, e318, hx318_0⟩ := Kd.xU (by repeat (first | (with_reducible exact HR317_0.out) | exact HR317_0.out)) x58_4 p318 q318
      cases e318
      replace p318 := eq_true p318
      replace q318 := eq_true q318
      have p319 : 0 ≤ (x58_4 : Int) := qq
      have q319 : x58_4 < (t305.length : Int) := qq
      obtain ⟨ad319, A319_0, c319_0, e319, hx319_0, hl319_0, hi319_0⟩ := at_L1 (Kd.xH HO_7.out).2.2 x58_4 p319 q319
      obtain rfl : ad317 = ad319 := (by injection e319)
      obtain ⟨ce319, hce319, hMe319, hcc319⟩ := Kd.S_get HO_7.out [] x58_4 p319 (by first | exact q319 | exact qq | (have e_ := (Kd.xH HO_7.out).1; omega))
      obtain ⟨ve319_0, rfl, ge319_0⟩ := hMe319
      have hv319_0 := hcc319 0 _ rfl
      rw [Nat.add_zero, show ((Kd.slice 3 (Kd.int .i64))).sz = 1 from rfl, Nat.mul_one] at hv319_0
      replace hv319_0 := qx (hv319_0.symm.trans hx319_0)
      rw [hv319_0] at ge319_0
      have HL319_0 := xA.mk (show Kd.R (Kd.int .i64) 3 _ _ _ _ (rd_L1 t305 x58_4) from ge319_0)
      clear hv319_0 ge319_0
      have HX319_0 := xA.mk hx319_0
      clear hcc319 hce319
      have HR319_0 := xA.mk hi319_0
      have HC319_0 := xA.mk hl319_0
      clear hi319_0 hl319_0
      replace p319 := eq_true p319
      replace q319 := eq_true q319
      have p320 : 0 ≤ (x43_2 : Int) := qq
      have q320 : x43_2 < ((rd_L1 t305 x58_4).length : Int) := qq
      obtain ⟨ad320, e320, hx320_0⟩ := Kd.xU (by repeat (first | (with_reducible exact HR319_0.out) | exact HR319_0.out)) x43_2 p320 q320
      cases e320
      replace p320 := eq_true p320
      replace q320 := eq_true q320
      go_wp2
      go_roundg k4
      case measure => have := HK1.out; have := HK2.out; have := HK3.out; have := HK4.out; omega
      case rel => exact ⟨(x10_4), (wrap64 (x58_4 + 1)), rfl, rfl, H', ⟨by have := HK1.out; have := HK2.out; have := HK3.out; have := HK4.out; omega⟩, ⟨by exact HO_4.out⟩, ⟨by exact HO_7.out⟩, ⟨by exact HO_11.out⟩, ⟨by exact BK293.out⟩, ⟨HB.out⟩⟩
     rw [if_pos c46] at H
     have c46b0 : ((rd (rd_L1 t305 x58_4) x43_2) == 0) = true := beq_iff_eq.mpr c46
     clear c46
     replace H := qw H
     obtain ⟨t321, A470, H⟩ := H
     replace H : (llperiod.l4 k4 (l0_3.length : Int) x4_1 t305 x8_2 x43_2 t321 t312 x12_3 (l0_3.length : Int) x43_2 (l0_3.length : Int) (wrap64 (x58_4 + 1))) = some r := H
     have A47 := xA.mk A470
     clear A470
     have H' := xA.mk H
     clear H
     obtain ⟨Ao48, co48, eo48⟩ := Kd.yC HO_11.out
     subst eo48
     have p315 : 0 ≤ (x58_4 : Int) := qq
     have q315 : x58_4 < (t312.length : Int) := qq
     obtain ⟨ad315, A315_0, c315_0, e315, hx315_0, hl315_0, hi315_0⟩ := at_L1 (Kd.xH HO_11.out).2.2 x58_4 p315 q315
     cases e315
     obtain ⟨ce315, hce315, hMe315, hcc315⟩ := Kd.S_get HO_11.out [] x58_4 p315 (by first | exact q315 | exact qq | (have e_ := (Kd.xH HO_11.out).1; omega))
     obtain ⟨ve315_0, rfl, ge315_0⟩ := hMe315
     have hv315_0 := hcc315 0 _ rfl
     rw [Nat.add_zero, show ((Kd.slice 3 (Kd.int .i64))).sz = 1 from rfl, Nat.mul_one] at hv315_0
     replace hv315_0 := qx (hv315_0.symm.trans hx315_0)
     rw [hv315_0] at ge315_0
     have HL315_0 := xA.mk (show Kd.R (Kd.int .i64) 3 _ _ _ _ (rd_L1 t312 x58_4) from ge315_0)
     clear hv315_0 ge315_0
     have HX315_0 := xA.mk hx315_0
     clear hcc315 hce315
     have HR315_0 := xA.mk hi315_0
     have HC315_0 := xA.mk hl315_0
     clear hi315_0 hl315_0
     replace p315 := eq_true p315
     replace q315 := eq_true q315
     have p316 : 0 ≤ (x58_4 : Int) := qq
     have q316 : x58_4 < ((rd_L1 t312 x58_4).length : Int) := qq
     obtain ⟨ad316, e316, hx316_0⟩ := Kd.xU (by repeat (first | (with_reducible exact HR315_0.out) | exact HR315_0.out)) x58_4 p316 q316
     cases e316
     replace p316 := eq_true p316
     replace q316 := eq_true q316
     obtain ⟨Ao49, co49, eo49⟩ := Kd.yC HO_7.out
     subst eo49
     have p317 : 0 ≤ (x43_2 : Int) := qq
     have q317 : x43_2 < (t305.length : Int) := qq
     obtain ⟨ad317, A317_0, c317_0, e317, hx317_0, hl317_0, hi317_0⟩ := at_L1 (Kd.xH HO_7.out).2.2 x43_2 p317 q317
     cases e317
     obtain ⟨ce317, hce317, hMe317, hcc317⟩ := Kd.S_get HO_7.out [] x43_2 p317 (by first | exact q317 | exact qq | (have e_ := (Kd.xH HO_7.out).1; omega))
     obtain ⟨ve317_0, rfl, ge317_0⟩ := hMe317
     have hv317_0 := hcc317 0 _ rfl
     rw [Nat.add_zero, show ((Kd.slice 3 (Kd.int .i64))).sz = 1 from rfl, Nat.mul_one] at hv317_0
     replace hv317_0 := qx (hv317_0.symm.trans hx317_0)
     rw [hv317_0] at ge317_0
     have HL317_0 := xA.mk (show Kd.R (Kd.int .i64) 3 _ _ _ _ (rd_L1 t305 x43_2) from ge317_0)
     clear hv317_0 ge317_0
     have HX317_0 := xA.mk hx317_0
     clear hcc317 hce317
     have HR317_0 := xA.mk hi317_0
     have HC317_0 := xA.mk hl317_0
     clear hi317_0 hl317_0
     replace p317 := eq_true p317
     replace q317 := eq_true q317
     have p318 : 0 ≤ (x58_4 : Int) := qq
     have q318 : x58_4 < ((rd_L1 t305 x43_2).length : Int) := qq
     obtain ⟨ad318, e318, hx318_0⟩ := Kd.xU (by repeat (first | (with_reducible exact HR317_0.out) | exact HR317_0.out)) x58_4 p318 q318
     cases e318
     replace p318 := eq_true p318
     replace q318 := eq_true q318
     have p319 : 0 ≤ (x58_4 : Int) := qq
     have q319 : x58_4 < (t305.length : Int) := qq
     obtain ⟨ad319, A319_0, c319_0, e319, hx319_0, hl319_0, hi319_0⟩ := at_L1 (Kd.xH HO_7.out).2.2 x58_4 p319 q319
     obtain rfl : ad317 = ad319 := (by injection e319)
     obtain ⟨ce319, hce319, hMe319, hcc319⟩ := Kd.S_get HO_7.out [] x58_4 p319 (by first | exact q319 | exact qq | (have e_ := (Kd.xH HO_7.out).1; omega))
     obtain ⟨ve319_0, rfl, ge319_0⟩ := hMe319
     have hv319_0 := hcc319 0 _ rfl
     rw [Nat.add_zero, show ((Kd.slice 3 (Kd.int .i64))).sz = 1 from rfl, Nat.mul_one] at hv319_0
     replace hv319_0 := qx (hv319_0.symm.trans hx319_0)
     rw [hv319_0] at ge319_0
     have HL319_0 := xA.mk (show Kd.R (Kd.int .i64) 3 _ _ _ _ (rd_L1 t305 x58_4) from ge319_0)
     clear hv319_0 ge319_0
     have HX319_0 := xA.mk hx319_0
     clear hcc319 hce319
     have HR319_0 := xA.mk hi319_0
     have HC319_0 := xA.mk hl319_0
     clear hi319_0 hl319_0
     replace p319 := eq_true p319
     replace q319 := eq_true q319
     have p320 : 0 ≤ (x43_2 : Int) := qq
     have q320 : x43_2 < ((rd_L1 t305 x58_4).length : Int) := qq
     obtain ⟨ad320, e320, hx320_0⟩ := Kd.xU (by repeat (first | (with_reducible exact HR319_0.out) | exact HR319_0.out)) x43_2 p320 q320
     cases e320
     replace p320 := eq_true p320
     replace q320 := eq_true q320
     go_wp2_with (first | ((with_reducible refine xG (f := 89) rfl ?_); refine xM (some 91) rfl rfl Try.func89 jk rfl #[.int .i64 x10_4, .int .i64 x12_3] rfl qd ?_; (with_reducible refine (line_gcd.calls k4 x10_4 x12_3 t321 _ A47.out).mono ?_); rintro e w50 ⟨rfl, hb⟩; refine ⟨_, rfl, ?_⟩; replace HO_4 := xA.mk (Kd.S_below (by exact HO_4.out) hb); replace HO_7 := xA.mk (Kd.S_below (by exact HO_7.out) hb); replace HO_11 := xA.mk (Kd.S_below (by exact HO_11.out) hb); replace HL315_0 := xA.mk (Kd.R_below (by exact HL315_0.out) hb); replace HL317_0 := xA.mk (Kd.R_below (by exact HL317_0.out) hb); replace HL319_0 := xA.mk (Kd.R_below (by exact HL319_0.out) hb); replace BK293 := xA.mk (xO (g := gb293) (o := .cells #[.slice A0_0 l0_0.length c0_0, .int .i64 a0_1, .int .i64 a0_2, .slice A0_3 l0_3.length c0_3, .slice A0_4 l0_4.length c0_4] 58 (0, 0)) (by exact BK293.out) hb); replace HR315_0 := xA.mk (Kd.xQ (by repeat (first | (with_reducible exact HR315_0.out) | exact HR315_0.out)) hb); replace HX315_0 := xA.mk (pw_cell_below hb HX315_0.out); replace HR317_0 := xA.mk (Kd.xQ (by repeat (first | (with_reducible exact HR317_0.out) | exact HR317_0.out)) hb); replace HX317_0 := xA.mk (pw_cell_below hb HX317_0.out); replace HR319_0 := xA.mk (Kd.xQ (by repeat (first | (with_reducible exact HR319_0.out) | exact HR319_0.out)) hb); replace HX319_0 := xA.mk (pw_cell_below hb HX319_0.out); replace HB := xA.mk (xD (HB.out) hb)))
     go_roundg k4
     case measure => have := HK1.out; have := HK2.out; have := HK3.out; have := HK4.out; omega
     case rel => exact ⟨(t321), (wrap64 (x58_4 + 1)), rfl, rfl, H', ⟨by have := HK1.out; have := HK2.out; have := HK3.out; have := HK4.out; omega⟩, ⟨by exact HO_4.out⟩, ⟨by exact HO_7.out⟩, ⟨by exact HO_11.out⟩, ⟨by exact BK293.out⟩, ⟨HB.out⟩⟩
def lgpower.l0 : Nat → List (List Int) → Int → List (List Int) → Option ((List (List Int)))
 | 0, _, _, _ => none
 | k + 1, x0, x1, x5 => if x1 > 0 then (if (Int.tmod x1 2) = 1 then ((lgtimes.f k x5 x0).bind fun t326 => ((lgtimes.f k x0 x0).bind fun t329 => (lgpower.l0 k t329 (wrap64 (Int.tdiv x1 2)) t326))) else ((lgtimes.f k x0 x0).bind fun t332 => (lgpower.l0 k t332 (wrap64 (Int.tdiv x1 2)) x5))) else (some x5)
def lgpower.f (k : Nat) (l0 : List (List Int)) (a1 : Int) : Option ((List (List Int))) := (line_one_int.f k (l0.length : Int)).bind fun t323 => (lgpower.l0 k l0 a1 t323)
theorem lgpower.mono_l : ∀ k, (∀ y0 y1 y2, LeO (lgpower.l0 k y0 y1 y2) (lgpower.l0 (k + 1) y0 y1 y2))
 | 0 => fun _ _ _ r h => by simp [lgpower.l0] at h
 | k + 1 => by
  have ih0 := lgpower.mono_l k
  ·
   intro y0 y1 y2
   unfold lgpower.l0
   repeat' first
   | (with_reducible exact LeO.refl _)
   | (with_reducible exact LeO.none _)
   | (with_reducible refine LeO.ite ?_ ?_)
   | (with_reducible refine LeO.bind ?_ (fun _ => ?_))
   | exact ih0 _ _ _
   | exact lgtimes.mono _ _ _
   | exact line_one_int.mono _ _
theorem lgpower.mono : ∀ a0 a1 k, LeO (lgpower.f k a0 a1) (lgpower.f (k + 1) a0 a1) := by
 intro a0 a1 k
 have ih0 := lgpower.mono_l k
 unfold lgpower.f
 repeat' first
   | (with_reducible exact LeO.refl _)
   | (with_reducible exact LeO.none _)
   | (with_reducible refine LeO.ite ?_ ?_)
   | (with_reducible refine LeO.bind ?_ (fun _ => ?_))
   | exact ih0 _ _ _
   | exact lgtimes.mono _ _ _
   | exact line_one_int.mono _ _
theorem lgpower.calls (k : Nat) (P0_ : Nat → Prop) (A0 : Option Addr) (c0 : Nat) (l0 : List (List Int)) (a1 : Int) (r : List (List Int)) (w : World) (hs0 : Kd.V (Kd.slice 3 (Kd.int .i64)) 26 w w.heap.size (fun k_ => P0_ k_) (.slice A0 l0.length c0) l0) (h : lgpower.f k l0 a1 = some r) :
  Calls Try.prog 56 #[.slice A0 l0.length c0, .int .i64 a1] w fun e w' => ∃ v0_ : Value, e = .returned (v0_) ∧ Kd.S (Kd.slice 3 (Kd.int .i64)) 26 w' w.heap.size (fun k_ => (w.heap.size ≤ k_)) v0_ r ∧ Below w.heap.size w w' := by
 have HO0 := xA.mk (show Kd.V (Kd.slice 3 (Kd.int .i64)) 26 w w.heap.size (fun k_ => (P0_ k_ ∨ w.heap.size ≤ k_)) (.slice A0 l0.length c0) l0 from Kd.V_mono hs0 (fun k_ hk => .inl hk))
 have HB := xA.mk (Below.refl w.heap.size w)
 have H : ((line_one_int.f k (l0.length : Int)).bind fun t323 => (lgpower.l0 k l0 a1 t323)) = some r := h
 clear h
 replace H := qw H
 obtain ⟨t323, A30, H⟩ := H
 replace H : (lgpower.l0 k l0 a1 t323) = some r := H
 have A3 := xA.mk A30
 clear A30
 have H' := xA.mk H
 clear H
 go_enter Try.func56, Try.ntmps56
 go_wp2_with (first | ((with_reducible refine xG (f := 87) rfl ?_); refine xM (some 8) rfl rfl Try.func87 jk rfl #[.int .i64 (l0.length : Int)] rfl qd ?_; (with_reducible refine (line_one_int.calls k (l0.length : Int) t323 _ A3.out).mono ?_); rintro e w4 ⟨v324, rfl, ho0, hb⟩; refine ⟨_, rfl, ?_⟩; replace HO0 := xA.mk (Kd.V_elder' (by exact HO0.out) (Kd.S_base ho0) hb); have HO325 := xA.mk (Kd.S_lower (Kd.S_newM (M := fun k_ => (w.heap.size ≤ k_)) ho0 (xB (HB.out)) (fun k_ h_ => h_)) (xB (HB.out))); replace HB := xA.mk (xD (HB.out) hb)))
 go_loopg [0, 1, 5] k (fun kq v0 v1 v5 w' => ∃ (x0_1 : List (List Int)) (x1_1 : Int) (x5_1 : List (List Int)), v1 = .int .i64 x1_1 ∧ xA (lgpower.l0 kq x0_1 x1_1 x5_1 = some r) ∧ xA (kq ≤ k) ∧ xA (Kd.V (Kd.slice 3 (Kd.int .i64)) 26 w' w.heap.size (fun k_ => (P0_ k_ ∨ w.heap.size ≤ k_) ∧ some k_ ≠ (v5 : Value).ownBlock) v0 x0_1) ∧ xA (Kd.S (Kd.slice 3 (Kd.int .i64)) 26 w' w.heap.size (fun k_ => (w.heap.size ≤ k_)) v5 x5_1) ∧ xA (Below w.heap.size w w'))
 case atStart => exact ⟨(l0), (a1), (t323), rfl, H', ⟨Nat.le_refl _⟩, ⟨by exact HO0.out⟩, ⟨by exact Kd.xT HO325.out (fun _ hk => hk.1)⟩, ⟨HB.out⟩⟩
 case round =>
  clear H'
  obtain ⟨x0_1, x1_1, x5_1, rfl, HA, HK1, HO_0, HO_5, HB⟩ := hrel
  obtain _ | k1 := gk
  · exact absurd HA.out (by simp [lgpower.l0])
  have H := HA.out
  clear HA
  simp only [lgpower.l0] at H
  by_cases c5 : x1_1 > 0
  rotate_left
  ·
   rw [if_neg c5] at H
   have c5b0 : decide (0 < x1_1) = false := qv c5
   clear c5
   obtain rfl := qx H
   go_wp2
   go_ret
   exact ⟨_, rfl, by exact HO_5.out, HB.out⟩
  rw [if_pos c5] at H
  have c5b0 : decide (0 < x1_1) = true := qu c5
  clear c5
  by_cases c6 : (Int.tmod x1_1 2) = 1
  rotate_left
  ·
   rw [if_neg c6] at H
   have c6b0 : ((Int.tmod x1_1 2) == 1) = false := jg c6
   replace H := qw H
   obtain ⟨t332, A130, H⟩ := H
   replace H : (lgpower.l0 k1 t332 (wrap64 (Int.tdiv x1_1 2)) x5_1) = some r := H
   have A13 := xA.mk A130
   clear A130
   have H' := xA.mk H
   clear H
   obtain ⟨Ao14, co14, eo14⟩ := Kd.V_slice HO_0.out
   subst eo14
   go_wp2_with (first | ((with_reducible refine xG (f := 59) rfl ?_); refine xM (some 21) rfl rfl Try.func59 jk rfl #[.slice Ao14 x0_1.length co14, .slice Ao14 x0_1.length co14] rfl qd ?_; (with_reducible refine (lgtimes.calls k1 _ _ x0_1 _ _ x0_1 t332 _ ?side1 ?side2 ?side3 ?side4 A13.out).mono ?_); (case side1 => repeat (first | exact (Kd.xW HO_0.out).2.2)); (case side2 => exact (Kd.xW HO_0.out).2.1); (case side3 => repeat (first | exact (Kd.xW HO_0.out).2.2)); (case side4 => exact (Kd.xW HO_0.out).2.1); rintro e w15 ⟨v333, rfl, ho0, hb⟩; refine ⟨_, rfl, ?_⟩; replace HO_0 := xA.mk (Kd.V_elder' (by exact HO_0.out) (Kd.S_base ho0) hb); have HO334 := xA.mk (Kd.S_lower (Kd.S_new' (Kd.S_newM (M := fun k_ => (w.heap.size ≤ k_)) ho0 (xB (HB.out)) (fun k_ h_ => h_)) (Kd.S_lt (by exact HO_5.out))) (xB (HB.out))); replace HO_5 := xA.mk (Kd.S_elder' (by exact HO_5.out) (Kd.S_base ho0) hb); replace HB := xA.mk (xD (HB.out) hb)))
   go_roundg k1
   case measure => have := HK1.out; omega
   case rel => exact ⟨(t332), (wrap64 (Int.tdiv x1_1 2)), (x5_1), rfl, H', ⟨by have := HK1.out; omega⟩, ⟨Kd.V_mono (Kd.S_V (by exact HO334.out)) (fun k_ hk => by exact ⟨.inr (hk.1.1), hk.2⟩)⟩, ⟨by exact Kd.xT HO_5.out (fun _ hk => hk.1)⟩, ⟨HB.out⟩⟩
  rw [if_pos c6] at H
  have c6b0 : ((Int.tmod x1_1 2) == 1) = true := beq_iff_eq.mpr c6
  clear c6
  replace H := qw H
  obtain ⟨t326, A70, H⟩ := H
  replace H : ((lgtimes.f k1 x0_1 x0_1).bind fun t329 => (lgpower.l0 k1 t329 (wrap64 (Int.tdiv x1_1 2)) t326)) = some r := H
  have A7 := xA.mk A70
  clear A70
  replace H := qw H
  obtain ⟨t329, A80, H⟩ := H
  replace H : (lgpower.l0 k1 t329 (wrap64 (Int.tdiv x1_1 2)) t326) = some r := H
  have A8 := xA.mk A80
  clear A80
  have H' := xA.mk H
  clear H
  obtain ⟨Ao9, co9, eo9⟩ := Kd.yC HO_5.out
  subst eo9
  obtain ⟨Ao10, co10, eo10⟩ := Kd.V_slice HO_0.out
  subst eo10
  go_wp2_with (first | ((with_reducible refine xG (f := 59) rfl ?_); refine xM (some 18) rfl rfl Try.func59 jk rfl #[.slice Ao9 x5_1.length co9, .slice Ao10 x0_1.length co10] rfl qd ?_; (with_reducible refine (lgtimes.calls k1 _ _ x5_1 _ _ x0_1 t326 _ ?side1 ?side2 ?side3 ?side4 A7.out).mono ?_); (case side1 => repeat (first | exact (Kd.xH HO_5.out).2.2)); (case side2 => exact (Kd.xH HO_5.out).2.1); (case side3 => repeat (first | exact (Kd.xW HO_0.out).2.2)); (case side4 => exact (Kd.xW HO_0.out).2.1); rintro e w11 ⟨v327, rfl, ho0, hb⟩; refine ⟨_, rfl, ?_⟩; have n0_ := xA.mk (Kd.V_elder' (by exact HO_0.out) (Kd.S_base ho0) hb); have n1_ := xA.mk (Kd.S_elder' (by exact HO_5.out) (Kd.S_base ho0) hb); have n2_ := xA.mk (Kd.S_lower (Kd.S_new' (Kd.S_newM (M := fun k_ => (w.heap.size ≤ k_)) ho0 (xB (HB.out)) (fun k_ h_ => h_)) (Kd.S_lt (by exact HO_5.out))) (xB (HB.out))); have n3_ := xA.mk (xD (HB.out) hb); clear HO_0; clear HO_5; clear HB; have HO_0 := n0_; have HO_5 := n1_; have HO328 := n2_; have HB := n3_; clear n0_ n1_ n2_ n3_) | ((with_reducible refine xG (f := 59) rfl ?_); refine xM (some 21) rfl rfl Try.func59 jk rfl #[.slice Ao10 x0_1.length co10, .slice Ao10 x0_1.length co10] rfl qd ?_; (with_reducible refine (lgtimes.calls k1 _ _ x0_1 _ _ x0_1 t329 _ ?side1 ?side2 ?side3 ?side4 A8.out).mono ?_); (case side1 => repeat (first | exact (Kd.xW HO_0.out).2.2)); (case side2 => exact (Kd.xW HO_0.out).2.1); (case side3 => repeat (first | exact (Kd.xW HO_0.out).2.2)); (case side4 => exact (Kd.xW HO_0.out).2.1); rintro e w12 ⟨v330, rfl, ho0, hb⟩; refine ⟨_, rfl, ?_⟩; replace HO_0 := xA.mk (Kd.V_elder' (by exact HO_0.out) (Kd.S_base ho0) hb); have HO331 := xA.mk (Kd.S_lower (Kd.S_new' (Kd.S_new' (Kd.S_newM (M := fun k_ => (w.heap.size ≤ k_)) ho0 (xB (HB.out)) (fun k_ h_ => h_)) (Kd.S_lt (by exact HO_5.out))) (Kd.S_lt (by exact HO328.out))) (xB (HB.out))); replace HO_5 := xA.mk (Kd.S_elder' (by exact HO_5.out) (Kd.S_base ho0) hb); replace HO328 := xA.mk (Kd.S_elder' (by exact HO328.out) (Kd.S_base ho0) hb); replace HB := xA.mk (xD (HB.out) hb)))
  go_roundg k1
  case measure => have := HK1.out; omega
  case rel => exact ⟨(t329), (wrap64 (Int.tdiv x1_1 2)), (t326), rfl, H', ⟨by have := HK1.out; omega⟩, ⟨Kd.V_mono (Kd.S_V (by exact HO331.out)) (fun k_ hk => by exact ⟨.inr (hk.1.1.1), hk.2⟩)⟩, ⟨by exact Kd.xT HO328.out (fun _ hk => hk.1.1.1)⟩, ⟨HB.out⟩⟩
def slices_Equal_int_int.l0 : Nat → List Int → List Int → Int → Int → Option (Bool)
 | 0, _, _, _, _ => none
 | k + 1, x0, x1, x12, x13 => if x13 < x12 then (if 0 ≤ x13 then (if x13 < (x0.length : Int) then (if x13 < (x1.length : Int) then (if (rd x0 x13) = (rd x1 x13) then (slices_Equal_int_int.l0 k x0 x1 x12 (wrap64 (x13 + 1))) else (some false)) else (none)) else (none)) else (none)) else (some true)
def slices_Equal_int_int.f (k : Nat) (l0 : List Int) (l1 : List Int) : Option (Bool) := if (l0.length : Int) = (l1.length : Int) then (slices_Equal_int_int.l0 k l0 l1 (l0.length : Int) 0) else (some false)
theorem slices_Equal_int_int.mono_l : ∀ k, (∀ y0 y1 y2 y3, LeO (slices_Equal_int_int.l0 k y0 y1 y2 y3) (slices_Equal_int_int.l0 (k + 1) y0 y1 y2 y3))
 | 0 => fun _ _ _ _ r h => by simp [slices_Equal_int_int.l0] at h
 | k + 1 => by
  have ih0 := slices_Equal_int_int.mono_l k
  ·
   intro y0 y1 y2 y3
   unfold slices_Equal_int_int.l0
   repeat' first
   | (with_reducible exact LeO.refl _)
   | (with_reducible exact LeO.none _)
   | (with_reducible refine LeO.ite ?_ ?_)
   | (with_reducible refine LeO.bind ?_ (fun _ => ?_))
   | exact ih0 _ _ _ _
theorem slices_Equal_int_int.mono : ∀ a0 a1 k, LeO (slices_Equal_int_int.f k a0 a1) (slices_Equal_int_int.f (k + 1) a0 a1) := by
 intro a0 a1 k
 have ih0 := slices_Equal_int_int.mono_l k
 unfold slices_Equal_int_int.f
 repeat' first
   | (with_reducible exact LeO.refl _)
   | (with_reducible exact LeO.none _)
   | (with_reducible refine LeO.ite ?_ ?_)
   | (with_reducible refine LeO.bind ?_ (fun _ => ?_))
   | exact ih0 _ _ _ _
theorem slices_Equal_int_int.calls (k : Nat) (A0 : Option Addr) (c0 : Nat) (l0 : List Int) (A1 : Option Addr) (c1 : Nat) (l1 : List Int) (r : Bool) (w : World) (hr0 : Kd.C (Kd.int .i64) w A0 l0.length l0) (hc0 : l0.length ≤ c0) (hr1 : Kd.C (Kd.int .i64) w A1 l1.length l1) (hc1 : l1.length ≤ c1) (h : slices_Equal_int_int.f k l0 l1 = some r) :
  Calls Try.prog 60 #[.slice A0 l0.length c0, .slice A1 l1.length c1] w fun e w' => e = .returned (.bool r) ∧ Drawn0 w w' := by
 have HR0 := xA.mk hr0
 have HC0 := xA.mk hc0
 clear hr0 hc0
 have HR1 := xA.mk hr1
 have HC1 := xA.mk hc1
 clear hr1 hc1
 have H : (if (l0.length : Int) = (l1.length : Int) then (slices_Equal_int_int.l0 k l0 l1 (l0.length : Int) 0) else (some false)) = some r := h
 clear h
 by_cases c3 : (l0.length : Int) = (l1.length : Int)
 rotate_left
 ·
  rw [if_neg c3] at H
  have c3b0 : ((l0.length : Int) == (l1.length : Int)) = false := jg c3
  have c3b2 : (l0.length == l1.length) = false := by first | simpa using c3 | (simp at c3 ⊢; omega)
  obtain rfl := qx H
  go_enter Try.func60, Try.ntmps60
  go_wp2
  go_ret
  exact ⟨qf, qe⟩
 rw [if_pos c3] at H
 have c3b0 : ((l0.length : Int) == (l1.length : Int)) = true := beq_iff_eq.mpr c3
 have c3b2 : (l0.length == l1.length) = true := by first | simpa using c3 | (simp at c3 ⊢; omega)
 clear c3
 have H' := xA.mk H
 clear H
 go_enter Try.func60, Try.ntmps60
 go_wp2
 go_loopg [13] k (fun kq v13 w' => ∃ (x13_1 : Int), v13 = .int .i64 x13_1 ∧ xA (slices_Equal_int_int.l0 kq l0 l1 (l0.length : Int) x13_1 = some r) ∧ xA (kq ≤ k) ∧ Drawn0 w w')
 case atStart => exact ⟨(0), rfl, H', ⟨Nat.le_refl _⟩, qe⟩
 case round =>
  clear H'
  obtain ⟨x13_1, rfl, HA, HK1, ⟨m1, rfl⟩⟩ := hrel
  obtain _ | k1 := gk
  · exact absurd HA.out (by simp [slices_Equal_int_int.l0])
  have H := HA.out
  clear HA
  simp only [slices_Equal_int_int.l0] at H
  obtain ⟨c4b0, H⟩ | ⟨c4b0, H⟩ := yA H
  rotate_left
  ·
   obtain rfl := qx H
   go_wp2
   go_ret
   exact ⟨qf, qe⟩
  obtain ⟨c5b0, H⟩ := xF H
  obtain ⟨c6b0, H⟩ := xF H
  obtain ⟨c7b0, H⟩ := xF H
  by_cases c8 : (rd l0 x13_1) = (rd l1 x13_1)
  rotate_left
  ·
   rw [if_neg c8] at H
   have c8b0 : ((rd l0 x13_1) == (rd l1 x13_1)) = false := jg c8
   obtain rfl := qx H
   have p335 : 0 ≤ (x13_1 : Int) := qq
   have q335 : x13_1 < (l0.length : Int) := qq
   obtain ⟨ad335, e335, hx335_0⟩ := Kd.xU HR0.out x13_1 p335 q335
   cases e335
   replace p335 := eq_true p335
   replace q335 := eq_true q335
   have p336 : 0 ≤ (x13_1 : Int) := qq
   have q336 : x13_1 < (l1.length : Int) := qq
   obtain ⟨ad336, e336, hx336_0⟩ := Kd.xU HR1.out x13_1 p336 q336
   cases e336
   replace p336 := eq_true p336
   replace q336 := eq_true q336
   go_wp2
   repeat (go_quiet (fail); try go_wp2)
   go_ret
   exact ⟨qf, qe⟩
  rw [if_pos c8] at H
  have c8b0 : ((rd l0 x13_1) == (rd l1 x13_1)) = true := beq_iff_eq.mpr c8
  clear c8
  have H' := xA.mk H
  clear H
  have p335 : 0 ≤ (x13_1 : Int) := qq
  have q335 : x13_1 < (l0.length : Int) := qq
  obtain ⟨ad335, e335, hx335_0⟩ := Kd.xU HR0.out x13_1 p335 q335
  cases e335
  replace p335 := eq_true p335
  replace q335 := eq_true q335
  have p336 : 0 ≤ (x13_1 : Int) := qq
  have q336 : x13_1 < (l1.length : Int) := qq
  obtain ⟨ad336, e336, hx336_0⟩ := Kd.xU HR1.out x13_1 p336 q336
  cases e336
  replace p336 := eq_true p336
  replace q336 := eq_true q336
  go_wp2
  repeat (go_quiet (fail); try go_wp2)
  go_roundg k1
  case measure => have := HK1.out; omega
  case rel => exact ⟨(wrap64 (x13_1 + 1)), rfl, H', ⟨by have := HK1.out; omega⟩, qe⟩
def lgmapped_add.f (k : Nat) (l0 : List (List Int)) (a1 : Int) : Option ((List (List Int))) := lgmapped.f (fun e => some (wrap64 (e + a1))) k l0 0
theorem lgmapped_add.mono : ∀ a0 a1 k, LeO (lgmapped_add.f k a0 a1) (lgmapped_add.f (k + 1) a0 a1) := fun a0 _ k => lgmapped.mono _ a0 0 k
theorem line_Regime_1_1.calls (add x : Int) (b : Nat) (r : Int) (w : World) (h0 : w.cell? ⟨b, 0, none⟩ = some (.int .i64 add)) (h : some (wrap64 (x + add)) = some r) :
  Calls Try.prog 58 #[.int .i64 x, .pointer (some ⟨b, 0, none⟩)] w fun e w' => e = .returned (.int .i64 r) ∧ Drawn0 w w' := by
 obtain rfl := qx h
 clear h
 go_enter Try.func58, Try.ntmps58
 go_wp2
 go_ret
 exact ⟨by rfl, Drawn0.refl _⟩
theorem lgmapped_add.calls (k : Nat) (A0 : Option Addr) (c0 : Nat) (l0 : List (List Int)) (a1 : Int) (r : List (List Int)) (w : World) (hr0 : Kd.C (Kd.slice 3 (Kd.int .i64)) w A0 l0.length l0) (hc0 : l0.length ≤ c0) (h : lgmapped_add.f k l0 a1 = some r) (b : Nat) (hb : b < w.heap.size) (hba : w.cell? ⟨b, 0, none⟩ = some (.int .i64 a1)) :
  Calls Try.prog 57 #[.slice A0 l0.length c0, .func (.func 58) #[] #[.pointer (some ⟨b, 0, none⟩)]] w fun e w' => ∃ v0_ : Value, e = .returned (v0_) ∧ Kd.S (Kd.slice 3 (Kd.int .i64)) 26 w' w.heap.size (fun _ => True) v0_ r ∧ Below w.heap.size w w' :=
 lgmapped.calls _ 58 _ #[.pointer (some ⟨b, 0, none⟩)] Try.func58 jk rfl k A0 c0 l0 0 r w hr0 hc0 (fun w' hw x r hx => line_Regime_1_1.calls a1 x b r w' ((hw.cell (p := ⟨b, 0, none⟩) hb).trans hba) hx) h
def line_Regime_1.l0 : Nat → List (List Int) → List (List Int) → Int → Int → Option (Bool)
 | 0, _, _, _, _ => none
 | k + 1, x7, x22, x23, x24 => if x24 < x23 then (if 0 ≤ x24 then (if x24 < (x22.length : Int) then (if x24 < (x7.length : Int) then ((slices_Equal_int_int.f k (rd_L1 x22 x24) (rd_L1 x7 x24)).bind fun t366 => (if t366 = true then (line_Regime_1.l0 k x7 x22 x23 (wrap64 (x24 + 1))) else (some false))) else (none)) else (none)) else (none)) else (some true)
def line_Regime_1.f (k : Nat) (a0 : Int) (l1 : List (List Int)) (a2 : Int) (a3 : Int) : Option (Bool) := (lgpower.f k l1 a0).bind fun t352 => ((lgmapped_add.f k t352 a2).bind fun t355 => ((lgpower.f k l1 a3).bind fun t358 => ((lgtimes.f k t352 t358).bind fun t361 => (line_Regime_1.l0 k t355 t361 (t361.length : Int) 0))))
theorem line_Regime_1.mono_l : ∀ k, (∀ y0 y1 y2 y3, LeO (line_Regime_1.l0 k y0 y1 y2 y3) (line_Regime_1.l0 (k + 1) y0 y1 y2 y3))
 | 0 => fun _ _ _ _ r h => by simp [line_Regime_1.l0] at h
 | k + 1 => by
  have ih0 := line_Regime_1.mono_l k
  ·
   intro y0 y1 y2 y3
   unfold line_Regime_1.l0
   repeat' first
   | (with_reducible exact LeO.refl _)
   | (with_reducible exact LeO.none _)
   | (with_reducible refine LeO.ite ?_ ?_)
   | (with_reducible refine LeO.bind ?_ (fun _ => ?_))
   | exact ih0 _ _ _ _
   | exact lgmapped_add.mono _ _ _
   | exact lgpower.mono _ _ _
   | exact lgtimes.mono _ _ _
   | exact slices_Equal_int_int.mono _ _ _
theorem line_Regime_1.mono : ∀ a0 a1 a2 a3 k, LeO (line_Regime_1.f k a0 a1 a2 a3) (line_Regime_1.f (k + 1) a0 a1 a2 a3) := by
 intro a0 a1 a2 a3 k
 have ih0 := line_Regime_1.mono_l k
 unfold line_Regime_1.f
 repeat' first
   | (with_reducible exact LeO.refl _)
   | (with_reducible exact LeO.none _)
   | (with_reducible refine LeO.ite ?_ ?_)
   | (with_reducible refine LeO.bind ?_ (fun _ => ?_))
   | exact ih0 _ _ _ _
   | exact lgmapped_add.mono _ _ _
   | exact lgpower.mono _ _ _
   | exact lgtimes.mono _ _ _
   | exact slices_Equal_int_int.mono _ _ _
theorem line_Regime_1.calls (k : Nat) (a0 : Int) (A1 : Option Addr) (c1 : Nat) (l1 : List (List Int)) (a2 : Int) (a3 : Int) (r : Bool) (w : World) (hr1 : Kd.C (Kd.slice 3 (Kd.int .i64)) w A1 l1.length l1) (hc1 : l1.length ≤ c1) (h : line_Regime_1.f k a0 l1 a2 a3 = some r) (bl ba bc : Nat) (hbl : bl < w.heap.size) (hba : ba < w.heap.size) (hbc : bc < w.heap.size) (hl : w.cell? ⟨bl, 0, none⟩ = some (.slice A1 l1.length c1)) (ha : w.cell? ⟨ba, 0, none⟩ = some (.int .i64 a2)) (hc : w.cell? ⟨bc, 0, none⟩ = some (.int .i64 a3)) :
  Calls Try.prog 55 #[.int .i64 a0, .pointer (some ⟨bl, 0, none⟩), .pointer (some ⟨ba, 0, none⟩), .pointer (some ⟨bc, 0, none⟩)] w fun e w' => e = .returned (.bool r) ∧ Below w.heap.size w w' := by
 have HBL := xA.mk hbl
 have HBA := xA.mk hba
 have HBC := xA.mk hbc
 have HCL := xA.mk hl
 have HCA := xA.mk ha
 have HCC := xA.mk hc
 clear hbl hba hbc
 have HR1 := xA.mk hr1
 have HC1 := xA.mk hc1
 clear hr1 hc1
 have HB := xA.mk (Below.refl w.heap.size w)
 have H : ((lgpower.f k l1 a0).bind fun t352 => ((lgmapped_add.f k t352 a2).bind fun t355 => ((lgpower.f k l1 a3).bind fun t358 => ((lgtimes.f k t352 t358).bind fun t361 => (line_Regime_1.l0 k t355 t361 (t361.length : Int) 0))))) = some r := h
 clear h
 replace H := qw H
 obtain ⟨t352, A50, H⟩ := H
 replace H : ((lgmapped_add.f k t352 a2).bind fun t355 => ((lgpower.f k l1 a3).bind fun t358 => ((lgtimes.f k t352 t358).bind fun t361 => (line_Regime_1.l0 k t355 t361 (t361.length : Int) 0)))) = some r := H
 have A5 := xA.mk A50
 clear A50
 replace H := qw H
 obtain ⟨t355, A60, H⟩ := H
 replace H : ((lgpower.f k l1 a3).bind fun t358 => ((lgtimes.f k t352 t358).bind fun t361 => (line_Regime_1.l0 k t355 t361 (t361.length : Int) 0))) = some r := H
 have A6 := xA.mk A60
 clear A60
 replace H := qw H
 obtain ⟨t358, A70, H⟩ := H
 replace H : ((lgtimes.f k t352 t358).bind fun t361 => (line_Regime_1.l0 k t355 t361 (t361.length : Int) 0)) = some r := H
 have A7 := xA.mk A70
 clear A70
 replace H := qw H
 obtain ⟨t361, A80, H⟩ := H
 replace H : (line_Regime_1.l0 k t355 t361 (t361.length : Int) 0) = some r := H
 have A8 := xA.mk A80
 clear A80
 have H' := xA.mk H
 clear H
 go_enter Try.func55, Try.ntmps55
 go_wp2_with (first | ((with_reducible refine xG (f := 56) rfl ?_); refine xM (some 13) rfl rfl Try.func56 jk rfl #[.slice A1 l1.length c1, .int .i64 a0] rfl qd ?_; (with_reducible refine (lgpower.calls k (fun k_ => k_ < w.heap.size) _ _ l1 a0 t352 _ ?side1 A5.out).mono ?_); (case side1 => exact Kd.V_mk HC1.out (Kd.F_below (Kd.C_F (Kd.heap_slice 3 (Kd.heap_int .i64)) HR1.out) (HB.out))); rintro e w9 ⟨v353, rfl, ho0, hb⟩; refine ⟨_, rfl, ?_⟩; have n0_ := xA.mk (Kd.S_lower (Kd.xT (ok' := fun k_ => True) ho0 (fun _ hk_ => trivial)) (xB (HB.out))); have n1_ := xA.mk (xD (HB.out) hb); clear HB; have HO354 := n0_; have HB := n1_; have hlw9 := (HB.out.cell (p := ⟨bl, 0, none⟩) HBL.out).trans HCL.out; have hcw9 := (HB.out.cell (p := ⟨bc, 0, none⟩) HBC.out).trans HCC.out; clear n0_ n1_; obtain ⟨Ao10, co10, eo10⟩ := Kd.yC HO354.out; subst eo10) | ((with_reducible refine xG (f := 57) rfl ?_); refine xM (some 16) rfl rfl Try.func57 jk rfl #[.slice Ao10 t352.length co10, .func (.func 58) #[] #[.pointer (some ⟨ba, 0, none⟩)]] rfl qd ?_; (with_reducible refine (lgmapped_add.calls k _ _ t352 a2 t355 _ ?side1 ?side2 A6.out ba (Nat.lt_of_lt_of_le HBA.out (xB HB.out)) ((HB.out.cell (p := ⟨ba, 0, none⟩) HBA.out).trans HCA.out)).mono ?_); (case side1 => repeat (first | exact (Kd.xH HO354.out).2.2)); (case side2 => exact (Kd.xH HO354.out).2.1); rintro e w11 ⟨v356, rfl, ho0, hb⟩; refine ⟨_, rfl, ?_⟩; have n0_ := xA.mk (Kd.S_elder' (by exact HO354.out) (Kd.S_base ho0) hb); have n1_ := xA.mk (Kd.S_lower (Kd.S_new' ho0 (Kd.S_lt (by exact HO354.out))) (xB (HB.out))); have n2_ := xA.mk (xD (HB.out) hb); clear HO354; clear HB; have HO354 := n0_; have HO357 := n1_; have HB := n2_; have hlw11 := (HB.out.cell (p := ⟨bl, 0, none⟩) HBL.out).trans HCL.out; have hcw11 := (HB.out.cell (p := ⟨bc, 0, none⟩) HBC.out).trans HCC.out; clear n0_ n1_ n2_) | ((with_reducible refine xG (f := 56) rfl ?_); refine xM (some 21) rfl rfl Try.func56 jk rfl #[.slice A1 l1.length c1, .int .i64 a3] rfl qd ?_; (with_reducible refine (lgpower.calls k (fun k_ => k_ < w.heap.size) _ _ l1 a3 t358 _ ?side1 A7.out).mono ?_); (case side1 => exact Kd.V_mk HC1.out (Kd.F_below (Kd.C_F (Kd.heap_slice 3 (Kd.heap_int .i64)) HR1.out) (HB.out))); rintro e w12 ⟨v359, rfl, ho0, hb⟩; refine ⟨_, rfl, ?_⟩; have n0_ := xA.mk (Kd.S_elder' (by exact HO354.out) (Kd.S_base ho0) hb); have n1_ := xA.mk (Kd.S_elder' (by exact HO357.out) (Kd.S_base ho0) hb); have n2_ := xA.mk (Kd.S_lower (Kd.S_new' (Kd.S_new' (Kd.xT (ok' := fun k_ => True) ho0 (fun _ hk_ => trivial)) (Kd.S_lt (by exact HO354.out))) (Kd.S_lt (by exact HO357.out))) (xB (HB.out))); have n3_ := xA.mk (xD (HB.out) hb); clear HO354; clear HO357; clear HB; have HO354 := n0_; have HO357 := n1_; have HO360 := n2_; have HB := n3_; have hlw12 := (HB.out.cell (p := ⟨bl, 0, none⟩) HBL.out).trans HCL.out; have hcw12 := (HB.out.cell (p := ⟨bc, 0, none⟩) HBC.out).trans HCC.out; clear n0_ n1_ n2_ n3_; obtain ⟨Ao13, co13, eo13⟩ := Kd.yC HO360.out; subst eo13) | ((with_reducible refine xG (f := 59) rfl ?_); refine xM (some 22) rfl rfl Try.func59 jk rfl #[.slice Ao10 t352.length co10, .slice Ao13 t358.length co13] rfl qd ?_; (with_reducible refine (lgtimes.calls k _ _ t352 _ _ t358 t361 _ ?side1 ?side2 ?side3 ?side4 A8.out).mono ?_); (case side1 => repeat (first | exact (Kd.xH HO354.out).2.2)); (case side2 => exact (Kd.xH HO354.out).2.1); (case side3 => repeat (first | exact (Kd.xH HO360.out).2.2)); (case side4 => exact (Kd.xH HO360.out).2.1); rintro e w14 ⟨v362, rfl, ho0, hb⟩; refine ⟨_, rfl, ?_⟩; have n0_ := xA.mk (Kd.S_elder' (by exact HO354.out) (Kd.S_base ho0) hb); have n1_ := xA.mk (Kd.S_elder' (by exact HO357.out) (Kd.S_base ho0) hb); have n2_ := xA.mk (Kd.S_elder' (by exact HO360.out) (Kd.S_base ho0) hb); have n3_ := xA.mk (Kd.S_lower (Kd.S_new' (Kd.S_new' (Kd.S_new' ho0 (Kd.S_lt (by exact HO354.out))) (Kd.S_lt (by exact HO357.out))) (Kd.S_lt (by exact HO360.out))) (xB (HB.out))); have n4_ := xA.mk (xD (HB.out) hb); clear HO354; clear HO357; clear HO360; clear HB; have HO354 := n0_; have HO357 := n1_; have HO360 := n2_; have HO363 := n3_; have HB := n4_; have hlw14 := (HB.out.cell (p := ⟨bl, 0, none⟩) HBL.out).trans HCL.out; have hcw14 := (HB.out.cell (p := ⟨bc, 0, none⟩) HBC.out).trans HCC.out; clear n0_ n1_ n2_ n3_ n4_; obtain ⟨Ao15, co15, eo15⟩ := Kd.yC HO363.out; subst eo15))
 go_loopg [24] k (fun kq v24 w' => ∃ (x24_1 : Int), v24 = .int .i64 x24_1 ∧ xA (line_Regime_1.l0 kq t355 t361 (t361.length : Int) x24_1 = some r) ∧ xA (kq ≤ k) ∧ xA (Kd.S (Kd.slice 3 (Kd.int .i64)) 26 w' w.heap.size (fun k_ => some k_ ≠ ((.slice Ao15 t361.length co15) : Value).ownBlock) v356 t355) ∧ xA (Kd.S (Kd.slice 3 (Kd.int .i64)) 26 w' w.heap.size (fun k_ => some k_ ≠ (v356 : Value).ownBlock) (.slice Ao15 t361.length co15) t361) ∧ xA (Below w.heap.size w w'))
 case atStart => exact ⟨(0), rfl, H', ⟨Nat.le_refl _⟩, ⟨by exact Kd.xT HO357.out (fun _ hk => hk.2)⟩, ⟨by exact Kd.xT HO363.out (fun _ hk => hk.1.2)⟩, ⟨HB.out⟩⟩
 case round =>
  clear H'
  obtain ⟨x24_1, rfl, HA, HK1, HO_7, HO_22, HB⟩ := hrel
  obtain _ | k1 := gk
  · exact absurd HA.out (by simp [line_Regime_1.l0])
  have H := HA.out
  clear HA
  simp only [line_Regime_1.l0] at H
  obtain ⟨c16b0, H⟩ | ⟨c16b0, H⟩ := yA H
  rotate_left
  ·
   obtain rfl := qx H
   go_wp2
   go_ret
   exact ⟨rfl, HB.out⟩
  obtain ⟨c17b0, H⟩ := xF H
  obtain ⟨c18b0, H⟩ := xF H
  obtain ⟨c19b0, H⟩ := xF H
  replace H := qw H
  obtain ⟨t366, A200, H⟩ := H
  replace H : (if t366 = true then (line_Regime_1.l0 k1 t355 t361 (t361.length : Int) (wrap64 (x24_1 + 1))) else (some false)) = some r := H
  have A20 := xA.mk A200
  clear A200
  by_cases c21 : t366 = true
  rotate_left
  ·
   replace c21 := Bool.eq_false_iff.mpr c21
   subst c21
   have H1 : (some false) = some r := by rw [if_neg (show ¬ (false = true) by decide)] at H; exact H
   clear H
   have H := H1
   clear H1
   obtain rfl := qx H
   have p364 : 0 ≤ (x24_1 : Int) := qq
   have q364 : x24_1 < (t361.length : Int) := qq
   obtain ⟨ad364, A364_0, c364_0, e364, hx364_0, hl364_0, hi364_0⟩ := at_L1 (Kd.xH HO_22.out).2.2 x24_1 p364 q364
   cases e364
   obtain ⟨ce364, hce364, hMe364, hcc364⟩ := Kd.S_get HO_22.out [] x24_1 p364 (by first | exact q364 | exact qq | (have e_ := (Kd.xH HO_22.out).1; omega))
   obtain ⟨ve364_0, rfl, ge364_0⟩ := hMe364
   have hv364_0 := hcc364 0 _ rfl
   rw [Nat.add_zero, show ((Kd.slice 3 (Kd.int .i64))).sz = 1 from rfl, Nat.mul_one] at hv364_0
   replace hv364_0 := qx (hv364_0.symm.trans hx364_0)
   rw [hv364_0] at ge364_0
   have HL364_0 := xA.mk (show Kd.R (Kd.int .i64) 3 _ _ _ _ (rd_L1 t361 x24_1) from ge364_0)
   clear hv364_0 ge364_0
   clear hcc364 hce364
   have HR364_0 := xA.mk hi364_0
   have HC364_0 := xA.mk hl364_0
   clear hi364_0 hl364_0
   replace p364 := eq_true p364
   replace q364 := eq_true q364
   obtain ⟨Ao23, co23, eo23⟩ := Kd.yC HO_7.out
   subst eo23
   have p365 : 0 ≤ (x24_1 : Int) := qq
   have q365 : x24_1 < (t355.length : Int) := qq
   obtain ⟨ad365, A365_0, c365_0, e365, hx365_0, hl365_0, hi365_0⟩ := at_L1 (Kd.xH HO_7.out).2.2 x24_1 p365 q365
   cases e365
   obtain ⟨ce365, hce365, hMe365, hcc365⟩ := Kd.S_get HO_7.out [] x24_1 p365 (by first | exact q365 | exact qq | (have e_ := (Kd.xH HO_7.out).1; omega))
   obtain ⟨ve365_0, rfl, ge365_0⟩ := hMe365
   have hv365_0 := hcc365 0 _ rfl
   rw [Nat.add_zero, show ((Kd.slice 3 (Kd.int .i64))).sz = 1 from rfl, Nat.mul_one] at hv365_0
   replace hv365_0 := qx (hv365_0.symm.trans hx365_0)
   rw [hv365_0] at ge365_0
   have HL365_0 := xA.mk (show Kd.R (Kd.int .i64) 3 _ _ _ _ (rd_L1 t355 x24_1) from ge365_0)
   clear hv365_0 ge365_0
   clear hcc365 hce365
   have HR365_0 := xA.mk hi365_0
   have HC365_0 := xA.mk hl365_0
   clear hi365_0 hl365_0
   replace p365 := eq_true p365
   replace q365 := eq_true q365
   go_wp2_with (first | ((with_reducible refine xG (f := 60) rfl ?_); refine xM (some 34) rfl rfl Try.func60 jk rfl #[.slice A364_0 (rd_L1 t361 x24_1).length c364_0, .slice A365_0 (rd_L1 t355 x24_1).length c365_0] rfl qd ?_; (with_reducible refine (slices_Equal_int_int.calls k1 _ _ (rd_L1 t361 x24_1) _ _ (rd_L1 t355 x24_1) false _ ?side1 ?side2 ?side3 ?side4 A20.out).mono ?_); (case side1 => repeat (first | exact (by repeat (first | (with_reducible exact HR364_0.out) | exact HR364_0.out)))); (case side2 => exact HC364_0.out); (case side3 => repeat (first | exact (by repeat (first | (with_reducible exact HR365_0.out) | exact HR365_0.out)))); (case side4 => exact HC365_0.out); rintro e w' ⟨rfl, ⟨nd, rfl⟩⟩; refine ⟨_, rfl, ?_⟩))
   go_ret
   exact ⟨rfl, qb⟩
  subst c21
  have H1 : (line_Regime_1.l0 k1 t355 t361 (t361.length : Int) (wrap64 (x24_1 + 1))) = some r := by rw [if_pos rfl] at H; exact H
  clear H
  have H := H1
  clear H1
  have H' := xA.mk H
  clear H
  have p364 : 0 ≤ (x24_1 : Int) := qq
  have q364 : x24_1 < (t361.length : Int) := qq
  obtain ⟨ad364, A364_0, c364_0, e364, hx364_0, hl364_0, hi364_0⟩ := at_L1 (Kd.xH HO_22.out).2.2 x24_1 p364 q364
  cases e364
  obtain ⟨ce364, hce364, hMe364, hcc364⟩ := Kd.S_get HO_22.out [] x24_1 p364 (by first | exact q364 | exact qq | (have e_ := (Kd.xH HO_22.out).1; omega))
  obtain ⟨ve364_0, rfl, ge364_0⟩ := hMe364
  have hv364_0 := hcc364 0 _ rfl
  rw [Nat.add_zero, show ((Kd.slice 3 (Kd.int .i64))).sz = 1 from rfl, Nat.mul_one] at hv364_0
  replace hv364_0 := qx (hv364_0.symm.trans hx364_0)
  rw [hv364_0] at ge364_0
  have HL364_0 := xA.mk (show Kd.R (Kd.int .i64) 3 _ _ _ _ (rd_L1 t361 x24_1) from ge364_0)
  clear hv364_0 ge364_0
  clear hcc364 hce364
  have HR364_0 := xA.mk hi364_0
  have HC364_0 := xA.mk hl364_0
  clear hi364_0 hl364_0
  replace p364 := eq_true p364
  replace q364 := eq_true q364
  obtain ⟨Ao22, co22, eo22⟩ := Kd.yC HO_7.out
  subst eo22
  have p365 : 0 ≤ (x24_1 : Int) := qq
  have q365 : x24_1 < (t355.length : Int) := qq
  obtain ⟨ad365, A365_0, c365_0, e365, hx365_0, hl365_0, hi365_0⟩ := at_L1 (Kd.xH HO_7.out).2.2 x24_1 p365 q365
  cases e365
  obtain ⟨ce365, hce365, hMe365, hcc365⟩ := Kd.S_get HO_7.out [] x24_1 p365 (by first | exact q365 | exact qq | (have e_ := (Kd.xH HO_7.out).1; omega))
  obtain ⟨ve365_0, rfl, ge365_0⟩ := hMe365
  have hv365_0 := hcc365 0 _ rfl
  rw [Nat.add_zero, show ((Kd.slice 3 (Kd.int .i64))).sz = 1 from rfl, Nat.mul_one] at hv365_0
  replace hv365_0 := qx (hv365_0.symm.trans hx365_0)
  rw [hv365_0] at ge365_0
  have HL365_0 := xA.mk (show Kd.R (Kd.int .i64) 3 _ _ _ _ (rd_L1 t355 x24_1) from ge365_0)
  clear hv365_0 ge365_0
  clear hcc365 hce365
  have HR365_0 := xA.mk hi365_0
  have HC365_0 := xA.mk hl365_0
  clear hi365_0 hl365_0
  replace p365 := eq_true p365
  replace q365 := eq_true q365
  go_wp2_with (first | ((with_reducible refine xG (f := 60) rfl ?_); refine xM (some 34) rfl rfl Try.func60 jk rfl #[.slice A364_0 (rd_L1 t361 x24_1).length c364_0, .slice A365_0 (rd_L1 t355 x24_1).length c365_0] rfl qd ?_; (with_reducible refine (slices_Equal_int_int.calls k1 _ _ (rd_L1 t361 x24_1) _ _ (rd_L1 t355 x24_1) true _ ?side1 ?side2 ?side3 ?side4 A20.out).mono ?_); (case side1 => repeat (first | exact (by repeat (first | (with_reducible exact HR364_0.out) | exact HR364_0.out)))); (case side2 => exact HC364_0.out); (case side3 => repeat (first | exact (by repeat (first | (with_reducible exact HR365_0.out) | exact HR365_0.out)))); (case side4 => exact HC365_0.out); rintro e w' ⟨rfl, ⟨nd, rfl⟩⟩; refine ⟨_, rfl, ?_⟩))
  go_roundg k1
  case measure => have := HK1.out; omega
  case rel => exact ⟨(wrap64 (x24_1 + 1)), rfl, H', ⟨by have := HK1.out; omega⟩, ⟨qh HO_7.out⟩, ⟨qh HO_22.out⟩, ⟨qb⟩⟩
mutual
def line_Regime.l0 : Nat → Int → Int → Int → List (List Int) → Int → Int → List (List Int) → List (List Int) → Option (Int × Int × Int)
 | 0, _, _, _, _, _, _, _, _ => none
 | k + 1, x7, x8, x10, x380000, x380001, x380002, x380003, x380004 => (line_Regime_1.f k x10 x380000 x8 x7).bind fun t382 => (if t382 = true then (line_Regime.l1 k x7 x8 x10 0 x380000 x380001 x380002 x380003 x380004) else (line_Regime.l0 k x7 x8 (wrap64 (x10 * 2)) x380000 x380001 x380002 x380003 x380004))
def line_Regime.l1 : Nat → Int → Int → Int → Int → List (List Int) → Int → Int → List (List Int) → List (List Int) → Option (Int × Int × Int)
 | 0, _, _, _, _, _, _, _, _, _ => none
 | k + 1, x7, x8, x10, x11, x380000, x380001, x380002, x380003, x380004 => if x11 < x10 then ((line_Regime_1.f k (wrap64 (Int.tdiv (wrap64 (x11 + x10)) 2)) x380000 x8 x7).bind fun t383 => (if t383 = true then (line_Regime.l1 k x7 x8 (wrap64 (Int.tdiv (wrap64 (x11 + x10)) 2)) x11 x380000 x380001 x380002 x380003 x380004) else (line_Regime.l1 k x7 x8 x10 (wrap64 ((wrap64 (Int.tdiv (wrap64 (x11 + x10)) 2)) + 1)) x380000 x380001 x380002 x380003 x380004))) else (some (x7, x11, 0))
end
def line_Regime.f (k : Nat) (l0 : List (List Int)) : Option (Int × Int × Int) := (line_looked.f k l0).bind fun bt367 => (if bt367.2.2.2.2.2 = 0 then ((lgconnected.f k bt367.1).bind fun t380 => (if t380 = true then ((llperiod.f k bt367.1 bt367.2.1 bt367.2.2.1 bt367.2.2.2.1 bt367.2.2.2.2.1).bind fun t381 => (if bt367.2.2.1 = 0 then (none) else (line_Regime.l0 k t381 (wrap64 (Int.tdiv (wrap64 (t381 * bt367.2.1)) bt367.2.2.1)) 1 bt367.1 bt367.2.1 bt367.2.2.1 bt367.2.2.2.1 bt367.2.2.2.2.1))) else (some (0, 0, 10)))) else (some (0, 0, bt367.2.2.2.2.2)))
theorem line_Regime.mono_l : ∀ k, (∀ y0 y1 y2 y3 y4 y5 y6 y7, LeO (line_Regime.l0 k y0 y1 y2 y3 y4 y5 y6 y7) (line_Regime.l0 (k + 1) y0 y1 y2 y3 y4 y5 y6 y7)) ∧ (∀ y0 y1 y2 y3 y4 y5 y6 y7 y8, LeO (line_Regime.l1 k y0 y1 y2 y3 y4 y5 y6 y7 y8) (line_Regime.l1 (k + 1) y0 y1 y2 y3 y4 y5 y6 y7 y8))
 | 0 => ⟨fun _ _ _ _ _ _ _ _ r h => by simp [line_Regime.l0] at h, fun _ _ _ _ _ _ _ _ _ r h => by simp [line_Regime.l1] at h⟩
 | k + 1 => by
  obtain ⟨ih0, ih1⟩ := line_Regime.mono_l k
  refine ⟨?_, ?_⟩
  ·
   intro y0 y1 y2 y3 y4 y5 y6 y7
   unfold line_Regime.l0
   repeat' first
   | (with_reducible exact LeO.refl _)
   | (with_reducible exact LeO.none _)
   | (with_reducible refine LeO.ite ?_ ?_)
   | (with_reducible refine LeO.bind ?_ (fun _ => ?_))
   | exact ih0 _ _ _ _ _ _ _ _
   | exact ih1 _ _ _ _ _ _ _ _ _
   | exact line_Regime_1.mono _ _ _ _ _
   | exact lgconnected.mono _ _
   | exact llperiod.mono _ _ _ _ _ _
   | exact line_looked.mono _ _
  ·
   intro y0 y1 y2 y3 y4 y5 y6 y7 y8
   unfold line_Regime.l1
   repeat' first
   | (with_reducible exact LeO.refl _)
   | (with_reducible exact LeO.none _)
   | (with_reducible refine LeO.ite ?_ ?_)
   | (with_reducible refine LeO.bind ?_ (fun _ => ?_))
   | exact ih0 _ _ _ _ _ _ _ _
   | exact ih1 _ _ _ _ _ _ _ _ _
   | exact line_Regime_1.mono _ _ _ _ _
   | exact lgconnected.mono _ _
   | exact llperiod.mono _ _ _ _ _ _
   | exact line_looked.mono _ _
theorem line_Regime.mono : ∀ a0 k, LeO (line_Regime.f k a0) (line_Regime.f (k + 1) a0) := by
 intro a0 k
 obtain ⟨ih0, ih1⟩ := line_Regime.mono_l k
 unfold line_Regime.f
 repeat' first
   | (with_reducible exact LeO.refl _)
   | (with_reducible exact LeO.none _)
   | (with_reducible refine LeO.ite ?_ ?_)
   | (with_reducible refine LeO.bind ?_ (fun _ => ?_))
   | exact ih0 _ _ _ _ _ _ _ _
   | exact ih1 _ _ _ _ _ _ _ _ _
   | exact line_Regime_1.mono _ _ _ _ _
   | exact lgconnected.mono _ _
   | exact llperiod.mono _ _ _ _ _ _
   | exact line_looked.mono _ _
theorem line_Regime.calls (k : Nat) (A0 : Option Addr) (c0 : Nat) (l0 : List (List Int)) (r1 : Int) (r2 : Int) (r3 : Int) (w : World) (hr0 : Kd.C (Kd.slice 3 (Kd.int .i64)) w A0 l0.length l0) (hc0 : l0.length ≤ c0) (h : line_Regime.f k l0 = some (r1, r2, r3)) :
  Calls Try.prog 18 #[.slice A0 l0.length c0] w fun e w' => e = .returned (.tuple #[.int .i64 r1, .int .i64 r2, .int .i64 r3]) ∧ Below w.heap.size w w' := by
 have hu58 := Try.underlying58
 have HR0 := xA.mk hr0
 have HC0 := xA.mk hc0
 clear hr0 hc0
 have HB := xA.mk (Below.refl w.heap.size w)
 have H : ((line_looked.f k l0).bind fun bt367 => (if bt367.2.2.2.2.2 = 0 then ((lgconnected.f k bt367.1).bind fun t380 => (if t380 = true then ((llperiod.f k bt367.1 bt367.2.1 bt367.2.2.1 bt367.2.2.2.1 bt367.2.2.2.2.1).bind fun t381 => (if bt367.2.2.1 = 0 then (none) else (line_Regime.l0 k t381 (wrap64 (Int.tdiv (wrap64 (t381 * bt367.2.1)) bt367.2.2.1)) 1 bt367.1 bt367.2.1 bt367.2.2.1 bt367.2.2.2.1 bt367.2.2.2.2.1))) else (some (0, 0, 10)))) else (some (0, 0, bt367.2.2.2.2.2)))) = some (r1, r2, r3) := h
 clear h
 replace H := qw H
 obtain ⟨⟨t367, t370, t371, t372, t375, t378⟩, A20, H⟩ := H
 replace H : (if t378 = 0 then ((lgconnected.f k t367).bind fun t380 => (if t380 = true then ((llperiod.f k t367 t370 t371 t372 t375).bind fun t381 => (if t371 = 0 then (none) else (line_Regime.l0 k t381 (wrap64 (Int.tdiv (wrap64 (t381 * t370)) t371)) 1 t367 t370 t371 t372 t375))) else (some (0, 0, 10)))) else (some (0, 0, t378))) = some (r1, r2, r3) := H
 have A2 := xA.mk A20
 clear A20
 by_cases c3 : t378 = 0
 rotate_left
 ·
  rw [if_neg c3] at H
  have c3b0 : (t378 == 0) = false := jg c3
  have c3b1 : (t378 != 0) = true := bne_iff_ne.mpr c3
  simp only [Option.some.injEq, Prod.mk.injEq] at H
  obtain ⟨rfl, rfl, rfl⟩ := H
  go_enter Try.func18, Try.ntmps18
  go_wp2_with (first | ((with_reducible refine xG (f := 45) rfl ?_); refine xM (some 15) rfl rfl Try.func45 jk rfl #[.slice A0 l0.length c0] rfl qc ?_; (with_reducible refine (line_looked.calls k (fun k_ => k_ < w.heap.size) _ _ l0 t367 t370 t371 t372 t375 t378 _ ?side1 A2.out).mono ?_); (case side1 => exact Kd.V_mk HC0.out (Kd.F_below (Kd.C_F (Kd.heap_slice 3 (Kd.heap_int .i64)) HR0.out) qa)); rintro e w38 ⟨v368, v373, v376, rfl, ho0, ho1, ho2, hb⟩; refine ⟨_, rfl, ?_⟩; have HO369 := xA.mk (Kd.V_lower (Kd.V_mono (ok' := fun k_ => some k_ ≠ (v373 : Value).ownBlock ∧ some k_ ≠ (v376 : Value).ownBlock) ho0 (fun k_ hk_ => ⟨hk_.2.1, hk_.2.2⟩)) (xB qa)); have HO374 := xA.mk (Kd.S_lower (Kd.xT (ok' := fun k_ => some k_ ≠ (v376 : Value).ownBlock) ho1 (fun _ hk_ => hk_.2)) (xB qa)); have HO377 := xA.mk (Kd.S_lower (Kd.xT (ok' := fun k_ => some k_ ≠ (v373 : Value).ownBlock) ho2 (fun _ hk_ => hk_.2)) (xB qa)); replace HB := xA.mk (xD qa hb); (try clear hb); (try clear hb2); (try clear hk); (try clear hi); (try clear ho0); (try clear ho1); (try clear ho2)) | ((with_reducible refine xZ (N := 5) rfl ?_); refine yD ?hg (N := 5) ?hd (cs := #[.slice none 0 0, .int .i64 0, .int .i64 0, .slice none 0 0, .slice none 0 0]) (t := 58) ?hr ?_; (case hd => rfl); (case hg => rfl); (case hr => first | (go_simp; done) | (go_simp; rfl)); intro gb379 hg w39 hbox hb; have n0_ := xA.mk (Kd.V_below (Kd.V_elderB (qj HO369.out) gb379 (Nat.le_of_eq hg.symm)) hb); have n1_ := xA.mk (Kd.S_below (qh HO374.out) hb); have n2_ := xA.mk (Kd.S_below (qh HO377.out) hb); have n3_ := xA.mk (xD qa hb); have n4_ := xA.mk (hbox); have n5_ := xA.mk ((by rw [hg]; exact (xB qa) : w.heap.size ≤ gb379)); have n6_ := xA.mk ((by rw [hg]; exact (xB qa) : w.heap.size ≤ gb379)); clear HO369; clear HO374; clear HO377; clear HB; have HO369 := n0_; have HO374 := n1_; have HO377 := n2_; have HB := n3_; have BK379 := n4_; have GW379 := n5_; have GE379 := n6_; clear n0_ n1_ n2_ n3_ n4_ n5_ n6_; clear hb hbox hg; obtain ⟨Ao40, co40, eo40⟩ := Kd.V_slice HO369.out; subst eo40; have hcz41_0 : w39.cell? ⟨gb379, 0, none⟩ = some (.slice none 0 0) := (xE BK379.out 0).trans rfl; have hcz41_1 : w39.cell? ⟨gb379, 1, none⟩ = some (.int .i64 0) := (xE BK379.out 1).trans rfl; have hcz41_2 : w39.cell? ⟨gb379, 2, none⟩ = some (.int .i64 0) := (xE BK379.out 2).trans rfl; have hcz41_3 : w39.cell? ⟨gb379, 3, none⟩ = some (.slice none 0 0) := (xE BK379.out 3).trans rfl; have hcz41_4 : w39.cell? ⟨gb379, 4, none⟩ = some (.slice none 0 0) := (xE BK379.out 4).trans rfl; have hfz41_0 := xC BK379.out 0; have hfz41_1 := xC BK379.out 1; have hfz41_2 := xC BK379.out 2; have hfz41_3 := xC BK379.out 3; have hfz41_4 := xC BK379.out 4; obtain ⟨Ao42, co42, eo42⟩ := Kd.yC HO374.out; subst eo42; obtain ⟨Ao43, co43, eo43⟩ := Kd.yC HO377.out; subst eo43))
  go_ret3
  exact ⟨qg, qo GE379.out⟩
 rw [if_pos c3] at H
 have c3b0 : (t378 == 0) = true := beq_iff_eq.mpr c3
 clear c3
 replace H := qw H
 obtain ⟨t380, A40, H⟩ := H
 replace H : (if t380 = true then ((llperiod.f k t367 t370 t371 t372 t375).bind fun t381 => (if t371 = 0 then (none) else (line_Regime.l0 k t381 (wrap64 (Int.tdiv (wrap64 (t381 * t370)) t371)) 1 t367 t370 t371 t372 t375))) else (some (0, 0, 10))) = some (r1, r2, r3) := H
 have A4 := xA.mk A40
 clear A40
 by_cases c5 : t380 = true
 rotate_left
 ·
  replace c5 := Bool.eq_false_iff.mpr c5
  subst c5
  have H1 : (some (0, 0, 10)) = some (r1, r2, r3) := by rw [if_neg (show ¬ (false = true) by decide)] at H; exact H
  clear H
  have H := H1
  clear H1
  simp only [Option.some.injEq, Prod.mk.injEq] at H
  obtain ⟨rfl, rfl, rfl⟩ := H
  go_enter Try.func18, Try.ntmps18
  go_wp2_with (first | ((with_reducible refine xG (f := 45) rfl ?_); refine xM (some 15) rfl rfl Try.func45 jk rfl #[.slice A0 l0.length c0] rfl qc ?_; (with_reducible refine (line_looked.calls k (fun k_ => k_ < w.heap.size) _ _ l0 t367 t370 t371 t372 t375 t378 _ ?side1 A2.out).mono ?_); (case side1 => exact Kd.V_mk HC0.out (Kd.F_below (Kd.C_F (Kd.heap_slice 3 (Kd.heap_int .i64)) HR0.out) qa)); rintro e w31 ⟨v368, v373, v376, rfl, ho0, ho1, ho2, hb⟩; refine ⟨_, rfl, ?_⟩; have HO369 := xA.mk (Kd.V_lower (Kd.V_mono (ok' := fun k_ => some k_ ≠ (v373 : Value).ownBlock ∧ some k_ ≠ (v376 : Value).ownBlock) ho0 (fun k_ hk_ => ⟨hk_.2.1, hk_.2.2⟩)) (xB qa)); have HO374 := xA.mk (Kd.S_lower (Kd.xT (ok' := fun k_ => some k_ ≠ (v376 : Value).ownBlock) ho1 (fun _ hk_ => hk_.2)) (xB qa)); have HO377 := xA.mk (Kd.S_lower (Kd.xT (ok' := fun k_ => some k_ ≠ (v373 : Value).ownBlock) ho2 (fun _ hk_ => hk_.2)) (xB qa)); replace HB := xA.mk (xD qa hb); (try clear hb); (try clear hb2); (try clear hk); (try clear hi); (try clear ho0); (try clear ho1); (try clear ho2)) | ((with_reducible refine xZ (N := 5) rfl ?_); refine yD ?hg (N := 5) ?hd (cs := #[.slice none 0 0, .int .i64 0, .int .i64 0, .slice none 0 0, .slice none 0 0]) (t := 58) ?hr ?_; (case hd => rfl); (case hg => rfl); (case hr => first | (go_simp; done) | (go_simp; rfl)); intro gb379 hg w32 hbox hb; have n0_ := xA.mk (Kd.V_below (Kd.V_elderB (qj HO369.out) gb379 (Nat.le_of_eq hg.symm)) hb); have n1_ := xA.mk (Kd.S_below (qh HO374.out) hb); have n2_ := xA.mk (Kd.S_below (qh HO377.out) hb); have n3_ := xA.mk (xD qa hb); have n4_ := xA.mk (hbox); have n5_ := xA.mk ((by rw [hg]; exact (xB qa) : w.heap.size ≤ gb379)); have n6_ := xA.mk ((by rw [hg]; exact (xB qa) : w.heap.size ≤ gb379)); clear HO369; clear HO374; clear HO377; clear HB; have HO369 := n0_; have HO374 := n1_; have HO377 := n2_; have HB := n3_; have BK379 := n4_; have GW379 := n5_; have GE379 := n6_; clear n0_ n1_ n2_ n3_ n4_ n5_ n6_; clear hb hbox hg; obtain ⟨Ao33, co33, eo33⟩ := Kd.V_slice HO369.out; subst eo33; have hcz34_0 : w32.cell? ⟨gb379, 0, none⟩ = some (.slice none 0 0) := (xE BK379.out 0).trans rfl; have hcz34_1 : w32.cell? ⟨gb379, 1, none⟩ = some (.int .i64 0) := (xE BK379.out 1).trans rfl; have hcz34_2 : w32.cell? ⟨gb379, 2, none⟩ = some (.int .i64 0) := (xE BK379.out 2).trans rfl; have hcz34_3 : w32.cell? ⟨gb379, 3, none⟩ = some (.slice none 0 0) := (xE BK379.out 3).trans rfl; have hcz34_4 : w32.cell? ⟨gb379, 4, none⟩ = some (.slice none 0 0) := (xE BK379.out 4).trans rfl; have hfz34_0 := xC BK379.out 0; have hfz34_1 := xC BK379.out 1; have hfz34_2 := xC BK379.out 2; have hfz34_3 := xC BK379.out 3; have hfz34_4 := xC BK379.out 4; obtain ⟨Ao35, co35, eo35⟩ := Kd.yC HO374.out; subst eo35; obtain ⟨Ao36, co36, eo36⟩ := Kd.yC HO377.out; subst eo36) | ((with_reducible refine xG (f := 46) rfl ?_); refine xM (some 25) rfl rfl Try.func46 jk rfl #[.slice Ao33 t367.length co33] rfl qc ?_; (with_reducible refine (lgconnected.calls k _ _ t367 false _ ?side1 ?side2 A4.out).mono ?_); (case side1 => refine (Kd.xW (e := 26) (base := w.heap.size) (ok := fun k_ => ((some k_ ≠ (.slice Ao35 t372.length co35 : Value).ownBlock ∧ some k_ ≠ (.slice Ao36 t375.length co36 : Value).ownBlock) ∧ k_ ≠ gb379)) (n := t367.length) (c := co33) ?_).2.2; exact (by (with_reducible repeat (first | apply Kd.V_alloc | apply Kd.V_drewN | apply Kd.V_drew)); exact (Kd.V_mono (Kd.V_far (p := ⟨gb379, 4, none⟩) (Kd.V_far (p := ⟨gb379, 3, none⟩) (Kd.V_far (p := ⟨gb379, 2, none⟩) (Kd.V_far (p := ⟨gb379, 1, none⟩) (Kd.V_far (p := ⟨gb379, 0, none⟩) (Kd.V_mono HO369.out (fun k_ hk => (⟨hk, hk.2⟩ : _ ∧ k_ ≠ gb379))) (fun _ hk => hk.2) (.slice Ao33 t367.length co33)) (fun _ hk => hk.2) (.int .i64 t370)) (fun _ hk => hk.2) (.int .i64 t371)) (fun _ hk => hk.2) (.slice Ao35 t372.length co35)) (fun _ hk => hk.2) (.slice Ao36 t375.length co36)) (fun _ h_ => h_.1)))); (case side2 => exact (Kd.xW HO369.out).2.1); rintro e w37 ⟨rfl, hb⟩; refine ⟨_, rfl, ?_⟩; have n0_ := xA.mk (Kd.V_below (by (with_reducible repeat (first | apply Kd.V_alloc | apply Kd.V_drewN | apply Kd.V_drew)); exact (Kd.V_mono (Kd.V_far (p := ⟨gb379, 4, none⟩) (Kd.V_far (p := ⟨gb379, 3, none⟩) (Kd.V_far (p := ⟨gb379, 2, none⟩) (Kd.V_far (p := ⟨gb379, 1, none⟩) (Kd.V_far (p := ⟨gb379, 0, none⟩) (Kd.V_mono HO369.out (fun k_ hk => (⟨hk, hk.2⟩ : _ ∧ k_ ≠ gb379))) (fun _ hk => hk.2) (.slice Ao33 t367.length co33)) (fun _ hk => hk.2) (.int .i64 t370)) (fun _ hk => hk.2) (.int .i64 t371)) (fun _ hk => hk.2) (.slice Ao35 t372.length co35)) (fun _ hk => hk.2) (.slice Ao36 t375.length co36)) (fun _ h_ => h_.1))) hb); have n1_ := xA.mk (Kd.S_below (by (with_reducible repeat (first | apply Kd.S_alloc | apply Kd.S_drewN | apply Kd.S_drew)); exact (Kd.xT (Kd.S_far (p := ⟨gb379, 4, none⟩) (Kd.S_far (p := ⟨gb379, 3, none⟩) (Kd.S_far (p := ⟨gb379, 2, none⟩) (Kd.S_far (p := ⟨gb379, 1, none⟩) (Kd.S_far (p := ⟨gb379, 0, none⟩) (Kd.S_types HO374.out BK379.out (by decide)) (fun _ hk => hk.2) (.slice Ao33 t367.length co33)) (fun _ hk => hk.2) (.int .i64 t370)) (fun _ hk => hk.2) (.int .i64 t371)) (fun _ hk => hk.2) (.slice Ao35 t372.length co35)) (fun _ hk => hk.2) (.slice Ao36 t375.length co36)) (fun _ h_ => h_.1))) hb); have n2_ := xA.mk (Kd.S_below (by (with_reducible repeat (first | apply Kd.S_alloc | apply Kd.S_drewN | apply Kd.S_drew)); exact (Kd.xT (Kd.S_far (p := ⟨gb379, 4, none⟩) (Kd.S_far (p := ⟨gb379, 3, none⟩) (Kd.S_far (p := ⟨gb379, 2, none⟩) (Kd.S_far (p := ⟨gb379, 1, none⟩) (Kd.S_far (p := ⟨gb379, 0, none⟩) (Kd.S_types HO377.out BK379.out (by decide)) (fun _ hk => hk.2) (.slice Ao33 t367.length co33)) (fun _ hk => hk.2) (.int .i64 t370)) (fun _ hk => hk.2) (.int .i64 t371)) (fun _ hk => hk.2) (.slice Ao35 t372.length co35)) (fun _ hk => hk.2) (.slice Ao36 t375.length co36)) (fun _ h_ => h_.1))) hb); have n3_ := xA.mk (xO (g := gb379) (o := .cells #[.slice Ao33 t367.length co33, .int .i64 t370, .int .i64 t371, .slice Ao35 t372.length co35, .slice Ao36 t375.length co36] 58 (0, 0)) (by (with_reducible repeat (first | refine xK ?_ _ | refine xI ?_ | refine xJ ?_ _)); refine xV (cs := #[.slice Ao33 t367.length co33, .int .i64 t370, .int .i64 t371, .slice Ao35 t372.length co35, .slice none 0 0]) ?_ 4 _ rfl; (with_reducible repeat (first | refine xK ?_ _ | refine xI ?_ | refine xJ ?_ _)); refine xV (cs := #[.slice Ao33 t367.length co33, .int .i64 t370, .int .i64 t371, .slice none 0 0, .slice none 0 0]) ?_ 3 _ rfl; (with_reducible repeat (first | refine xK ?_ _ | refine xI ?_ | refine xJ ?_ _)); refine xV (cs := #[.slice Ao33 t367.length co33, .int .i64 t370, .int .i64 0, .slice none 0 0, .slice none 0 0]) ?_ 2 _ rfl; (with_reducible repeat (first | refine xK ?_ _ | refine xI ?_ | refine xJ ?_ _)); refine xV (cs := #[.slice Ao33 t367.length co33, .int .i64 0, .int .i64 0, .slice none 0 0, .slice none 0 0]) ?_ 1 _ rfl; (with_reducible repeat (first | refine xK ?_ _ | refine xI ?_ | refine xJ ?_ _)); refine xV (cs := #[.slice none 0 0, .int .i64 0, .int .i64 0, .slice none 0 0, .slice none 0 0]) ?_ 0 _ rfl; (with_reducible repeat (first | refine xK ?_ _ | refine xI ?_ | refine xJ ?_ _)); exact BK379.out) hb); have n4_ := xA.mk (xD (qo GE379.out) hb); clear HO369; clear HO374; clear HO377; clear BK379; clear HB; have HO369 := n0_; have HO374 := n1_; have HO377 := n2_; have BK379 := n3_; have HB := n4_; clear n0_ n1_ n2_ n3_ n4_; (try clear hb); (try clear hb2); (try clear hk); (try clear hi)))
  go_ret3
  exact ⟨qg, qo GE379.out⟩
 subst c5
 have H1 : ((llperiod.f k t367 t370 t371 t372 t375).bind fun t381 => (if t371 = 0 then (none) else (line_Regime.l0 k t381 (wrap64 (Int.tdiv (wrap64 (t381 * t370)) t371)) 1 t367 t370 t371 t372 t375))) = some (r1, r2, r3) := by rw [if_pos rfl] at H; exact H
 clear H
 have H := H1
 clear H1
 replace H := qw H
 obtain ⟨t381, A60, H⟩ := H
 replace H : (if t371 = 0 then (none) else (line_Regime.l0 k t381 (wrap64 (Int.tdiv (wrap64 (t381 * t370)) t371)) 1 t367 t370 t371 t372 t375)) = some (r1, r2, r3) := H
 have A6 := xA.mk A60
 clear A60
 by_cases c7 : t371 = 0
 ·
  rw [if_pos c7] at H
  exact absurd H (by simp)
 rw [if_neg c7] at H
 have c7b0 : (t371 == 0) = false := jg c7
 have c7b1 : (t371 != 0) = true := bne_iff_ne.mpr c7
 have H' := xA.mk H
 clear H
 go_enter Try.func18, Try.ntmps18
 go_wp2_with (first | ((with_reducible refine xG (f := 45) rfl ?_); refine xM (some 15) rfl rfl Try.func45 jk rfl #[.slice A0 l0.length c0] rfl qc ?_; (with_reducible refine (line_looked.calls k (fun k_ => k_ < w.heap.size) _ _ l0 t367 t370 t371 t372 t375 t378 _ ?side1 A2.out).mono ?_); (case side1 => exact Kd.V_mk HC0.out (Kd.F_below (Kd.C_F (Kd.heap_slice 3 (Kd.heap_int .i64)) HR0.out) qa)); rintro e w8 ⟨v368, v373, v376, rfl, ho0, ho1, ho2, hb⟩; refine ⟨_, rfl, ?_⟩; have HO369 := xA.mk (Kd.V_lower (Kd.V_mono (ok' := fun k_ => some k_ ≠ (v373 : Value).ownBlock ∧ some k_ ≠ (v376 : Value).ownBlock) ho0 (fun k_ hk_ => ⟨hk_.2.1, hk_.2.2⟩)) (xB qa)); have HO374 := xA.mk (Kd.S_lower (Kd.xT (ok' := fun k_ => some k_ ≠ (v376 : Value).ownBlock) ho1 (fun _ hk_ => hk_.2)) (xB qa)); have HO377 := xA.mk (Kd.S_lower (Kd.xT (ok' := fun k_ => some k_ ≠ (v373 : Value).ownBlock) ho2 (fun _ hk_ => hk_.2)) (xB qa)); replace HB := xA.mk (xD qa hb); (try clear hb); (try clear hb2); (try clear hk); (try clear hi); (try clear ho0); (try clear ho1); (try clear ho2)) | ((with_reducible refine xZ (N := 5) rfl ?_); refine yD ?hg (N := 5) ?hd (cs := #[.slice none 0 0, .int .i64 0, .int .i64 0, .slice none 0 0, .slice none 0 0]) (t := 58) ?hr ?_; (case hd => rfl); (case hg => rfl); (case hr => first | (go_simp; done) | (go_simp; rfl)); intro gb379 hg w9 hbox hb; have n0_ := xA.mk (Kd.V_below (Kd.V_elderB (qj HO369.out) gb379 (Nat.le_of_eq hg.symm)) hb); have n1_ := xA.mk (Kd.S_below (qh HO374.out) hb); have n2_ := xA.mk (Kd.S_below (qh HO377.out) hb); have n3_ := xA.mk (xD qa hb); have n4_ := xA.mk (hbox); have n5_ := xA.mk ((by rw [hg]; exact (xB qa) : w.heap.size ≤ gb379)); have n6_ := xA.mk ((by rw [hg]; exact (xB qa) : w.heap.size ≤ gb379)); clear HO369; clear HO374; clear HO377; clear HB; have HO369 := n0_; have HO374 := n1_; have HO377 := n2_; have HB := n3_; have BK379 := n4_; have GW379 := n5_; have GE379 := n6_; clear n0_ n1_ n2_ n3_ n4_ n5_ n6_; clear hb hbox hg; obtain ⟨Ao10, co10, eo10⟩ := Kd.V_slice HO369.out; subst eo10; have hcz11_0 : w9.cell? ⟨gb379, 0, none⟩ = some (.slice none 0 0) := (xE BK379.out 0).trans rfl; have hcz11_1 : w9.cell? ⟨gb379, 1, none⟩ = some (.int .i64 0) := (xE BK379.out 1).trans rfl; have hcz11_2 : w9.cell? ⟨gb379, 2, none⟩ = some (.int .i64 0) := (xE BK379.out 2).trans rfl; have hcz11_3 : w9.cell? ⟨gb379, 3, none⟩ = some (.slice none 0 0) := (xE BK379.out 3).trans rfl; have hcz11_4 : w9.cell? ⟨gb379, 4, none⟩ = some (.slice none 0 0) := (xE BK379.out 4).trans rfl; have hfz11_0 := xC BK379.out 0; have hfz11_1 := xC BK379.out 1; have hfz11_2 := xC BK379.out 2; have hfz11_3 := xC BK379.out 3; have hfz11_4 := xC BK379.out 4; obtain ⟨Ao12, co12, eo12⟩ := Kd.yC HO374.out; subst eo12; obtain ⟨Ao13, co13, eo13⟩ := Kd.yC HO377.out; subst eo13) | ((with_reducible refine xG (f := 46) rfl ?_); refine xM (some 25) rfl rfl Try.func46 jk rfl #[.slice Ao10 t367.length co10] rfl qc ?_; (with_reducible refine (lgconnected.calls k _ _ t367 true _ ?side1 ?side2 A4.out).mono ?_); (case side1 => refine (Kd.xW (e := 26) (base := w.heap.size) (ok := fun k_ => ((some k_ ≠ (.slice Ao12 t372.length co12 : Value).ownBlock ∧ some k_ ≠ (.slice Ao13 t375.length co13 : Value).ownBlock) ∧ k_ ≠ gb379)) (n := t367.length) (c := co10) ?_).2.2; exact (by (with_reducible repeat (first | apply Kd.V_alloc | apply Kd.V_drewN | apply Kd.V_drew)); exact (Kd.V_mono (Kd.V_far (p := ⟨gb379, 4, none⟩) (Kd.V_far (p := ⟨gb379, 3, none⟩) (Kd.V_far (p := ⟨gb379, 2, none⟩) (Kd.V_far (p := ⟨gb379, 1, none⟩) (Kd.V_far (p := ⟨gb379, 0, none⟩) (Kd.V_mono HO369.out (fun k_ hk => (⟨hk, hk.2⟩ : _ ∧ k_ ≠ gb379))) (fun _ hk => hk.2) (.slice Ao10 t367.length co10)) (fun _ hk => hk.2) (.int .i64 t370)) (fun _ hk => hk.2) (.int .i64 t371)) (fun _ hk => hk.2) (.slice Ao12 t372.length co12)) (fun _ hk => hk.2) (.slice Ao13 t375.length co13)) (fun _ h_ => h_.1)))); (case side2 => exact (Kd.xW HO369.out).2.1); rintro e w14 ⟨rfl, hb⟩; refine ⟨_, rfl, ?_⟩; have n0_ := xA.mk (Kd.V_below (by (with_reducible repeat (first | apply Kd.V_alloc | apply Kd.V_drewN | apply Kd.V_drew)); exact (Kd.V_mono (Kd.V_far (p := ⟨gb379, 4, none⟩) (Kd.V_far (p := ⟨gb379, 3, none⟩) (Kd.V_far (p := ⟨gb379, 2, none⟩) (Kd.V_far (p := ⟨gb379, 1, none⟩) (Kd.V_far (p := ⟨gb379, 0, none⟩) (Kd.V_mono HO369.out (fun k_ hk => (⟨hk, hk.2⟩ : _ ∧ k_ ≠ gb379))) (fun _ hk => hk.2) (.slice Ao10 t367.length co10)) (fun _ hk => hk.2) (.int .i64 t370)) (fun _ hk => hk.2) (.int .i64 t371)) (fun _ hk => hk.2) (.slice Ao12 t372.length co12)) (fun _ hk => hk.2) (.slice Ao13 t375.length co13)) (fun _ h_ => h_.1))) hb); have n1_ := xA.mk (Kd.S_below (by (with_reducible repeat (first | apply Kd.S_alloc | apply Kd.S_drewN | apply Kd.S_drew)); exact (Kd.xT (Kd.S_far (p := ⟨gb379, 4, none⟩) (Kd.S_far (p := ⟨gb379, 3, none⟩) (Kd.S_far (p := ⟨gb379, 2, none⟩) (Kd.S_far (p := ⟨gb379, 1, none⟩) (Kd.S_far (p := ⟨gb379, 0, none⟩) (Kd.S_types HO374.out BK379.out (by decide)) (fun _ hk => hk.2) (.slice Ao10 t367.length co10)) (fun _ hk => hk.2) (.int .i64 t370)) (fun _ hk => hk.2) (.int .i64 t371)) (fun _ hk => hk.2) (.slice Ao12 t372.length co12)) (fun _ hk => hk.2) (.slice Ao13 t375.length co13)) (fun _ h_ => h_.1))) hb); have n2_ := xA.mk (Kd.S_below (by (with_reducible repeat (first | apply Kd.S_alloc | apply Kd.S_drewN | apply Kd.S_drew)); exact (Kd.xT (Kd.S_far (p := ⟨gb379, 4, none⟩) (Kd.S_far (p := ⟨gb379, 3, none⟩) (Kd.S_far (p := ⟨gb379, 2, none⟩) (Kd.S_far (p := ⟨gb379, 1, none⟩) (Kd.S_far (p := ⟨gb379, 0, none⟩) (Kd.S_types HO377.out BK379.out (by decide)) (fun _ hk => hk.2) (.slice Ao10 t367.length co10)) (fun _ hk => hk.2) (.int .i64 t370)) (fun _ hk => hk.2) (.int .i64 t371)) (fun _ hk => hk.2) (.slice Ao12 t372.length co12)) (fun _ hk => hk.2) (.slice Ao13 t375.length co13)) (fun _ h_ => h_.1))) hb); have n3_ := xA.mk (xO (g := gb379) (o := .cells #[.slice Ao10 t367.length co10, .int .i64 t370, .int .i64 t371, .slice Ao12 t372.length co12, .slice Ao13 t375.length co13] 58 (0, 0)) (by (with_reducible repeat (first | refine xK ?_ _ | refine xI ?_ | refine xJ ?_ _)); refine xV (cs := #[.slice Ao10 t367.length co10, .int .i64 t370, .int .i64 t371, .slice Ao12 t372.length co12, .slice none 0 0]) ?_ 4 _ rfl; (with_reducible repeat (first | refine xK ?_ _ | refine xI ?_ | refine xJ ?_ _)); refine xV (cs := #[.slice Ao10 t367.length co10, .int .i64 t370, .int .i64 t371, .slice none 0 0, .slice none 0 0]) ?_ 3 _ rfl; (with_reducible repeat (first | refine xK ?_ _ | refine xI ?_ | refine xJ ?_ _)); refine xV (cs := #[.slice Ao10 t367.length co10, .int .i64 t370, .int .i64 0, .slice none 0 0, .slice none 0 0]) ?_ 2 _ rfl; (with_reducible repeat (first | refine xK ?_ _ | refine xI ?_ | refine xJ ?_ _)); refine xV (cs := #[.slice Ao10 t367.length co10, .int .i64 0, .int .i64 0, .slice none 0 0, .slice none 0 0]) ?_ 1 _ rfl; (with_reducible repeat (first | refine xK ?_ _ | refine xI ?_ | refine xJ ?_ _)); refine xV (cs := #[.slice none 0 0, .int .i64 0, .int .i64 0, .slice none 0 0, .slice none 0 0]) ?_ 0 _ rfl; (with_reducible repeat (first | refine xK ?_ _ | refine xI ?_ | refine xJ ?_ _)); exact BK379.out) hb); have n4_ := xA.mk (xD (qo GE379.out) hb); clear HO369; clear HO374; clear HO377; clear BK379; clear HB; have HO369 := n0_; have HO374 := n1_; have HO377 := n2_; have BK379 := n3_; have HB := n4_; clear n0_ n1_ n2_ n3_ n4_; (try clear hb); (try clear hb2); (try clear hk); (try clear hi); have hcz15_0 : w14.cell? ⟨gb379, 0, none⟩ = some (.slice Ao10 t367.length co10) := (xE BK379.out 0).trans rfl; have hcz15_1 : w14.cell? ⟨gb379, 1, none⟩ = some (.int .i64 t370) := (xE BK379.out 1).trans rfl; have hcz15_2 : w14.cell? ⟨gb379, 2, none⟩ = some (.int .i64 t371) := (xE BK379.out 2).trans rfl; have hcz15_3 : w14.cell? ⟨gb379, 3, none⟩ = some (.slice Ao12 t372.length co12) := (xE BK379.out 3).trans rfl; have hcz15_4 : w14.cell? ⟨gb379, 4, none⟩ = some (.slice Ao13 t375.length co13) := (xE BK379.out 4).trans rfl; have hfz15_0 := xC BK379.out 0; have hfz15_1 := xC BK379.out 1; have hfz15_2 := xC BK379.out 2; have hfz15_3 := xC BK379.out 3; have hfz15_4 := xC BK379.out 4) | ((with_reducible refine xG (f := 54) rfl ?_); refine xM (some 28) rfl rfl Try.func54 jk rfl #[.agg #[.slice Ao10 t367.length co10, .int .i64 t370, .int .i64 t371, .slice Ao12 t372.length co12, .slice Ao13 t375.length co13]] rfl qc ?_; (with_reducible refine (llperiod.calls k _ _ t367 t370 t371 _ _ t372 _ _ t375 t381 _ ?side1 ?side2 ?side3 ?side4 ?side5 ?side6 A6.out).mono ?_); (case side1 => exact qm (Kd.xW HO369.out).2.2); (case side2 => exact (Kd.xW HO369.out).2.1); (case side3 => exact qm (Kd.xH HO374.out).2.2); (case side4 => exact (Kd.xH HO374.out).2.1); (case side5 => exact qm (Kd.xH HO377.out).2.2); (case side6 => exact (Kd.xH HO377.out).2.1); rintro e w16 ⟨rfl, hb⟩; refine ⟨_, rfl, ?_⟩; replace HO369 := xA.mk (Kd.V_below (qj HO369.out) hb); replace HO374 := xA.mk (Kd.S_below (qh HO374.out) hb); replace HO377 := xA.mk (Kd.S_below (qh HO377.out) hb); replace BK379 := xA.mk (xO (g := gb379) (o := .cells #[.slice Ao10 t367.length co10, .int .i64 t370, .int .i64 t371, .slice Ao12 t372.length co12, .slice Ao13 t375.length co13] 58 (0, 0)) (qn BK379.out) hb); replace HB := xA.mk (xD (qo GE379.out) hb); (try clear hb); (try clear hb2); (try clear hk); (try clear hi); have hcz17_0 : w16.cell? ⟨gb379, 0, none⟩ = some (.slice Ao10 t367.length co10) := (xE BK379.out 0).trans rfl; have hcz17_1 : w16.cell? ⟨gb379, 1, none⟩ = some (.int .i64 t370) := (xE BK379.out 1).trans rfl; have hcz17_2 : w16.cell? ⟨gb379, 2, none⟩ = some (.int .i64 t371) := (xE BK379.out 2).trans rfl; have hcz17_3 : w16.cell? ⟨gb379, 3, none⟩ = some (.slice Ao12 t372.length co12) := (xE BK379.out 3).trans rfl; have hcz17_4 : w16.cell? ⟨gb379, 4, none⟩ = some (.slice Ao13 t375.length co13) := (xE BK379.out 4).trans rfl; have hfz17_0 := xC BK379.out 0; have hfz17_1 := xC BK379.out 1; have hfz17_2 := xC BK379.out 2; have hfz17_3 := xC BK379.out 3; have hfz17_4 := xC BK379.out 4; have HGB := xA.mk (World.block_lt_of_cell? w16 _ hcz17_0); have hal1 := fun o i => cell_alloc_old w16 gb379 HGB.out o i; have hal2 := fun o o2 i => cell_alloc_old2 w16 gb379 HGB.out o o2 i))
 have hgbm := HGB.out
 generalize hwm : (World.alloc (World.alloc w16 _) _) = wm
 have FB := xA.mk (show Below w.heap.size w wm by rw [← hwm]; exact xY (xY HB.out _) _)
 have FM := xA.mk (show Below w16.heap.size w16 wm by rw [← hwm]; exact xY (xY (Below.refl _ _) _) _)
 have FS := xA.mk (show wm.heap.size = w16.heap.size + 2 by rw [← hwm]; simp)
 have FC := xA.mk (show wm.cell? ⟨w16.heap.size, 0, none⟩ = some (.int .i64 t381) by rw [← hwm]; simp)
 have FA := xA.mk (show wm.cell? ⟨w16.heap.size + 1, 0, none⟩ = some (.int .i64 (wrap64 (Int.tdiv (wrap64 (t381 * t370)) t371))) by rw [← hwm]; simp)
 have FL := xA.mk ((FM.out.cell (p := ⟨gb379, 0, none⟩) HGB.out).trans hcz17_0)
 have FV := xA.mk (Kd.xQ (Kd.xW HO369.out).2.2 FM.out)
 have FN := xA.mk (Kd.xW HO369.out).2.1
 have SL := xA.mk (show gb379 < wm.heap.size by rw [FS.out]; have := HGB.out; omega)
 have SA := xA.mk (show w16.heap.size + 1 < wm.heap.size by rw [FS.out]; omega)
 have SC := xA.mk (show w16.heap.size < wm.heap.size by rw [FS.out]; omega)
 clear hwm hgbm hal1 hal2
 go_loopg [10] k (fun kq v10 w' => ∃ (x10 : Int), v10 = .int .i64 x10 ∧ xA (line_Regime.l0 kq t381 (wrap64 (Int.tdiv (wrap64 (t381 * t370)) t371)) x10 t367 t370 t371 t372 t375 = some (r1, r2, r3)) ∧ xA (kq ≤ k) ∧ xA (Below wm.heap.size wm w'))
 case atStart => exact ⟨1, (by first | rfl | (simp; done)), H', ⟨Nat.le_refl _⟩, ⟨Below.refl _ _⟩⟩
 case round =>
  clear H'
  obtain ⟨x10, rfl, HA, HK1, HM⟩ := hrel
  obtain _ | k1 := gk
  · exact absurd HA.out (by simp [line_Regime.l0])
  have H := HA.out
  clear HA
  simp only [line_Regime.l0] at H
  replace H := qw H
  obtain ⟨t382, A180, H⟩ := H
  have A18 := xA.mk A180
  clear A180
  have hl_ := (HM.out.cell (p := ⟨gb379, 0, none⟩) SL.out).trans FL.out
  have ha_ := (HM.out.cell (p := ⟨w16.heap.size + 1, 0, none⟩) SA.out).trans FA.out
  have hc_ := (HM.out.cell (p := ⟨w16.heap.size, 0, none⟩) SC.out).trans FC.out
  have GL := xA.mk hl_
  have GA := xA.mk ha_
  have GC := xA.mk hc_
  clear hl_ ha_ hc_
  by_cases c19 : t382 = true
  rotate_left
  ·
   replace c19 := Bool.eq_false_iff.mpr c19
   subst c19
   have HX := xA.mk (show line_Regime.l0 k1 t381 (wrap64 (Int.tdiv (wrap64 (t381 * t370)) t371)) (wrap64 (x10 * 2)) t367 t370 t371 t372 t375 = some (r1, r2, r3) by rw [if_neg (by decide)] at H; exact H)
   clear H
   go_wp2_with (go_at_call 55; (with_reducible refine (line_Regime_1.calls k1 x10 Ao10 co10 t367 (wrap64 (Int.tdiv (wrap64 (t381 * t370)) t371)) t381 false _ ?s1 ?s2 A18.out gb379 (w16.heap.size + 1) w16.heap.size ?b1 ?b2 ?b3 ?c1 ?c2 ?c3).mono ?_); (case s1 => exact Kd.xQ FV.out HM.out); (case s2 => exact FN.out); (case b1 => exact Nat.lt_of_lt_of_le SL.out (xB HM.out)); (case b2 => exact Nat.lt_of_lt_of_le SA.out (xB HM.out)); (case b3 => exact Nat.lt_of_lt_of_le SC.out (xB HM.out)); (case c1 => exact GL.out); (case c2 => exact GA.out); (case c3 => exact GC.out); rintro e w21 ⟨rfl, hb⟩; have n_ := xA.mk (xD HM.out hb); clear HM hb; have HM := n_; clear n_)
   go_roundg k1
   case measure => have := HK1.out; omega
   case rel => exact ⟨(wrap64 (x10 * 2)), (by first | rfl | (simp; done)), HX, ⟨by have := HK1.out; omega⟩, HM⟩
  subst c19
  have HX := xA.mk (show line_Regime.l1 k1 t381 (wrap64 (Int.tdiv (wrap64 (t381 * t370)) t371)) x10 0 t367 t370 t371 t372 t375 = some (r1, r2, r3) by rw [if_pos rfl] at H; exact H)
  clear H
  go_wp2_with (go_at_call 55; (with_reducible refine (line_Regime_1.calls k1 x10 Ao10 co10 t367 (wrap64 (Int.tdiv (wrap64 (t381 * t370)) t371)) t381 true _ ?s1 ?s2 A18.out gb379 (w16.heap.size + 1) w16.heap.size ?b1 ?b2 ?b3 ?c1 ?c2 ?c3).mono ?_); (case s1 => exact Kd.xQ FV.out HM.out); (case s2 => exact FN.out); (case b1 => exact Nat.lt_of_lt_of_le SL.out (xB HM.out)); (case b2 => exact Nat.lt_of_lt_of_le SA.out (xB HM.out)); (case b3 => exact Nat.lt_of_lt_of_le SC.out (xB HM.out)); (case c1 => exact GL.out); (case c2 => exact GA.out); (case c3 => exact GC.out); rintro e w21 ⟨rfl, hb⟩; have n_ := xA.mk (xD HM.out hb); clear HM hb; have HM := n_; clear n_)
  go_loopg [10, 11] k1 (fun kq v10 v11 w' => ∃ (x10 : Int) (x11 : Int), v10 = .int .i64 x10 ∧ v11 = .int .i64 x11 ∧ xA (line_Regime.l1 kq t381 (wrap64 (Int.tdiv (wrap64 (t381 * t370)) t371)) x10 x11 t367 t370 t371 t372 t375 = some (r1, r2, r3)) ∧ xA (kq ≤ k1) ∧ xA (Below wm.heap.size wm w'))
  case atStart => exact ⟨x10, 0, (by first | rfl | (simp; done)), (by first | rfl | (simp; done)), HX, ⟨Nat.le_refl _⟩, HM⟩
  case round =>
   clear HX GL GA GC HM
   obtain ⟨x10, x11, rfl, rfl, HA, HK2, HM⟩ := hrel
   obtain _ | k2 := gk
   · exact absurd HA.out (by simp [line_Regime.l1])
   have H := HA.out
   clear HA
   simp only [line_Regime.l1] at H
   have hl_ := (HM.out.cell (p := ⟨gb379, 0, none⟩) SL.out).trans FL.out
   have ha_ := (HM.out.cell (p := ⟨w16.heap.size + 1, 0, none⟩) SA.out).trans FA.out
   have hc_ := (HM.out.cell (p := ⟨w16.heap.size, 0, none⟩) SC.out).trans FC.out
   have GL := xA.mk hl_
   have GA := xA.mk ha_
   have GC := xA.mk hc_
   clear hl_ ha_
   by_cases c22 : x11 < x10
   rotate_left
   ·
    rw [if_neg c22] at H
    have c22b0 : decide (x11 < x10) = false := qv c22
    clear c22
    simp only [Option.some.injEq, Prod.mk.injEq] at H
    obtain ⟨rfl, rfl, rfl⟩ := H
    go_wp2
    go_ret3
    exact ⟨qf, xD FB.out HM.out⟩
   clear hc_
   rw [if_pos c22] at H
   have c22b0 : decide (x11 < x10) = true := qu c22
   clear c22
   replace H := qw H
   obtain ⟨t383, A230, H⟩ := H
   have A23 := xA.mk A230
   clear A230
   by_cases c24 : t383 = true
   ·
    subst c24
    have HX := xA.mk (show line_Regime.l1 k2 t381 (wrap64 (Int.tdiv (wrap64 (t381 * t370)) t371)) (wrap64 (Int.tdiv (wrap64 (x11 + x10)) 2)) x11 t367 t370 t371 t372 t375 = some (r1, r2, r3) by rw [if_pos rfl] at H; exact H)
    clear H
    go_wp2_with (go_at_call 55; (with_reducible refine (line_Regime_1.calls k2 (wrap64 (Int.tdiv (wrap64 (x11 + x10)) 2)) Ao10 co10 t367 (wrap64 (Int.tdiv (wrap64 (t381 * t370)) t371)) t381 true _ ?s1 ?s2 A23.out gb379 (w16.heap.size + 1) w16.heap.size ?b1 ?b2 ?b3 ?c1 ?c2 ?c3).mono ?_); (case s1 => exact Kd.xQ FV.out HM.out); (case s2 => exact FN.out); (case b1 => exact Nat.lt_of_lt_of_le SL.out (xB HM.out)); (case b2 => exact Nat.lt_of_lt_of_le SA.out (xB HM.out)); (case b3 => exact Nat.lt_of_lt_of_le SC.out (xB HM.out)); (case c1 => exact GL.out); (case c2 => exact GA.out); (case c3 => exact GC.out); rintro e w21 ⟨rfl, hb⟩; have n_ := xA.mk (xD HM.out hb); clear HM hb; have HM := n_; clear n_)
    go_roundg k2
    case measure => have := HK2.out; omega
    case rel => exact ⟨(wrap64 (Int.tdiv (wrap64 (x11 + x10)) 2)), x11, (by first | rfl | (simp; done)), (by first | rfl | (simp; done)), HX, ⟨by have := HK2.out; omega⟩, HM⟩
   replace c24 := Bool.eq_false_iff.mpr c24
   subst c24
   have HX := xA.mk (show line_Regime.l1 k2 t381 (wrap64 (Int.tdiv (wrap64 (t381 * t370)) t371)) x10 (wrap64 ((wrap64 (Int.tdiv (wrap64 (x11 + x10)) 2)) + 1)) t367 t370 t371 t372 t375 = some (r1, r2, r3) by rw [if_neg (by decide)] at H; exact H)
   clear H
   go_wp2_with (go_at_call 55; (with_reducible refine (line_Regime_1.calls k2 (wrap64 (Int.tdiv (wrap64 (x11 + x10)) 2)) Ao10 co10 t367 (wrap64 (Int.tdiv (wrap64 (t381 * t370)) t371)) t381 false _ ?s1 ?s2 A23.out gb379 (w16.heap.size + 1) w16.heap.size ?b1 ?b2 ?b3 ?c1 ?c2 ?c3).mono ?_); (case s1 => exact Kd.xQ FV.out HM.out); (case s2 => exact FN.out); (case b1 => exact Nat.lt_of_lt_of_le SL.out (xB HM.out)); (case b2 => exact Nat.lt_of_lt_of_le SA.out (xB HM.out)); (case b3 => exact Nat.lt_of_lt_of_le SC.out (xB HM.out)); (case c1 => exact GL.out); (case c2 => exact GA.out); (case c3 => exact GC.out); rintro e w21 ⟨rfl, hb⟩; have n_ := xA.mk (xD HM.out hb); clear HM hb; have HM := n_; clear n_)
   go_roundg k2
   case measure => have := HK2.out; omega
   case rel => exact ⟨x10, (wrap64 ((wrap64 (Int.tdiv (wrap64 (x11 + x10)) 2)) + 1)), (by first | rfl | (simp; done)), (by first | rfl | (simp; done)), HX, ⟨by have := HK2.out; omega⟩, HM⟩
theorem eqA37 (d : Nat) (w : World) (x0 y0 : Int) (x1 y1 : Int) :
  (Op.equalIn (d + 2) 37 (.agg #[.int .i64 x0, .int .i64 x1]) (.agg #[.int .i64 y0, .int .i64 y1])).run Try.prog w = .ok (x0 == y0 && (x1 == y1)) w := by
 refine eqA_of Try.underlying37 jk ?_
 refine eqf_cons (by rfl) (by go_simp; rfl) (by go_simp; rfl) (by go_simp) ?_
 exact eqf_last (by rfl) (by go_simp; rfl) (by go_simp; rfl) (by go_simp)
def line_Speed.f (k : Nat) (l0 : List (List Int)) : Option (Int × Int × Int) := (line_of.f k l0).bind fun bt385 => (if bt385.2 = true then ((lgpace.f k bt385.1).bind fun bt389 => (if bt389.2.2 = true then (some (bt389.1, bt389.2.1, 0)) else (some (0, 0, 10)))) else (some (0, 0, 2)))
theorem line_Speed.mono : ∀ a0 k, LeO (line_Speed.f k a0) (line_Speed.f (k + 1) a0) := by
 intro a0 k
 unfold line_Speed.f
 repeat' first
   | (with_reducible exact LeO.refl _)
   | (with_reducible exact LeO.none _)
   | (with_reducible refine LeO.ite ?_ ?_)
   | (with_reducible refine LeO.bind ?_ (fun _ => ?_))
   | exact lgpace.mono _ _
   | exact line_of.mono _ _
theorem line_Speed.calls (k : Nat) (A0 : Option Addr) (c0 : Nat) (l0 : List (List Int)) (r1 : Int) (r2 : Int) (r3 : Int) (w : World) (hr0 : Kd.C (Kd.slice 3 (Kd.int .i64)) w A0 l0.length l0) (hc0 : l0.length ≤ c0) (h : line_Speed.f k l0 = some (r1, r2, r3)) :
  Calls Try.prog 22 #[.slice A0 l0.length c0] w fun e w' => e = .returned (.tuple #[.agg #[.int .i64 r1, .int .i64 r2], .int .i64 r3]) ∧ Below w.heap.size w w' := by
 have hu37 := Try.underlying37
 have HR0 := xA.mk hr0
 have HC0 := xA.mk hc0
 clear hr0 hc0
 have HB := xA.mk (Below.refl w.heap.size w)
 have H : ((line_of.f k l0).bind fun bt385 => (if bt385.2 = true then ((lgpace.f k bt385.1).bind fun bt389 => (if bt389.2.2 = true then (some (bt389.1, bt389.2.1, 0)) else (some (0, 0, 10)))) else (some (0, 0, 2)))) = some (r1, r2, r3) := h
 clear h
 replace H := qw H
 obtain ⟨⟨t385, t388⟩, A20, H⟩ := H
 replace H : (if t388 = true then ((lgpace.f k t385).bind fun bt389 => (if bt389.2.2 = true then (some (bt389.1, bt389.2.1, 0)) else (some (0, 0, 10)))) else (some (0, 0, 2))) = some (r1, r2, r3) := H
 have A2 := xA.mk A20
 clear A20
 by_cases c3 : t388 = true
 rotate_left
 ·
  replace c3 := Bool.eq_false_iff.mpr c3
  subst c3
  have H1 : (some (0, 0, 2)) = some (r1, r2, r3) := by rw [if_neg (show ¬ (false = true) by decide)] at H; exact H
  clear H
  have H := H1
  clear H1
  simp only [Option.some.injEq, Prod.mk.injEq] at H
  obtain ⟨rfl, rfl, rfl⟩ := H
  go_enter Try.func22, Try.ntmps22
  go_wp2_with (first | ((with_reducible refine xZ (N := 2) rfl ?_); refine yD ?hg (N := 2) ?hd (cs := #[.int .i64 0, .int .i64 0]) (t := 37) ?hr ?_; (case hd => rfl); (case hg => rfl); (case hr => go_simp); intro gb384 hg w22 hbox hb; have n0_ := xA.mk (xD (HB.out) hb); have n1_ := xA.mk (hbox); have n2_ := xA.mk ((by rw [hg]; exact (xB (HB.out)) : w.heap.size ≤ gb384)); have n3_ := xA.mk ((by rw [hg]; exact (xB (HB.out)) : w.heap.size ≤ gb384)); clear HB; have HB := n0_; have BK384 := n1_; have GW384 := n2_; have GE384 := n3_; clear n0_ n1_ n2_ n3_; clear hb hbox hg) | ((with_reducible refine xG (f := 64) rfl ?_); refine xM (some 10) rfl rfl Try.func64 jk rfl #[.slice A0 l0.length c0] rfl qd ?_; (with_reducible refine (line_of.calls k (fun k_ => k_ < w.heap.size) _ _ l0 t385 false _ ?side1 A2.out).mono ?_); (case side1 => exact Kd.V_mk HC0.out (Kd.F_below (Kd.C_F (Kd.heap_slice 3 (Kd.heap_int .i64)) HR0.out) (HB.out))); rintro e w23 ⟨v386, rfl, ho0, hb⟩; refine ⟨_, rfl, ?_⟩; have n0_ := xA.mk (Kd.V_lower (Kd.V_mono (ok' := fun k_ => k_ ≠ gb384) ho0 (fun k_ hk_ => Or.elim hk_ (fun hs_ => fun e_ => Nat.not_le.2 hs_ (by rw [e_]; exact GW384.out)) (fun hn_ => (Kd.freshB (g := gb384) (o := .cells #[.int .i64 0, .int .i64 0] 37 (0, 0)) (by exact BK384.out) k_ hn_)))) (xB (HB.out))); have n1_ := xA.mk (xO (g := gb384) (o := .cells #[.int .i64 0, .int .i64 0] 37 (0, 0)) (by exact BK384.out) hb); have n2_ := xA.mk (xD (HB.out) hb); clear BK384; clear HB; have HO387 := n0_; have BK384 := n1_; have HB := n2_; clear n0_ n1_ n2_; have hcz24_0 : w23.cell? ⟨gb384, 0, none⟩ = some (.int .i64 0) := (xE BK384.out 0).trans rfl; have hcz24_1 : w23.cell? ⟨gb384, 1, none⟩ = some (.int .i64 0) := (xE BK384.out 1).trans rfl; have hfz24_0 := xC BK384.out 0; have hfz24_1 := xC BK384.out 1))
  refine bodyPost_ret (results_ct rfl _ _ gb384 37 #[.int .i64 0, .int .i64 0] (0, 0) _ rfl (by refine xV (cs := #[.int .i64 0, .int .i64 0]) ?_ 1 _ rfl; refine xV (cs := #[.int .i64 0, .int .i64 0]) ?_ 0 _ rfl; exact BK384.out) Try.underlying37 rfl jk) rfl ?_
  exact ⟨rfl, by repeat (first | exact HB.out | apply xY | apply xN | apply xS | refine xR ?_ GE384.out)⟩
 subst c3
 have H1 : ((lgpace.f k t385).bind fun bt389 => (if bt389.2.2 = true then (some (bt389.1, bt389.2.1, 0)) else (some (0, 0, 10)))) = some (r1, r2, r3) := by rw [if_pos rfl] at H; exact H
 clear H
 have H := H1
 clear H1
 replace H := qw H
 obtain ⟨⟨t389, t390, t391⟩, A40, H⟩ := H
 replace H : (if t391 = true then (some (t389, t390, 0)) else (some (0, 0, 10))) = some (r1, r2, r3) := H
 have A4 := xA.mk A40
 clear A40
 by_cases c5 : t391 = true
 ·
  subst c5
  have H1 : (some (t389, t390, 0)) = some (r1, r2, r3) := by rw [if_pos rfl] at H; exact H
  clear H
  have H := H1
  clear H1
  simp only [Option.some.injEq, Prod.mk.injEq] at H
  obtain ⟨rfl, rfl, rfl⟩ := H
  go_enter Try.func22, Try.ntmps22
  go_wp2_with (first | ((with_reducible refine xZ (N := 2) rfl ?_); refine yD ?hg (N := 2) ?hd (cs := #[.int .i64 0, .int .i64 0]) (t := 37) ?hr ?_; (case hd => rfl); (case hg => rfl); (case hr => go_simp); intro gb384 hg w6 hbox hb; have n0_ := xA.mk (xD (HB.out) hb); have n1_ := xA.mk (hbox); have n2_ := xA.mk ((by rw [hg]; exact (xB (HB.out)) : w.heap.size ≤ gb384)); have n3_ := xA.mk ((by rw [hg]; exact (xB (HB.out)) : w.heap.size ≤ gb384)); clear HB; have HB := n0_; have BK384 := n1_; have GW384 := n2_; have GE384 := n3_; clear n0_ n1_ n2_ n3_; clear hb hbox hg) | ((with_reducible refine xG (f := 64) rfl ?_); refine xM (some 10) rfl rfl Try.func64 jk rfl #[.slice A0 l0.length c0] rfl qd ?_; (with_reducible refine (line_of.calls k (fun k_ => k_ < w.heap.size) _ _ l0 t385 true _ ?side1 A2.out).mono ?_); (case side1 => exact Kd.V_mk HC0.out (Kd.F_below (Kd.C_F (Kd.heap_slice 3 (Kd.heap_int .i64)) HR0.out) (HB.out))); rintro e w7 ⟨v386, rfl, ho0, hb⟩; refine ⟨_, rfl, ?_⟩; have n0_ := xA.mk (Kd.V_lower (Kd.V_mono (ok' := fun k_ => k_ ≠ gb384) ho0 (fun k_ hk_ => Or.elim hk_ (fun hs_ => fun e_ => Nat.not_le.2 hs_ (by rw [e_]; exact GW384.out)) (fun hn_ => (Kd.freshB (g := gb384) (o := .cells #[.int .i64 0, .int .i64 0] 37 (0, 0)) (by exact BK384.out) k_ hn_)))) (xB (HB.out))); have n1_ := xA.mk (xO (g := gb384) (o := .cells #[.int .i64 0, .int .i64 0] 37 (0, 0)) (by exact BK384.out) hb); have n2_ := xA.mk (xD (HB.out) hb); clear BK384; clear HB; have HO387 := n0_; have BK384 := n1_; have HB := n2_; clear n0_ n1_ n2_; obtain ⟨Ao8, co8, eo8⟩ := Kd.V_slice HO387.out; subst eo8) | ((with_reducible refine xG (f := 65) rfl ?_); refine xM (some 18) rfl rfl Try.func65 jk rfl #[.slice Ao8 t385.length co8] rfl qd ?_; (with_reducible refine (lgpace.calls k _ _ t385 t389 t390 true _ ?side1 ?side2 A4.out).mono ?_); (case side1 => repeat (first | exact (Kd.xW HO387.out).2.2)); (case side2 => exact (Kd.xW HO387.out).2.1); rintro e w9 ⟨rfl, hb⟩; refine ⟨_, rfl, ?_⟩; have n0_ := xA.mk (Kd.V_below (by exact HO387.out) hb); have n1_ := xA.mk (xO (g := gb384) (o := .cells #[.int .i64 0, .int .i64 0] 37 (0, 0)) (by exact BK384.out) hb); have n2_ := xA.mk (xD (HB.out) hb); clear HO387; clear BK384; clear HB; have HO387 := n0_; have BK384 := n1_; have HB := n2_; clear n0_ n1_ n2_) | ((with_reducible refine xZ (N := 6) rfl ?_); refine yD ?hg (N := 6) ?hd (cs := #[.int .i64 0, .int .i64 0]) (t := 37) ?hr ?_; (case hd => rfl); (case hg => rfl); (case hr => go_simp); intro gb392 hg w10 hbox hb; have n0_ := xA.mk (Kd.V_below (Kd.V_elderB (by exact HO387.out) gb392 (Nat.le_of_eq hg.symm)) hb); have n1_ := xA.mk (xO (g := gb384) (o := .cells #[.int .i64 0, .int .i64 0] 37 (0, 0)) (by exact BK384.out) hb); have n2_ := xA.mk (xD (HB.out) hb); have n3_ := xA.mk (hbox); have n4_ := xA.mk ((by rw [hg]; exact (xB (HB.out)) : w.heap.size ≤ gb392)); have n5_ := xA.mk ((by rw [hg]; exact (xB (HB.out)) : w.heap.size ≤ gb392)); have n6_ := xA.mk ((by rw [hg]; exact Nat.ne_of_lt (blk_lt (g := gb384) (o := .cells #[.int .i64 0, .int .i64 0] 37 (0, 0)) (by exact BK384.out)) : gb384 ≠ gb392)); have n7_ := xA.mk ((by rw [hg]; exact Nat.ne_of_gt (blk_lt (g := gb384) (o := .cells #[.int .i64 0, .int .i64 0] 37 (0, 0)) (by exact BK384.out)) : gb392 ≠ gb384)); clear HO387; clear BK384; clear HB; have HO387 := n0_; have BK384 := n1_; have HB := n2_; have BK392 := n3_; have GW392 := n4_; have GE392 := n5_; have NB384_392 := n6_; have NB392_384 := n7_; clear n0_ n1_ n2_ n3_ n4_ n5_ n6_ n7_; clear hb hbox hg; have hnb11 := NB392_384.out; have hnc11 := NB384_392.out; have hcz12_0 : w10.cell? ⟨gb392, 0, none⟩ = some (.int .i64 0) := (xE BK392.out 0).trans rfl; have hcz12_1 : w10.cell? ⟨gb392, 1, none⟩ = some (.int .i64 0) := (xE BK392.out 1).trans rfl; have hfz12_0 := xC BK392.out 0; have hfz12_1 := xC BK392.out 1; have hcz13_0 : w10.cell? ⟨gb384, 0, none⟩ = some (.int .i64 0) := (xE BK384.out 0).trans rfl; have hcz13_1 : w10.cell? ⟨gb384, 1, none⟩ = some (.int .i64 0) := (xE BK384.out 1).trans rfl; have hfz13_0 := xC BK384.out 0; have hfz13_1 := xC BK384.out 1))
  refine bodyPost_ret (results_ct rfl _ _ gb384 37 #[.int .i64 t389, .int .i64 t390] (0, 0) _ rfl (by refine xV (cs := #[.int .i64 t389, .int .i64 0]) ?_ 1 _ rfl; refine xV (cs := #[.int .i64 0, .int .i64 0]) ?_ 0 _ rfl; refine blk_far ?_ NB384_392.out _; refine blk_far ?_ NB384_392.out _; exact BK384.out) Try.underlying37 rfl jk) rfl ?_
  exact ⟨rfl, by repeat (first | exact HB.out | apply xY | apply xN | apply xS | refine xR ?_ GE384.out | refine xR ?_ GE392.out)⟩
 replace c5 := Bool.eq_false_iff.mpr c5
 subst c5
 have H1 : (some (0, 0, 10)) = some (r1, r2, r3) := by rw [if_neg (show ¬ (false = true) by decide)] at H; exact H
 clear H
 have H := H1
 clear H1
 simp only [Option.some.injEq, Prod.mk.injEq] at H
 obtain ⟨rfl, rfl, rfl⟩ := H
 go_enter Try.func22, Try.ntmps22
 go_wp2_with (first | ((with_reducible refine xZ (N := 2) rfl ?_); refine yD ?hg (N := 2) ?hd (cs := #[.int .i64 0, .int .i64 0]) (t := 37) ?hr ?_; (case hd => rfl); (case hg => rfl); (case hr => go_simp); intro gb384 hg w14 hbox hb; have n0_ := xA.mk (xD (HB.out) hb); have n1_ := xA.mk (hbox); have n2_ := xA.mk ((by rw [hg]; exact (xB (HB.out)) : w.heap.size ≤ gb384)); have n3_ := xA.mk ((by rw [hg]; exact (xB (HB.out)) : w.heap.size ≤ gb384)); clear HB; have HB := n0_; have BK384 := n1_; have GW384 := n2_; have GE384 := n3_; clear n0_ n1_ n2_ n3_; clear hb hbox hg) | ((with_reducible refine xG (f := 64) rfl ?_); refine xM (some 10) rfl rfl Try.func64 jk rfl #[.slice A0 l0.length c0] rfl qd ?_; (with_reducible refine (line_of.calls k (fun k_ => k_ < w.heap.size) _ _ l0 t385 true _ ?side1 A2.out).mono ?_); (case side1 => exact Kd.V_mk HC0.out (Kd.F_below (Kd.C_F (Kd.heap_slice 3 (Kd.heap_int .i64)) HR0.out) (HB.out))); rintro e w15 ⟨v386, rfl, ho0, hb⟩; refine ⟨_, rfl, ?_⟩; have n0_ := xA.mk (Kd.V_lower (Kd.V_mono (ok' := fun k_ => k_ ≠ gb384) ho0 (fun k_ hk_ => Or.elim hk_ (fun hs_ => fun e_ => Nat.not_le.2 hs_ (by rw [e_]; exact GW384.out)) (fun hn_ => (Kd.freshB (g := gb384) (o := .cells #[.int .i64 0, .int .i64 0] 37 (0, 0)) (by exact BK384.out) k_ hn_)))) (xB (HB.out))); have n1_ := xA.mk (xO (g := gb384) (o := .cells #[.int .i64 0, .int .i64 0] 37 (0, 0)) (by exact BK384.out) hb); have n2_ := xA.mk (xD (HB.out) hb); clear BK384; clear HB; have HO387 := n0_; have BK384 := n1_; have HB := n2_; clear n0_ n1_ n2_; obtain ⟨Ao16, co16, eo16⟩ := Kd.V_slice HO387.out; subst eo16) | ((with_reducible refine xG (f := 65) rfl ?_); refine xM (some 18) rfl rfl Try.func65 jk rfl #[.slice Ao16 t385.length co16] rfl qd ?_; (with_reducible refine (lgpace.calls k _ _ t385 t389 t390 false _ ?side1 ?side2 A4.out).mono ?_); (case side1 => repeat (first | exact (Kd.xW HO387.out).2.2)); (case side2 => exact (Kd.xW HO387.out).2.1); rintro e w17 ⟨rfl, hb⟩; refine ⟨_, rfl, ?_⟩; have n0_ := xA.mk (Kd.V_below (by exact HO387.out) hb); have n1_ := xA.mk (xO (g := gb384) (o := .cells #[.int .i64 0, .int .i64 0] 37 (0, 0)) (by exact BK384.out) hb); have n2_ := xA.mk (xD (HB.out) hb); clear HO387; clear BK384; clear HB; have HO387 := n0_; have BK384 := n1_; have HB := n2_; clear n0_ n1_ n2_) | ((with_reducible refine xZ (N := 6) rfl ?_); refine yD ?hg (N := 6) ?hd (cs := #[.int .i64 0, .int .i64 0]) (t := 37) ?hr ?_; (case hd => rfl); (case hg => rfl); (case hr => go_simp); intro gb392 hg w18 hbox hb; have n0_ := xA.mk (Kd.V_below (Kd.V_elderB (by exact HO387.out) gb392 (Nat.le_of_eq hg.symm)) hb); have n1_ := xA.mk (xO (g := gb384) (o := .cells #[.int .i64 0, .int .i64 0] 37 (0, 0)) (by exact BK384.out) hb); have n2_ := xA.mk (xD (HB.out) hb); have n3_ := xA.mk (hbox); have n4_ := xA.mk ((by rw [hg]; exact (xB (HB.out)) : w.heap.size ≤ gb392)); have n5_ := xA.mk ((by rw [hg]; exact (xB (HB.out)) : w.heap.size ≤ gb392)); have n6_ := xA.mk ((by rw [hg]; exact Nat.ne_of_lt (blk_lt (g := gb384) (o := .cells #[.int .i64 0, .int .i64 0] 37 (0, 0)) (by exact BK384.out)) : gb384 ≠ gb392)); have n7_ := xA.mk ((by rw [hg]; exact Nat.ne_of_gt (blk_lt (g := gb384) (o := .cells #[.int .i64 0, .int .i64 0] 37 (0, 0)) (by exact BK384.out)) : gb392 ≠ gb384)); clear HO387; clear BK384; clear HB; have HO387 := n0_; have BK384 := n1_; have HB := n2_; have BK392 := n3_; have GW392 := n4_; have GE392 := n5_; have NB384_392 := n6_; have NB392_384 := n7_; clear n0_ n1_ n2_ n3_ n4_ n5_ n6_ n7_; clear hb hbox hg; have hnb19 := NB392_384.out; have hnc19 := NB384_392.out; have hcz20_0 : w18.cell? ⟨gb392, 0, none⟩ = some (.int .i64 0) := (xE BK392.out 0).trans rfl; have hcz20_1 : w18.cell? ⟨gb392, 1, none⟩ = some (.int .i64 0) := (xE BK392.out 1).trans rfl; have hfz20_0 := xC BK392.out 0; have hfz20_1 := xC BK392.out 1; have hcz21_0 : w18.cell? ⟨gb384, 0, none⟩ = some (.int .i64 0) := (xE BK384.out 0).trans rfl; have hcz21_1 : w18.cell? ⟨gb384, 1, none⟩ = some (.int .i64 0) := (xE BK384.out 1).trans rfl; have hfz21_0 := xC BK384.out 0; have hfz21_1 := xC BK384.out 1))
 refine bodyPost_ret (results_ct rfl _ _ gb384 37 #[.int .i64 0, .int .i64 0] (0, 0) _ rfl (by refine xV (cs := #[.int .i64 0, .int .i64 0]) ?_ 1 _ rfl; refine xV (cs := #[.int .i64 0, .int .i64 0]) ?_ 0 _ rfl; refine blk_far ?_ NB384_392.out _; refine blk_far ?_ NB384_392.out _; exact BK384.out) Try.underlying37 rfl jk) rfl ?_
 exact ⟨rfl, by repeat (first | exact HB.out | apply xY | apply xN | apply xS | refine xR ?_ GE384.out | refine xR ?_ GE392.out)⟩
section
attribute [local go_sem high] eqA37
def l5alive.f (k : Nat)  : Option (Bool) := (some (([(([3, 7] : List Int)), (([2, 4] : List Int))] : List (List Int)) : List (List Int))).bind fun y399 => ((line_Speed.f k y399).bind fun bt402 => ((line_Eigen.f k y399).bind fun bt406 => ((line_Regime.f k y399).bind fun bt410 => (if bt402.2.2 = 0 then (if (bt402.1 == 9 && (bt402.2.1 == 2)) = true then (if bt406.2 = 0 then ((l5same.f k bt406.1 (([5, 0] : List Int))).bind fun t416 => (if t416 = true then (if bt410.2.2 = 0 then (some (bt410.1 == 2)) else (some false)) else (some false))) else (some false)) else (some false)) else (some false)))))
theorem l5alive.mono : ∀ k, LeO (l5alive.f k ) (l5alive.f (k + 1) ) := by
 intro  k
 unfold l5alive.f
 repeat' first
   | (with_reducible exact LeO.refl _)
   | (with_reducible exact LeO.none _)
   | (with_reducible refine LeO.ite ?_ ?_)
   | (with_reducible refine LeO.bind ?_ (fun _ => ?_))
   | exact line_Eigen.mono _ _
   | exact line_Regime.mono _ _
   | exact line_Speed.mono _ _
   | exact l5same.mono _ _ _
theorem l5alive.callsT (k : Nat)  (r : Bool) (w : World) (h : l5alive.f k  = some r) (hr_ : xA (r = true)) :
  Calls Try.prog 13 #[] w fun e w' => e = .returned (.bool r) ∧ Below w.heap.size w w' := by
 have hu37 := Try.underlying37
 have HB := xA.mk (Below.refl w.heap.size w)
 have H : ((some (([(([3, 7] : List Int)), (([2, 4] : List Int))] : List (List Int)) : List (List Int))).bind fun y399 => ((line_Speed.f k y399).bind fun bt402 => ((line_Eigen.f k y399).bind fun bt406 => ((line_Regime.f k y399).bind fun bt410 => (if bt402.2.2 = 0 then (if (bt402.1 == 9 && (bt402.2.1 == 2)) = true then (if bt406.2 = 0 then ((l5same.f k bt406.1 (([5, 0] : List Int))).bind fun t416 => (if t416 = true then (if bt410.2.2 = 0 then (some (bt410.1 == 2)) else (some false)) else (some false))) else (some false)) else (some false)) else (some false)))))) = some r := h
 clear h
 obtain ⟨y393, hy393⟩ : ∃ y_ : List Int, y_ = (([3, 7] : List Int)) := ⟨_, rfl⟩
 replace H : ((some (([y393, (([2, 4] : List Int))] : List (List Int)) : List (List Int))).bind fun y399 => ((line_Speed.f k y399).bind fun bt402 => ((line_Eigen.f k y399).bind fun bt406 => ((line_Regime.f k y399).bind fun bt410 => (if bt402.2.2 = 0 then (if (bt402.1 == 9 && (bt402.2.1 == 2)) = true then (if bt406.2 = 0 then ((l5same.f k bt406.1 (([5, 0] : List Int))).bind fun t416 => (if t416 = true then (if bt410.2.2 = 0 then (some (bt410.1 == 2)) else (some false)) else (some false))) else (some false)) else (some false)) else (some false)))))) = some r := by rw [hy393]; exact H
 have Ny393 := xA.mk hy393
 clear hy393
 obtain ⟨y396, hy396⟩ : ∃ y_ : List Int, y_ = (([2, 4] : List Int)) := ⟨_, rfl⟩
 replace H : ((some (([y393, y396] : List (List Int)) : List (List Int))).bind fun y399 => ((line_Speed.f k y399).bind fun bt402 => ((line_Eigen.f k y399).bind fun bt406 => ((line_Regime.f k y399).bind fun bt410 => (if bt402.2.2 = 0 then (if (bt402.1 == 9 && (bt402.2.1 == 2)) = true then (if bt406.2 = 0 then ((l5same.f k bt406.1 (([5, 0] : List Int))).bind fun t416 => (if t416 = true then (if bt410.2.2 = 0 then (some (bt410.1 == 2)) else (some false)) else (some false))) else (some false)) else (some false)) else (some false)))))) = some r := by rw [hy396]; exact H
 have Ny396 := xA.mk hy396
 clear hy396
 obtain ⟨y399, hy399⟩ : ∃ y_ : List (List Int), y_ = (([y393, y396] : List (List Int))) := ⟨_, rfl⟩
 replace H : ((line_Speed.f k y399).bind fun bt402 => ((line_Eigen.f k y399).bind fun bt406 => ((line_Regime.f k y399).bind fun bt410 => (if bt402.2.2 = 0 then (if (bt402.1 == 9 && (bt402.2.1 == 2)) = true then (if bt406.2 = 0 then ((l5same.f k bt406.1 (([5, 0] : List Int))).bind fun t416 => (if t416 = true then (if bt410.2.2 = 0 then (some (bt410.1 == 2)) else (some false)) else (some false))) else (some false)) else (some false)) else (some false))))) = some r := by rw [hy399]; exact H
 have Ny399 := xA.mk hy399
 clear hy399
 replace H := qw H
 obtain ⟨⟨t402, t403, t404⟩, A10, H⟩ := H
 replace H : ((line_Eigen.f k y399).bind fun bt406 => ((line_Regime.f k y399).bind fun bt410 => (if t404 = 0 then (if (t402 == 9 && (t403 == 2)) = true then (if bt406.2 = 0 then ((l5same.f k bt406.1 (([5, 0] : List Int))).bind fun t416 => (if t416 = true then (if bt410.2.2 = 0 then (some (bt410.1 == 2)) else (some false)) else (some false))) else (some false)) else (some false)) else (some false)))) = some r := H
 have A1 := xA.mk A10
 clear A10
 replace H := qw H
 obtain ⟨⟨t406, t407⟩, A20, H⟩ := H
 replace H : ((line_Regime.f k y399).bind fun bt410 => (if t404 = 0 then (if (t402 == 9 && (t403 == 2)) = true then (if t407 = 0 then ((l5same.f k t406 (([5, 0] : List Int))).bind fun t416 => (if t416 = true then (if bt410.2.2 = 0 then (some (bt410.1 == 2)) else (some false)) else (some false))) else (some false)) else (some false)) else (some false))) = some r := H
 have A2 := xA.mk A20
 clear A20
 replace H := qw H
 obtain ⟨⟨t410, t411, t412⟩, A30, H⟩ := H
 replace H : (if t404 = 0 then (if (t402 == 9 && (t403 == 2)) = true then (if t407 = 0 then ((l5same.f k t406 (([5, 0] : List Int))).bind fun t416 => (if t416 = true then (if t412 = 0 then (some (t410 == 2)) else (some false)) else (some false))) else (some false)) else (some false)) else (some false)) = some r := H
 have A3 := xA.mk A30
 clear A30
 by_cases c4 : t404 = 0
 rotate_left
 ·
  rw [if_neg c4] at H
  have c4b0 : (t404 == 0) = false := jg c4
  exact absurd (H.trans (congrArg some hr_.out)) (by simp)
 rw [if_pos c4] at H
 have c4b0 : (t404 == 0) = true := beq_iff_eq.mpr c4
 clear c4
 by_cases c5 : (t402 == 9 && (t403 == 2)) = true
 rotate_left
 ·
  rw [if_neg c5] at H
  have c5b0 : (t402 == 9 && (t403 == 2)) = false := by simpa using c5
  (try (have c5b1 : decide (t402 = 9 && (t403 == 2)) = false := by simpa using c5))
  (try (have c5b2 : (t402 == 9 && (t403 == 2)) = false := by simpa using c5))
  (try (have c5b3 : ¬ (t402 = 9 && (t403 == 2)) := by simpa using c5))
  clear c5
  exact absurd (H.trans (congrArg some hr_.out)) (by simp)
 rw [if_pos c5] at H
 have c5b0 : (t402 == 9 && (t403 == 2)) = true := c5
 (try (have c5b1 : decide (t402 = 9 && (t403 == 2)) = true := by simpa using c5))
 (try (have c5b2 : (t402 == 9 && (t403 == 2)) = true := by simpa using c5))
 clear c5
 by_cases c6 : t407 = 0
 rotate_left
 ·
  rw [if_neg c6] at H
  have c6b0 : (t407 == 0) = false := jg c6
  exact absurd (H.trans (congrArg some hr_.out)) (by simp)
 rw [if_pos c6] at H
 have c6b0 : (t407 == 0) = true := beq_iff_eq.mpr c6
 clear c6
 obtain ⟨y413, hy413⟩ : ∃ y_ : List Int, y_ = (([5, 0] : List Int)) := ⟨_, rfl⟩
 replace H : ((l5same.f k t406 y413).bind fun t416 => (if t416 = true then (if t412 = 0 then (some (t410 == 2)) else (some false)) else (some false))) = some r := by first | (rw [hy413]; with_reducible exact H) | (have H2_ := (Option.bind_some _ _).symm.trans H; rw [hy413]; with_reducible exact H2_) | (have H2_ := (Option.bind_some _ _).symm.trans H; with_reducible exact H2_) | with_reducible exact H | (rw [hy413]; exact H) | exact H
 have Ny413 := xA.mk hy413
 clear hy413
 replace H := qw H
 obtain ⟨t416, A70, H⟩ := H
 replace H : (if t416 = true then (if t412 = 0 then (some (t410 == 2)) else (some false)) else (some false)) = some r := H
 have A7 := xA.mk A70
 clear A70
 by_cases c8 : t416 = true
 rotate_left
 ·
  replace c8 := Bool.eq_false_iff.mpr c8
  subst c8
  have H1 : (some false) = some r := by rw [if_neg (show ¬ (false = true) by decide)] at H; exact H
  clear H
  have H := H1
  clear H1
  exact absurd (H.trans (congrArg some hr_.out)) (by simp)
 subst c8
 have H1 : (if t412 = 0 then (some (t410 == 2)) else (some false)) = some r := by rw [if_pos rfl] at H; exact H
 clear H
 have H := H1
 clear H1
 obtain ⟨⟨c9b0, c9b1⟩, H⟩ | ⟨c9, ⟨c9b0, c9b1⟩, H⟩ := itn_or H
 rotate_left
 ·
  exact absurd (H.trans (congrArg some hr_.out)) (by simp)
 obtain rfl := qx H
 go_enter Try.func13, Try.ntmps13
 go_wp2_with (first | ((with_reducible refine xZ (N := 9) rfl ?_); (try (refine gate_guard (by rfl) ?_; dsimp only)); refine Kd.R_lit (Kd.int .i64) _ 3 ?hg (N := 9) ?hd (xs := ([3, 7] : List Int)) (inner := [.int .i64 3, .int .i64 7]) (ok := fun _ => True) (okp := fun _ => True) ?hr ?hp (fun _ hk => hk) trivial (Below.refl _ _) (Nat.le_refl _) (by simp) ?_; (case hd => rfl); (case hg => rfl); (case hr => first | (go_simp; done) | (go_simp; rfl)); (case hp => exact (Reps.one (show Kd.M (Kd.int .i64) _ _ _ 3 [.int .i64 3] from rfl) (Reps.one (show Kd.M (Kd.int .i64) _ _ _ 7 [.int .i64 7] from rfl) (Reps.none _ _)))); intro v394 w10 ho11 hb hg_ hnew_; clear hg_ hnew_; (first | rw [← Ny393.out] at ho11 | (simp only [Int.reduceToNat] at ho11; rw [← Ny393.out] at ho11)); have HO395 := xA.mk (Kd.R_lower ho11 (xB qa)); replace HB := xA.mk (xD qa hb); clear hb ho11) | ((with_reducible refine xZ (N := 10) rfl ?_); (try (refine gate_guard (by rfl) ?_; dsimp only)); refine Kd.R_lit (Kd.int .i64) _ 3 ?hg (N := 10) ?hd (xs := ([2, 4] : List Int)) (inner := [.int .i64 2, .int .i64 4]) (ok := fun _ => True) (okp := fun _ => True) ?hr ?hp (fun _ hk => hk) trivial (Below.refl _ _) (Nat.le_refl _) (by simp) ?_; (case hd => rfl); (case hg => rfl); (case hr => first | (go_simp; done) | (go_simp; rfl)); (case hp => exact (Reps.one (show Kd.M (Kd.int .i64) _ _ _ 2 [.int .i64 2] from rfl) (Reps.one (show Kd.M (Kd.int .i64) _ _ _ 4 [.int .i64 4] from rfl) (Reps.none _ _)))); intro v397 w12 ho13 hb hg_ hnew_; clear hg_ hnew_; (first | rw [← Ny396.out] at ho13 | (simp only [Int.reduceToNat] at ho13; rw [← Ny396.out] at ho13)); have HO398 := xA.mk (Kd.R_lower (Kd.R_new' ho13 (Kd.R_lt (qi HO395.out))) (xB qa)); replace HO395 := xA.mk (Kd.R_elder' (qi HO395.out) (Kd.R_base ho13) hb); replace HB := xA.mk (xD qa hb); clear hb ho13; obtain ⟨Ao14, co14, eo14⟩ := Kd.R_slice HO395.out; subst eo14; obtain ⟨Ao15, co15, eo15⟩ := Kd.R_slice HO398.out; subst eo15) | ((with_reducible refine xZ (N := 11) rfl ?_); (try (refine gate_guard (by rfl) ?_; dsimp only)); refine Kd.N_lit (Kd.slice 3 (Kd.int .i64)) _ 26 ?hg (N' := 11) ?hd (xs := ([y393, y396] : List (List Int))) (inner := [.slice Ao14 y393.length co14, .slice Ao15 y396.length co15]) (ok := (fun _ => True)) (okp := (fun _ => True)) ?hr ?hp (fun _ hk => hk) ((show ∀ k_, w12.heap.size ≤ k_ → (fun _ => True) k_ from fun k_ hk => trivial) _ (Nat.le_refl _)) (Below.refl _ _) (Nat.le_refl _) (by simp) ?_; (case hd => rfl); (case hg => rfl); (case hr => first | (go_simp; done) | (go_simp; rfl)); (case hp => exact (Reps.one (show Kd.FK (Kd.slice 3 (Kd.int .i64)) _ _ y393 [.slice Ao14 y393.length co14] from (Kd.FK_slice_mk (Kd.R_reads' (Kd.R_mono (ok' := (fun _ => True)) (HO395.out) (fun k_ hk => trivial))).2.1 (Kd.R_F (Kd.R_mono (ok' := (fun _ => True)) (HO395.out) (fun k_ hk => trivial))))) (Reps.one (show Kd.FK (Kd.slice 3 (Kd.int .i64)) _ _ y396 [.slice Ao15 y396.length co15] from (Kd.FK_slice_mk (Kd.R_reads' (Kd.R_mono (ok' := (fun _ => True)) (HO398.out) (fun k_ hk => trivial))).2.1 (Kd.R_F (Kd.R_mono (ok' := (fun _ => True)) (HO398.out) (fun k_ hk => trivial))))) (Reps.none _ _)))); intro v400 w16 ho17 hb hg_ hnew_; clear hg_ hnew_; (first | rw [← Ny399.out] at ho17 | (simp only [Int.reduceToNat] at ho17; rw [← Ny399.out] at ho17)); have n0_ := xA.mk (Kd.N_lower ho17 (xB qa)); have n1_ := xA.mk (xD qa hb); clear HB; clear HO395; clear HO398; have HO401 := n0_; have HB := n1_; clear n0_ n1_; clear hb ho17; obtain ⟨Ao18, co18, eo18⟩ := Kd.N_slice HO401.out; subst eo18) | ((with_reducible refine xG (f := 22) rfl ?_); refine xM (some 14) rfl rfl Try.func22 jk rfl #[.slice Ao18 y399.length co18] rfl qc ?_; (with_reducible refine (line_Speed.calls k _ _ y399 t402 t403 t404 _ ?side1 ?side2 A1.out).mono ?_); (case side1 => exact qm (Kd.xP HO401.out).2.2); (case side2 => exact (Kd.xP HO401.out).2.1); rintro e w19 ⟨rfl, hb⟩; refine ⟨_, rfl, ?_⟩; replace HO401 := xA.mk (Kd.N_below (qk HO401.out) hb); replace HB := xA.mk (xD qa hb); (try clear hb); (try clear hb2); (try clear hk); (try clear hi)) | ((with_reducible refine xZ (N := 2) rfl ?_); (try (refine gate_guard (by rfl) ?_; dsimp only)); refine yD ?hg (N := 2) ?hd (cs := #[.int .i64 0, .int .i64 0]) (t := 37) ?hr ?_; (case hd => rfl); (case hg => rfl); (case hr => first | (go_simp; done) | (go_simp; rfl)); intro gb405 hg w20 hbox hb; have n0_ := xA.mk (Kd.N_below (Kd.N_elderB (qk HO401.out) gb405 (Nat.le_of_eq hg.symm)) hb); have n1_ := xA.mk (xD qa hb); have n2_ := xA.mk (hbox); have n3_ := xA.mk ((by rw [hg]; exact (xB qa) : w.heap.size ≤ gb405)); have n4_ := xA.mk ((by rw [hg]; exact (xB qa) : w.heap.size ≤ gb405)); clear HO401; clear HB; have HO401 := n0_; have HB := n1_; have BK405 := n2_; have GW405 := n3_; have GE405 := n4_; clear n0_ n1_ n2_ n3_ n4_; clear hb hbox hg; have hcz21_0 : w20.cell? ⟨gb405, 0, none⟩ = some (.int .i64 0) := (xE BK405.out 0).trans rfl; have hcz21_1 : w20.cell? ⟨gb405, 1, none⟩ = some (.int .i64 0) := (xE BK405.out 1).trans rfl; have hfz21_0 := xC BK405.out 0; have hfz21_1 := xC BK405.out 1) | ((with_reducible refine xG (f := 15) rfl ?_); refine xM (some 19) rfl rfl Try.func15 jk rfl #[.slice Ao18 y399.length co18] rfl qc ?_; (with_reducible refine (line_Eigen.calls k _ _ y399 t406 t407 _ ?side1 ?side2 A2.out).mono ?_); (case side1 => refine (Kd.xP (e := 26) (base := w.heap.size) (ok := fun k_ => (True ∧ k_ ≠ gb405)) (n := y399.length) (c := co18) ?_).2.2; exact (by (with_reducible repeat (first | apply Kd.N_alloc | apply Kd.N_drewN | apply Kd.N_drew)); exact (Kd.N_mono (Kd.N_far (p := ⟨gb405, 1, none⟩) (Kd.N_far (p := ⟨gb405, 0, none⟩) (Kd.N_mono HO401.out (fun k_ hk => (⟨hk, hk.2⟩ : _ ∧ k_ ≠ gb405))) (fun _ hk => hk.2) (.int .i64 t402)) (fun _ hk => hk.2) (.int .i64 t403)) (fun _ h_ => h_.1)))); (case side2 => exact (Kd.xP HO401.out).2.1); rintro e w22 ⟨v408, rfl, ho0, hb⟩; refine ⟨_, rfl, ?_⟩; have n0_ := xA.mk (Kd.N_elder' (by (with_reducible repeat (first | apply Kd.N_alloc | apply Kd.N_drewN | apply Kd.N_drew)); exact (Kd.N_mono (Kd.N_far (p := ⟨gb405, 1, none⟩) (Kd.N_far (p := ⟨gb405, 0, none⟩) (Kd.N_mono HO401.out (fun k_ hk => (⟨hk, hk.2⟩ : _ ∧ k_ ≠ gb405))) (fun _ hk => hk.2) (.int .i64 t402)) (fun _ hk => hk.2) (.int .i64 t403)) (fun _ h_ => h_.1))) (Kd.R_base ho0) hb); have n1_ := xA.mk (Kd.R_lower ho0 (xB (qo GE405.out))); have n2_ := xA.mk (xO (g := gb405) (o := .cells #[.int .i64 t402, .int .i64 t403] 37 (0, 0)) (by (with_reducible repeat (first | refine xK ?_ _ | refine xI ?_ | refine xJ ?_ _)); refine xV (cs := #[.int .i64 t402, .int .i64 0]) ?_ 1 _ rfl; (with_reducible repeat (first | refine xK ?_ _ | refine xI ?_ | refine xJ ?_ _)); refine xV (cs := #[.int .i64 0, .int .i64 0]) ?_ 0 _ rfl; (with_reducible repeat (first | refine xK ?_ _ | refine xI ?_ | refine xJ ?_ _)); exact BK405.out) hb); have n3_ := xA.mk (xD (qo GE405.out) hb); clear HO401; clear BK405; clear HB; have HO401 := n0_; have HO409 := n1_; have BK405 := n2_; have HB := n3_; clear n0_ n1_ n2_ n3_; (try clear hb); (try clear hb2); (try clear hk); (try clear hi); (try clear ho0)) | ((with_reducible refine xG (f := 18) rfl ?_); refine xM (some 24) rfl rfl Try.func18 jk rfl #[.slice Ao18 y399.length co18] rfl qc ?_; (with_reducible refine (line_Regime.calls k _ _ y399 t410 t411 t412 _ ?side1 ?side2 A3.out).mono ?_); (case side1 => exact qm (Kd.xP HO401.out).2.2); (case side2 => exact (Kd.xP HO401.out).2.1); rintro e w23 ⟨rfl, hb⟩; refine ⟨_, rfl, ?_⟩; replace HO401 := xA.mk (Kd.N_below (qk HO401.out) hb); replace HO409 := xA.mk (Kd.R_below (qi HO409.out) hb); replace BK405 := xA.mk (xO (g := gb405) (o := .cells #[.int .i64 t402, .int .i64 t403] 37 (0, 0)) (qn BK405.out) hb); replace HB := xA.mk (xD (qo GE405.out) hb); (try clear hb); (try clear hb2); (try clear hk); (try clear hi); have hcz24_0 : w23.cell? ⟨gb405, 0, none⟩ = some (.int .i64 t402) := (xE BK405.out 0).trans rfl; have hcz24_1 : w23.cell? ⟨gb405, 1, none⟩ = some (.int .i64 t403) := (xE BK405.out 1).trans rfl; have hfz24_0 := xC BK405.out 0; have hfz24_1 := xC BK405.out 1) | ((with_reducible refine xZ (N := 41) rfl ?_); (try (refine gate_guard (by rfl) ?_; dsimp only)); refine Kd.R_lit (Kd.int .i64) _ 3 ?hg (N := 41) ?hd (xs := ([5, 0] : List Int)) (inner := [.int .i64 5, .int .i64 0]) (ok := fun _ => True) (okp := fun _ => True) ?hr ?hp (fun _ hk => hk) trivial (Below.refl _ _) (Nat.le_refl _) (by simp) ?_; (case hd => rfl); (case hg => rfl); (case hr => first | (go_simp; done) | (go_simp; rfl)); (case hp => exact (Reps.one (show Kd.M (Kd.int .i64) _ _ _ 5 [.int .i64 5] from rfl) (Reps.one (show Kd.M (Kd.int .i64) _ _ _ 0 [.int .i64 0] from rfl) (Reps.none _ _)))); intro v414 w25 ho26 hb hg_ hnew_; clear hg_ hnew_; (first | rw [← Ny413.out] at ho26 | (simp only [Int.reduceToNat] at ho26; rw [← Ny413.out] at ho26)); replace HO401 := xA.mk (Kd.N_elder' (qk HO401.out) (Kd.R_base ho26) hb); have HO415 := xA.mk (Kd.R_lower (Kd.R_new' ho26 (Kd.R_lt (qi HO409.out))) (xB (qo GE405.out))); replace HO409 := xA.mk (Kd.R_elder' (qi HO409.out) (Kd.R_base ho26) hb); replace BK405 := xA.mk (xO (g := gb405) (o := .cells #[.int .i64 t402, .int .i64 t403] 37 (0, 0)) (qn BK405.out) hb); replace HB := xA.mk (xD (qo GE405.out) hb); clear hb ho26; obtain ⟨Ao27, co27, eo27⟩ := Kd.R_slice HO409.out; subst eo27; obtain ⟨Ao28, co28, eo28⟩ := Kd.R_slice HO415.out; subst eo28) | (go_at_call 17; (with_reducible refine (l5same.calls k _ _ t406 _ _ y413 true _ ?side1 ?side2 ?side3 ?side4 A7.out).mono ?_); (case side1 => exact qm (Kd.R_reads' HO409.out).2.2); (case side2 => exact (Kd.R_reads' HO409.out).2.1); (case side3 => exact qm (Kd.R_reads' HO415.out).2.2); (case side4 => exact (Kd.R_reads' HO415.out).2.1); rintro e w' ⟨rfl, ⟨nd, rfl⟩⟩))
 go_ret
 exact ⟨qg, qo GE405.out⟩
set_option maxRecDepth 100000 in
theorem l5alive.yes : ∀ k r, l5alive.f k = some r → r = true := by
 intro k r h
 have h1 : l5alive.f 100 = some true := by decide +kernel
 have h2 := at_rounds l5alive.mono (Nat.le_max_left k 100) h
 have h3 := at_rounds l5alive.mono (Nat.le_max_right k 100) h1
 exact qx (h2.symm.trans h3)
theorem l5alive.calls (k : Nat)  (r : Bool) (w : World) (h : l5alive.f k  = some r) :
  Calls Try.prog 13 #[] w fun e w' => e = .returned (.bool r) ∧ Below w.heap.size w w' := l5alive.callsT k r w h ⟨l5alive.yes k r h⟩
end
def l5copied.l0 : Nat → List (List Int) → List (List Int) → Int → Option ((List (List Int)))
 | 0, _, _, _ => none
 | k + 1, x0, x3, x4 => if x4 < (x0.length : Int) then ((some (([] : List Int) : List Int)).bind fun y417 => (if 0 ≤ x4 then (if y417.length + (rd_L1 x0 x4).length < 17592186044416 then (if x3.length < 5864062014805 then (l5copied.l0 k x0 (x3 ++ [(y417 ++ (rd_L1 x0 x4))]) (wrap64 (x4 + 1))) else (none)) else (none)) else (none))) else (some x3)
def l5copied.f (k : Nat) (l0 : List (List Int)) : Option ((List (List Int))) := l5copied.l0 k l0 ([] : List (List Int)) 0
theorem l5copied.calls (k : Nat) (A0 : Option Addr) (c0 : Nat) (l0 : List (List Int)) (r : List (List Int)) (w : World) (hr0 : Kd.C (Kd.slice 3 (Kd.int .i64)) w A0 l0.length l0) (hc0 : l0.length ≤ c0) (h : l5copied.f k l0 = some r) :
  Calls Try.prog 14 #[.slice A0 l0.length c0] w fun e w' => ∃ v0_ : Value, e = .returned (v0_) ∧ Kd.S (Kd.slice 3 (Kd.int .i64)) 26 w' w.heap.size (fun _ => True) v0_ r ∧ Below w.heap.size w w' := by
 have HR0 := xA.mk hr0
 have HC0 := xA.mk hc0
 clear hr0 hc0
 have HB := xA.mk (Below.refl w.heap.size w)
 have H : (l5copied.l0 k l0 ([] : List (List Int)) 0) = some r := h
 clear h
 have H' := xA.mk H
 clear H
 go_enter Try.func14, Try.ntmps14
 go_wp2
 go_loopg [3, 4] k (fun kq v3 v4 w' => ∃ (x3_1 : List (List Int)) (x4_1 : Int), v4 = .int .i64 x4_1 ∧ xA (l5copied.l0 kq l0 x3_1 x4_1 = some r) ∧ xA (kq ≤ k) ∧ xA (Kd.S (Kd.slice 3 (Kd.int .i64)) 26 w' w.heap.size (fun _ => True) v3 x3_1) ∧ xA (Below w.heap.size w w'))
 case atStart => exact ⟨(([] : List (List Int))), (0), rfl, H', ⟨Nat.le_refl _⟩, ⟨by first | exact Kd.S_nil _ _ _ _ _ | exact Kd.N_nil _ _ _ _ _ | exact Kd.V_nil _ _ _ _ _ | exact Kd.Q_nil _ _ _ _ _ | exact Kd.R_nil _ _ _ _ _⟩, ⟨HB.out⟩⟩
 case round =>
  clear H'
  obtain ⟨x3_1, x4_1, rfl, HA, HK1, HO_3, HB⟩ := hrel
  obtain _ | k1 := gk
  · exact absurd HA.out (by simp [l5copied.l0])
  have H := HA.out
  clear HA
  simp only [l5copied.l0] at H
  obtain ⟨c2b0, H⟩ | ⟨c2b0, H⟩ := yA H
  rotate_left
  ·
   obtain rfl := qx H
   go_wp2
   go_ret
   exact ⟨_, rfl, by exact HO_3.out, HB.out⟩
  obtain ⟨y417, hy417⟩ : ∃ y_ : List Int, y_ = (([] : List Int)) := ⟨_, rfl⟩
  replace H : (if 0 ≤ x4_1 then (if y417.length + (rd_L1 l0 x4_1).length < 17592186044416 then (if x3_1.length < 5864062014805 then (l5copied.l0 k1 l0 (x3_1 ++ [(y417 ++ (rd_L1 l0 x4_1))]) (wrap64 (x4_1 + 1))) else (none)) else (none)) else (none)) = some r := by rw [hy417]; exact H
  have Ny417 := xA.mk hy417
  clear hy417
  obtain ⟨c3b0, H⟩ := xF H
  obtain ⟨c4, H⟩ := yF H
  have LMc4 := xA.mk c4
  clear c4
  obtain ⟨y421, hy421⟩ : ∃ y_ : List Int, y_ = (y417 ++ (rd_L1 l0 x4_1)) := ⟨_, rfl⟩
  replace H : (if x3_1.length < 5864062014805 then (l5copied.l0 k1 l0 (x3_1 ++ [y421]) (wrap64 (x4_1 + 1))) else (none)) = some r := by rw [hy421]; exact H
  have Ny421 := xA.mk hy421
  clear hy421
  obtain ⟨c5, H⟩ := yF H
  have LMc5 := xA.mk c5
  clear c5
  obtain ⟨y424, hy424⟩ : ∃ y_ : List (List Int), y_ = (x3_1 ++ [y421]) := ⟨_, rfl⟩
  replace H : (l5copied.l0 k1 l0 y424 (wrap64 (x4_1 + 1))) = some r := by rw [hy424]; exact H
  have Ny424 := xA.mk hy424
  clear hy424
  have H' := xA.mk H
  clear H
  go_wp2_with (first | ((with_reducible refine xZ (N := 12) rfl ?_); refine Kd.R_lit (Kd.int .i64) _ 3 ?hg (N := 12) ?hd (xs := ([] : List Int)) (inner := []) (ok := fun _ => True) (okp := fun _ => True) ?hr ?hp (fun _ hk => hk) trivial (Below.refl _ _) (Nat.le_refl _) (by simp) ?_; (case hd => rfl); (case hg => rfl); (case hr => go_simp); (case hp => exact (Reps.none _ _)); intro v418 w6 ho7 hb hg_ hnew_; clear hg_ hnew_; (first | rw [← Ny417.out] at ho7 | (simp only [Int.reduceToNat] at ho7; rw [← Ny417.out] at ho7)); replace HO_3 := xA.mk (Kd.S_elder' (by exact HO_3.out) (Kd.R_base ho7) hb); have HO419 := xA.mk (Kd.R_lower ho7 (xB (HB.out))); replace HB := xA.mk (xD (HB.out) hb); clear hb ho7; have p420 : 0 ≤ (x4_1 : Int) := qq; have q420 : x4_1 < (l0.length : Int) := qq; obtain ⟨ad420, A420_0, c420_0, e420, hx420_0, hl420_0, hi420_0⟩ := at_L1 HR0.out x4_1 p420 q420; cases e420; replace hx420_0 := (HB.out.cell (World.block_lt_of_cell? w _ hx420_0)).trans hx420_0; have HR420_0 := xA.mk hi420_0; have HC420_0 := xA.mk hl420_0; clear hi420_0 hl420_0; replace p420 := eq_true p420; replace q420 := eq_true q420) | ((with_reducible refine gate_builtin (b := .append) (xs := #[.tmp 12, .tmp 16]) rfl ?_); at_builtin; refine Kd.R_append_rows (Kd.int .i64) (w0 := w) w.heap.size rfl (.tmp 12) (.tmp 16) 26 3 (.int .i64 0) 8 rfl Try.underlying26 info3 rfl (by decide) jj v418 y417 (rd_L1 l0 x4_1) _ _ _ (fun _ => True) (fun _ => False) rfl rfl ?aO ?aR (fun _ _ h => h) (fun _ h => h.elim) ?aF ?aB ?aS ?aL ?_; (case aR => repeat (first | exact (Kd.xQ HR420_0.out HB.out))); (case aB => exact (HB.out)); (case aF => exact (fun _ _ => trivial)); (case aO => exact (by exact HO419.out)); (case aS => exact (xB (HB.out))); (case aL => have := LMc4.out; omega); intro v422 w8 ho hb hg hat; rw [← Ny421.out] at ho; have n0_ := xA.mk (Kd.S_after (ok := (fun _ => True)) (by exact HO_3.out) hg hat); have n1_ := xA.mk (hb); have n2_ := xA.mk (ho); clear HO_3; clear HB; clear HO419; have HO_3 := n0_; have HB := n1_; have HO423 := n2_; clear n0_ n1_ n2_; clear ho hb hg hat; obtain ⟨Ao10, co10, eo10⟩ := Kd.R_slice HO423.out; subst eo10) | ((with_reducible refine gate_builtin (b := .append) (xs := #[.tmp 11, .tmp 18]) rfl ?_); at_builtin; refine Kd.S_append (Kd.slice 3 (Kd.int .i64)) (w0 := w) w.heap.size rfl (.tmp 11) (.tmp 18) 22 26 (.slice none 0 0) 24 rfl Try.underlying22 info26 rfl (by decide) jj u3 x3_1 y421 [.slice Ao10 y421.length co10] (fun _ => True) (fun k_ => some k_ = (.slice Ao10 y421.length co10 : Value).ownBlock) rfl rfl ?aP (fun k_ hk_ => ((Kd.R_mono (ok' := fun k_ => ((fun _ => True)) k_ ∧ some k_ ≠ (u3 : Value).ownBlock) (Kd.R_apart' (HO423.out) (Kd.S_typed HO_3.out) (by decide)) (fun k_ hk => ⟨trivial, hk.2⟩))).1 k_ hk_.symm) ?aF ?aO ?aB ?aS ?aL ?_; (case aP => exact Kd.M_row (Kd.R_mono (Kd.R_tight rfl (Kd.R_mono (ok' := fun k_ => ((fun _ => True)) k_ ∧ some k_ ≠ (u3 : Value).ownBlock) (Kd.R_apart' (HO423.out) (Kd.S_typed HO_3.out) (by decide)) (fun k_ hk => ⟨trivial, hk.2⟩))) (fun _ h_ => h_))); (case aB => exact (HB.out)); (case aF => exact (fun _ _ => trivial)); (case aO => exact (by exact Kd.xT HO_3.out (fun k_ hk => ⟨trivial, fun e_ => hk.2 e_⟩))); (case aS => exact (xB (HB.out))); (case aL => have := LMc5.out; omega); intro v425 w9 ho hb hg hat; rw [← Ny424.out] at ho; have n0_ := xA.mk (hb); have n1_ := xA.mk (ho); clear HB; clear HO_3; clear HO423; have HB := n0_; have HO426 := n1_; clear n0_ n1_; clear ho hb hg hat))
  go_roundg k1
  case measure => have := HK1.out; omega
  case rel => exact ⟨(y424), (wrap64 (x4_1 + 1)), rfl, H', ⟨by have := HK1.out; omega⟩, ⟨by exact HO426.out⟩, ⟨HB.out⟩⟩
mutual
def r5Matrix.j0 : Nat → List (List Int) → Int → Bool → Option (Bool)
 | 0, _, _, _ => none
 | k + 1, x0, x3, x13 => if x13 = true then (some false) else (r5Matrix.l0 k x0 x3 0)
def r5Matrix.l0 : Nat → List (List Int) → Int → Int → Option (Bool)
 | 0, _, _, _ => none
 | k + 1, x0, x3, x4 => if x4 < x3 then (if 0 ≤ x4 then (if x4 < (x0.length : Int) then (if ((rd_L1 x0 x4).length : Int) = x3 then (r5Matrix.l1 k x0 x3 x4 0) else (some false)) else (none)) else (none)) else (some true)
def r5Matrix.l1 : Nat → List (List Int) → Int → Int → Int → Option (Bool)
 | 0, _, _, _, _ => none
 | k + 1, x0, x3, x4, x5 => if x5 < x3 then (if 0 ≤ x4 then (if x4 < (x0.length : Int) then (if 0 ≤ x5 then (if x5 < ((rd_L1 x0 x4).length : Int) then (if (rd (rd_L1 x0 x4) x5) = (-1152921504606846976) then (r5Matrix.l1 k x0 x3 x4 (wrap64 (x5 + 1))) else (if (rd (rd_L1 x0 x4) x5) < (-1000) then (some false) else (if (rd (rd_L1 x0 x4) x5) > 1000 then (some false) else (r5Matrix.l1 k x0 x3 x4 (wrap64 (x5 + 1)))))) else (none)) else (none)) else (none)) else (none)) else (r5Matrix.l0 k x0 x3 (wrap64 (x4 + 1)))
end
def r5Matrix.f (k : Nat) (l0 : List (List Int)) : Option (Bool) := if (l0.length : Int) < 1 then (r5Matrix.j0 k l0 (l0.length : Int) true) else (r5Matrix.j0 k l0 (l0.length : Int) (decide ((l0.length : Int) > 6)))
theorem r5Matrix.calls (k : Nat) (A0 : Option Addr) (c0 : Nat) (l0 : List (List Int)) (r : Bool) (w : World) (hr0 : Kd.C (Kd.slice 3 (Kd.int .i64)) w A0 l0.length l0) (hc0 : l0.length ≤ c0) (h : r5Matrix.f k l0 = some r) :
  Calls Try.prog 49 #[.slice A0 l0.length c0] w fun e w' => e = .returned (.bool r) ∧ Drawn0 w w' := by
 have HR0 := xA.mk hr0
 have HC0 := xA.mk hc0
 clear hr0 hc0
 have H : (if (l0.length : Int) < 1 then (r5Matrix.j0 k l0 (l0.length : Int) true) else (r5Matrix.j0 k l0 (l0.length : Int) (decide ((l0.length : Int) > 6)))) = some r := h
 clear h
 have HC2 := xA.mk H
 clear H
 go_enter Try.func49, Try.ntmps49
 go_upto_region 2 with (fail)
 go_cut [13] (fun v13 wc => ∃ (kq : Nat) (x13_1 : Bool), v13 = .bool x13_1 ∧ xA (r5Matrix.j0 kq l0 (l0.length : Int) x13_1 = some r) ∧ xA (kq ≤ k) ∧ Drawn0 w wc)
 case first =>
  have H := HC2.out
  clear HC2
  obtain ⟨c3b0, H⟩ | ⟨c3b0, H⟩ := yA H
  rotate_left
  ·
   (first | rw [c3b0] | skip)
   have H' := xA.mk H
   clear H
   go_wp2
   go_meet
   case rel => exact ⟨_, (decide ((l0.length : Int) > 6)), rfl, H', ⟨by first | omega | exact Nat.le_refl _⟩, qe⟩
  (first | rw [c3b0] | skip)
  have H' := xA.mk H
  clear H
  go_wp2
  go_meet
  case rel => exact ⟨_, (true), rfl, H', ⟨by first | omega | exact Nat.le_refl _⟩, qe⟩
 case rest =>
  clear HC2
  obtain ⟨kq, x13_1, rfl, HA, HJ1, ⟨mc1, rfl⟩⟩ := hcut
  obtain _ | kj1 := kq
  · exact absurd HA.out (by simp [r5Matrix.j0])
  have H := HA.out
  clear HA
  simp only [r5Matrix.j0] at H
  by_cases c4 : x13_1 = true
  ·
   subst c4
   have H1 : (some false) = some r := by rw [if_pos rfl] at H; exact H
   clear H
   have H := H1
   clear H1
   obtain rfl := qx H
   go_wp2
   go_ret
   exact ⟨qf, qe⟩
  replace c4 := Bool.eq_false_iff.mpr c4
  subst c4
  have H1 : (r5Matrix.l0 kj1 l0 (l0.length : Int) 0) = some r := by rw [if_neg (show ¬ (false = true) by decide)] at H; exact H
  clear H
  have H := H1
  clear H1
  have H' := xA.mk H
  clear H
  go_wp2
  go_loopg [4] kj1 (fun kq v4 w' => ∃ (x4_2 : Int), v4 = .int .i64 x4_2 ∧ xA (r5Matrix.l0 kq l0 (l0.length : Int) x4_2 = some r) ∧ xA (kq ≤ kj1) ∧ Drawn0 w w')
  case atStart => exact ⟨(0), rfl, H', ⟨Nat.le_refl _⟩, qe⟩
  case round =>
   clear H'
   obtain ⟨x4_2, rfl, HA, HK2, ⟨m2, rfl⟩⟩ := hrel
   obtain _ | k2 := gk
   · exact absurd HA.out (by simp [r5Matrix.l0])
   have H := HA.out
   clear HA
   simp only [r5Matrix.l0] at H
   obtain ⟨c5b0, H⟩ | ⟨c5b0, H⟩ := yA H
   rotate_left
   ·
    obtain rfl := qx H
    go_wp2
    go_ret
    exact ⟨qf, qe⟩
   obtain ⟨c6b0, H⟩ := xF H
   obtain ⟨c7b0, H⟩ := xF H
   by_cases c8 : ((rd_L1 l0 x4_2).length : Int) = (l0.length : Int)
   rotate_left
   ·
    rw [if_neg c8] at H
    have c8b0 : (((rd_L1 l0 x4_2).length : Int) == (l0.length : Int)) = false := jg c8
    have c8b2 : ((rd_L1 l0 x4_2).length == l0.length) = false := by first | simpa using c8 | (simp at c8 ⊢; omega)
    obtain rfl := qx H
    have p427 : 0 ≤ (x4_2 : Int) := qq
    have q427 : x4_2 < (l0.length : Int) := qq
    obtain ⟨ad427, A427_0, c427_0, e427, hx427_0, hl427_0, hi427_0⟩ := at_L1 HR0.out x4_2 p427 q427
    cases e427
    have HR427_0 := xA.mk hi427_0
    have HC427_0 := xA.mk hl427_0
    clear hi427_0 hl427_0
    replace p427 := eq_true p427
    replace q427 := eq_true q427
    go_wp2
    go_ret
    exact ⟨qf, qe⟩
   rw [if_pos c8] at H
   have c8b0 : (((rd_L1 l0 x4_2).length : Int) == (l0.length : Int)) = true := beq_iff_eq.mpr c8
   have c8b1 : (((rd_L1 l0 x4_2).length : Int) != (l0.length : Int)) = false := bne_eq_false_iff_eq.mpr c8
   have c8b2 : ((rd_L1 l0 x4_2).length == l0.length) = true := by first | simpa using c8 | (simp at c8 ⊢; omega)
   clear c8
   have H' := xA.mk H
   clear H
   have p427 : 0 ≤ (x4_2 : Int) := qr
   have q427 : x4_2 < (l0.length : Int) := qr
   obtain ⟨ad427, A427_0, c427_0, e427, hx427_0, hl427_0, hi427_0⟩ := at_L1 HR0.out x4_2 p427 q427
   cases e427
   have HR427_0 := xA.mk hi427_0
   have HC427_0 := xA.mk hl427_0
   clear hi427_0 hl427_0
   replace p427 := eq_true p427
   replace q427 := eq_true q427
   go_wp2
   go_loopg [5] k2 (fun kq v5 w' => ∃ (x5_3 : Int), v5 = .int .i64 x5_3 ∧ xA (r5Matrix.l1 kq l0 (l0.length : Int) x4_2 x5_3 = some r) ∧ xA (kq ≤ k2) ∧ Drawn0 w w')
   case atStart => exact ⟨(0), qf, H', ⟨Nat.le_refl _⟩, qe⟩
   case round =>
    clear H'
    try clear c1
    try clear p2
    try clear c3
    try clear c3b0
    try clear c3b1
    try clear c4
    try clear p4
    try clear q4
    try clear hx4
    try clear c5
    try clear c5b0
    try clear c6
    try clear c6b0
    try clear c7
    try clear c7b0
    try clear c8
    try clear c8b0
    try clear c8b1
    try clear c8b2
    try clear hx427_0
    try clear p2
    try clear p427
    try clear q427
    obtain ⟨x5_3, rfl, HA, HK3, ⟨m3, rfl⟩⟩ := hrel
    obtain _ | k3 := gk
    · exact absurd HA.out (by simp [r5Matrix.l1])
    have H := HA.out
    clear HA
    simp only [r5Matrix.l1] at H
    obtain ⟨c9b0, H⟩ | ⟨c9b0, H⟩ := yA H
    rotate_left
    ·
     have H' := xA.mk H
     clear H
     go_wp2
     go_roundg k3
     case measure => have := HJ1.out; have := HK2.out; have := HK3.out; omega
     case rel => exact ⟨(wrap64 (x4_2 + 1)), rfl, H', ⟨by have := HJ1.out; have := HK2.out; have := HK3.out; omega⟩, qe⟩
    obtain ⟨c10b0, H⟩ := xF H
    obtain ⟨c11b0, H⟩ := xF H
    obtain ⟨c12b0, H⟩ := xF H
    obtain ⟨c13b0, H⟩ := xF H
    obtain ⟨⟨c14b0, c14b1⟩, H⟩ | ⟨c14, ⟨c14b0, c14b1⟩, H⟩ := itn_or H
    ·
     have H' := xA.mk H
     clear H
     have p428 : 0 ≤ (x4_2 : Int) := qr
     have q428 : x4_2 < (l0.length : Int) := qr
     obtain ⟨ad428, A428_0, c428_0, e428, hx428_0, hl428_0, hi428_0⟩ := at_L1 HR0.out x4_2 p428 q428
     obtain rfl : ad427 = ad428 := (by injection e428)
     have HR428_0 := xA.mk hi428_0
     have HC428_0 := xA.mk hl428_0
     clear hi428_0 hl428_0
     replace p428 := eq_true p428
     replace q428 := eq_true q428
     have p429 : 0 ≤ (x5_3 : Int) := qr
     have q429 : x5_3 < ((rd_L1 l0 x4_2).length : Int) := qr
     obtain ⟨ad429, e429, hx429_0⟩ := Kd.xU HR428_0.out x5_3 p429 q429
     cases e429
     replace p429 := eq_true p429
     replace q429 := eq_true q429
     go_wp2
     go_roundg k3
     case measure => have := HJ1.out; have := HK2.out; have := HK3.out; omega
     case rel => exact ⟨(wrap64 (x5_3 + 1)), qf, H', ⟨by have := HJ1.out; have := HK2.out; have := HK3.out; omega⟩, qe⟩
    obtain ⟨c15b0, H⟩ | ⟨c15b0, H⟩ := yA H
    ·
     obtain rfl := qx H
     have p428 : 0 ≤ (x4_2 : Int) := qr
     have q428 : x4_2 < (l0.length : Int) := qr
     obtain ⟨ad428, A428_0, c428_0, e428, hx428_0, hl428_0, hi428_0⟩ := at_L1 HR0.out x4_2 p428 q428
     obtain rfl : ad427 = ad428 := (by injection e428)
     have HR428_0 := xA.mk hi428_0
     have HC428_0 := xA.mk hl428_0
     clear hi428_0 hl428_0
     replace p428 := eq_true p428
     replace q428 := eq_true q428
     have p429 : 0 ≤ (x5_3 : Int) := qr
     have q429 : x5_3 < ((rd_L1 l0 x4_2).length : Int) := qr
     obtain ⟨ad429, e429, hx429_0⟩ := Kd.xU HR428_0.out x5_3 p429 q429
     cases e429
     replace p429 := eq_true p429
     replace q429 := eq_true q429
     have p430 : 0 ≤ (x4_2 : Int) := qr
     have q430 : x4_2 < (l0.length : Int) := qr
     obtain ⟨ad430, A430_0, c430_0, e430, hx430_0, hl430_0, hi430_0⟩ := at_L1 HR0.out x4_2 p430 q430
     obtain rfl : ad427 = ad430 := (by injection e430)
     have HR430_0 := xA.mk hi430_0
     have HC430_0 := xA.mk hl430_0
     clear hi430_0 hl430_0
     replace p430 := eq_true p430
     replace q430 := eq_true q430
     have ea_ := qx (hx428_0.symm.trans hx430_0)
     injection ea_ with ea_ en_ ec_
     subst ea_
     subst ec_
     clear en_
     have p431 : 0 ≤ (x5_3 : Int) := qr
     have q431 : x5_3 < ((rd_L1 l0 x4_2).length : Int) := qr
     obtain ⟨ad431, e431, hx431_0⟩ := Kd.xU HR430_0.out x5_3 p431 q431
     cases e431
     replace p431 := eq_true p431
     replace q431 := eq_true q431
     go_wp2
     go_ret
     exact ⟨qf, qe⟩
    by_cases c16 : (rd (rd_L1 l0 x4_2) x5_3) > 1000
    ·
     rw [if_pos c16] at H
     have c16b0 : decide (1000 < (rd (rd_L1 l0 x4_2) x5_3)) = true := qu c16
     clear c16
     obtain rfl := qx H
     have p428 : 0 ≤ (x4_2 : Int) := qr
     have q428 : x4_2 < (l0.length : Int) := qr
     obtain ⟨ad428, A428_0, c428_0, e428, hx428_0, hl428_0, hi428_0⟩ := at_L1 HR0.out x4_2 p428 q428
     obtain rfl : ad427 = ad428 := (by injection e428)
     have HR428_0 := xA.mk hi428_0
     have HC428_0 := xA.mk hl428_0
     clear hi428_0 hl428_0
     replace p428 := eq_true p428
     replace q428 := eq_true q428
     have p429 : 0 ≤ (x5_3 : Int) := qr
     have q429 : x5_3 < ((rd_L1 l0 x4_2).length : Int) := qr
     obtain ⟨ad429, e429, hx429_0⟩ := Kd.xU HR428_0.out x5_3 p429 q429
     cases e429
     replace p429 := eq_true p429
     replace q429 := eq_true q429
     have p430 : 0 ≤ (x4_2 : Int) := qr
     have q430 : x4_2 < (l0.length : Int) := qr
     obtain ⟨ad430, A430_0, c430_0, e430, hx430_0, hl430_0, hi430_0⟩ := at_L1 HR0.out x4_2 p430 q430
     obtain rfl : ad427 = ad430 := (by injection e430)
     have HR430_0 := xA.mk hi430_0
     have HC430_0 := xA.mk hl430_0
     clear hi430_0 hl430_0
     replace p430 := eq_true p430
     replace q430 := eq_true q430
     have ea_ := qx (hx428_0.symm.trans hx430_0)
     injection ea_ with ea_ en_ ec_
     subst ea_
     subst ec_
     clear en_
     have p431 : 0 ≤ (x5_3 : Int) := qr
     have q431 : x5_3 < ((rd_L1 l0 x4_2).length : Int) := qr
     obtain ⟨ad431, e431, hx431_0⟩ := Kd.xU HR430_0.out x5_3 p431 q431
     cases e431
     replace p431 := eq_true p431
     replace q431 := eq_true q431
     have p432 : 0 ≤ (x4_2 : Int) := qr
     have q432 : x4_2 < (l0.length : Int) := qr
     obtain ⟨ad432, A432_0, c432_0, e432, hx432_0, hl432_0, hi432_0⟩ := at_L1 HR0.out x4_2 p432 q432
     obtain rfl : ad427 = ad432 := (by injection e432)
     have HR432_0 := xA.mk hi432_0
     have HC432_0 := xA.mk hl432_0
     clear hi432_0 hl432_0
     replace p432 := eq_true p432
     replace q432 := eq_true q432
     have ea_ := qx (hx428_0.symm.trans hx432_0)
     injection ea_ with ea_ en_ ec_
     subst ea_
     subst ec_
     clear en_
     have p433 : 0 ≤ (x5_3 : Int) := qr
     have q433 : x5_3 < ((rd_L1 l0 x4_2).length : Int) := qr
     obtain ⟨ad433, e433, hx433_0⟩ := Kd.xU HR432_0.out x5_3 p433 q433
     cases e433
     replace p433 := eq_true p433
     replace q433 := eq_true q433
     go_wp2
     go_ret
     exact ⟨qf, qe⟩
    rw [if_neg c16] at H
    have c16b0 : decide (1000 < (rd (rd_L1 l0 x4_2) x5_3)) = false := qv c16
    clear c16
    have H' := xA.mk H
    clear H
    have p428 : 0 ≤ (x4_2 : Int) := qr
    have q428 : x4_2 < (l0.length : Int) := qr
    obtain ⟨ad428, A428_0, c428_0, e428, hx428_0, hl428_0, hi428_0⟩ := at_L1 HR0.out x4_2 p428 q428
    obtain rfl : ad427 = ad428 := (by injection e428)
    have HR428_0 := xA.mk hi428_0
    have HC428_0 := xA.mk hl428_0
    clear hi428_0 hl428_0
    replace p428 := eq_true p428
    replace q428 := eq_true q428
    have p429 : 0 ≤ (x5_3 : Int) := qr
    have q429 : x5_3 < ((rd_L1 l0 x4_2).length : Int) := qr
    obtain ⟨ad429, e429, hx429_0⟩ := Kd.xU HR428_0.out x5_3 p429 q429
    cases e429
    replace p429 := eq_true p429
    replace q429 := eq_true q429
    have p430 : 0 ≤ (x4_2 : Int) := qr
    have q430 : x4_2 < (l0.length : Int) := qr
    obtain ⟨ad430, A430_0, c430_0, e430, hx430_0, hl430_0, hi430_0⟩ := at_L1 HR0.out x4_2 p430 q430
    obtain rfl : ad427 = ad430 := (by injection e430)
    have HR430_0 := xA.mk hi430_0
    have HC430_0 := xA.mk hl430_0
    clear hi430_0 hl430_0
    replace p430 := eq_true p430
    replace q430 := eq_true q430
    have ea_ := qx (hx428_0.symm.trans hx430_0)
    injection ea_ with ea_ en_ ec_
    subst ea_
    subst ec_
    clear en_
    have p431 : 0 ≤ (x5_3 : Int) := qr
    have q431 : x5_3 < ((rd_L1 l0 x4_2).length : Int) := qr
    obtain ⟨ad431, e431, hx431_0⟩ := Kd.xU HR430_0.out x5_3 p431 q431
    cases e431
    replace p431 := eq_true p431
    replace q431 := eq_true q431
    have p432 : 0 ≤ (x4_2 : Int) := qr
    have q432 : x4_2 < (l0.length : Int) := qr
    obtain ⟨ad432, A432_0, c432_0, e432, hx432_0, hl432_0, hi432_0⟩ := at_L1 HR0.out x4_2 p432 q432
    obtain rfl : ad427 = ad432 := (by injection e432)
    have HR432_0 := xA.mk hi432_0
    have HC432_0 := xA.mk hl432_0
    clear hi432_0 hl432_0
    replace p432 := eq_true p432
    replace q432 := eq_true q432
    have ea_ := qx (hx428_0.symm.trans hx432_0)
    injection ea_ with ea_ en_ ec_
    subst ea_
    subst ec_
    clear en_
    have p433 : 0 ≤ (x5_3 : Int) := qr
    have q433 : x5_3 < ((rd_L1 l0 x4_2).length : Int) := qr
    obtain ⟨ad433, e433, hx433_0⟩ := Kd.xU HR432_0.out x5_3 p433 q433
    cases e433
    replace p433 := eq_true p433
    replace q433 := eq_true q433
    go_wp2
    go_roundg k3
    case measure => have := HJ1.out; have := HK2.out; have := HK3.out; omega
    case rel => exact ⟨(wrap64 (x5_3 + 1)), qf, H', ⟨by have := HJ1.out; have := HK2.out; have := HK3.out; omega⟩, qe⟩
def r5has.l0 : Nat → List Int → Int → Int → Option (Bool)
 | 0, _, _, _ => none
 | k + 1, x0, x1, x5 => if x5 < (x0.length : Int) then (if 0 ≤ x5 then (if (rd x0 x5) = x1 then (some true) else (r5has.l0 k x0 x1 (wrap64 (x5 + 1)))) else (none)) else (some false)
def r5has.f (k : Nat) (l0 : List Int) (a1 : Int) : Option (Bool) := r5has.l0 k l0 a1 0
theorem r5has.calls (k : Nat) (A0 : Option Addr) (c0 : Nat) (l0 : List Int) (a1 : Int) (r : Bool) (w : World) (hr0 : Kd.C (Kd.int .i64) w A0 l0.length l0) (hc0 : l0.length ≤ c0) (h : r5has.f k l0 a1 = some r) :
  Calls Try.prog 85 #[.slice A0 l0.length c0, .int .i64 a1] w fun e w' => e = .returned (.bool r) ∧ Drawn0 w w' := by
 have HR0 := xA.mk hr0
 have HC0 := xA.mk hc0
 clear hr0 hc0
 have H : (r5has.l0 k l0 a1 0) = some r := h
 clear h
 have H' := xA.mk H
 clear H
 go_enter Try.func85, Try.ntmps85
 go_wp2
 go_loopg [5] k (fun kq v5 w' => ∃ (x5_1 : Int), v5 = .int .i64 x5_1 ∧ xA (r5has.l0 kq l0 a1 x5_1 = some r) ∧ xA (kq ≤ k) ∧ Drawn0 w w')
 case atStart => exact ⟨(0), rfl, H', ⟨Nat.le_refl _⟩, qe⟩
 case round =>
  clear H'
  obtain ⟨x5_1, rfl, HA, HK1, ⟨m1, rfl⟩⟩ := hrel
  obtain _ | k1 := gk
  · exact absurd HA.out (by simp [r5has.l0])
  have H := HA.out
  clear HA
  simp only [r5has.l0] at H
  obtain ⟨c3b0, H⟩ | ⟨c3b0, H⟩ := yA H
  rotate_left
  ·
   obtain rfl := qx H
   go_wp2
   go_ret
   exact ⟨qf, qe⟩
  obtain ⟨c4b0, H⟩ := xF H
  by_cases c5 : (rd l0 x5_1) = a1
  ·
   rw [if_pos c5] at H
   have c5b0 : ((rd l0 x5_1) == a1) = true := beq_iff_eq.mpr c5
   clear c5
   obtain rfl := qx H
   have p438 : 0 ≤ (x5_1 : Int) := qq
   have q438 : x5_1 < (l0.length : Int) := qq
   obtain ⟨ad438, e438, hx438_0⟩ := Kd.xU HR0.out x5_1 p438 q438
   cases e438
   replace p438 := eq_true p438
   replace q438 := eq_true q438
   go_wp2
   go_ret
   exact ⟨qf, qe⟩
  rw [if_neg c5] at H
  have c5b0 : ((rd l0 x5_1) == a1) = false := jg c5
  have H' := xA.mk H
  clear H
  have p438 : 0 ≤ (x5_1 : Int) := qq
  have q438 : x5_1 < (l0.length : Int) := qq
  obtain ⟨ad438, e438, hx438_0⟩ := Kd.xU HR0.out x5_1 p438 q438
  cases e438
  replace p438 := eq_true p438
  replace q438 := eq_true q438
  go_wp2
  go_roundg k1
  case measure => have := HK1.out; omega
  case rel => exact ⟨(wrap64 (x5_1 + 1)), rfl, H', ⟨by have := HK1.out; omega⟩, qe⟩
mutual
def r5cyclesFrom.l0 : Nat → List (List Int) → List Int → List (List Int) → Int → Int → Option ((List (List Int)))
 | 0, _, _, _, _, _ => none
 | k + 1, x0, x1, x5, x6, x7 => if x7 < (x0.length : Int) then (if 0 ≤ x7 then (if 0 ≤ x6 then (if x6 < ((rd_L1 x0 x7).length : Int) then (if (rd (rd_L1 x0 x7) x6) = (-1152921504606846976) then (r5cyclesFrom.l0 k x0 x1 x5 x6 (wrap64 (x7 + 1))) else (if ([] : List Int).length + x1.length < 17592186044416 then ((some (([] : List Int) ++ x1 : List Int)).bind fun y443 => (if 0 < (x1.length : Int) then (if x7 = (rd x1 0) then (if x5.length < 5864062014805 then (r5cyclesFrom.l0 k x0 x1 (x5 ++ [y443]) x6 (wrap64 (x7 + 1))) else (none)) else ((r5has.f k x1 x7).bind fun t450 => (if t450 = true then (r5cyclesFrom.l0 k x0 x1 x5 x6 (wrap64 (x7 + 1))) else (if y443.length < 17592186044416 then ((r5cyclesFrom.f k x0 (y443 ++ [x7])).bind fun t454 => (if x5.length + t454.length < 5864062014805 then (r5cyclesFrom.l0 k x0 x1 (x5 ++ t454) x6 (wrap64 (x7 + 1))) else (none))) else (none))))) else (none))) else (none))) else (none)) else (none)) else (none)) else (some x5)
def r5cyclesFrom.f : Nat → List (List Int) → List Int → Option ((List (List Int)))
 | 0, _, _ => none
 | k + 1, l0, l1 => if 0 ≤ (wrap64 ((l1.length : Int) - 1)) then (if (wrap64 ((l1.length : Int) - 1)) < (l1.length : Int) then (if 0 < (l1.length : Int) then (r5cyclesFrom.l0 k l0 l1 ([] : List (List Int)) (rd l1 (wrap64 ((l1.length : Int) - 1))) (rd l1 0)) else (none)) else (none)) else (none)
end
theorem r5cyclesFrom.calls (k : Nat) : ∀ (A0 : Option Addr) (c0 : Nat) (l0 : List (List Int)) (A1 : Option Addr) (c1 : Nat) (l1 : List Int) (r : List (List Int)) (w : World) (hr0 : Kd.C (Kd.slice 3 (Kd.int .i64)) w A0 l0.length l0) (hc0 : l0.length ≤ c0) (hr1 : Kd.C (Kd.int .i64) w A1 l1.length l1) (hc1 : l1.length ≤ c1) (h : r5cyclesFrom.f k l0 l1 = some r),
  Calls Try.prog 100 #[.slice A0 l0.length c0, .slice A1 l1.length c1] w fun e w' => ∃ v0_ : Value, e = .returned (v0_) ∧ Kd.N (Kd.slice 3 (Kd.int .i64)) 26 w' w.heap.size (fun k_ => (w.heap.size ≤ k_)) v0_ r ∧ Below w.heap.size w w' := by
 induction k using Nat.strongRecOn with
 | _ k ih =>
 intro A0 c0 l0 A1 c1 l1 r w hr0 hc0 hr1 hc1 h
 cases k with
 | zero => exact absurd h (by simp [r5cyclesFrom.f])
 | succ k =>
 simp only [r5cyclesFrom.f] at h
 have HR0 := xA.mk hr0
 have HC0 := xA.mk hc0
 clear hr0 hc0
 have HR1 := xA.mk hr1
 have HC1 := xA.mk hc1
 clear hr1 hc1
 have HB := xA.mk (Below.refl w.heap.size w)
 have H : (if 0 ≤ (wrap64 ((l1.length : Int) - 1)) then (if (wrap64 ((l1.length : Int) - 1)) < (l1.length : Int) then (if 0 < (l1.length : Int) then (r5cyclesFrom.l0 k l0 l1 ([] : List (List Int)) (rd l1 (wrap64 ((l1.length : Int) - 1))) (rd l1 0)) else (none)) else (none)) else (none)) = some r := h
 clear h
 obtain ⟨ji3, hji3⟩ : ∃ j_ : Int, (wrap64 ((l1.length : Int) - 1)) = j_ := ⟨_, rfl⟩
 replace H : (if 0 ≤ (ji3) then (if (ji3) < (l1.length : Int) then (if 0 < (l1.length : Int) then (r5cyclesFrom.l0 k l0 l1 ([] : List (List Int)) (rd l1 (ji3)) (rd l1 0)) else (none)) else (none)) else (none)) = some r := by first | (rw [hji3] at H; exact H) | (simp only [hji3] at H ⊢; exact H)
 have hji3w : (IntKind.i64.wrap ((l1.length : Int) - 1)) = ji3 := (i64_w _).trans hji3
 obtain ⟨c4b0, H⟩ := xF H
 obtain ⟨c5b0, H⟩ := xF H
 obtain ⟨c6b0, H⟩ := xF H
 have H' := xA.mk H
 clear H
 have p439 : 0 ≤ ((ji3) : Int) := qq
 have q439 : (ji3) < (l1.length : Int) := qq
 obtain ⟨ad439, e439, hx439_0⟩ := Kd.xU HR1.out (ji3) p439 q439
 cases e439
 replace p439 := eq_true p439
 replace q439 := eq_true q439
 have p440 : 0 ≤ (0 : Int) := jj
 have q440 : 0 < (l1.length : Int) := qq
 obtain ⟨ad440, e440, hx440_0⟩ := Kd.xU HR1.out 0 p440 q440
 obtain rfl : ad439 = ad440 := (by injection e440)
 have qi440 : (0 < l1.length) = True := eq_true jj
 (try rw [show ((0 : Int)).toNat = 0 from rfl] at hx440_0)
 (try rw [Addr.add_zero'] at hx440_0)
 replace p440 := eq_true p440
 replace q440 := eq_true q440
 go_enter Try.func100, Try.ntmps100
 go_wp2
 go_loopg [5, 7] k (fun kq v5 v7 w' => ∃ (x5_1 : List (List Int)) (x7_1 : Int), v7 = .int .i64 x7_1 ∧ xA (r5cyclesFrom.l0 kq l0 l1 x5_1 (rd l1 (ji3)) x7_1 = some r) ∧ xA (kq ≤ k) ∧ xA (Kd.N (Kd.slice 3 (Kd.int .i64)) 26 w' w.heap.size (fun k_ => (w.heap.size ≤ k_)) v5 x5_1) ∧ xA (Below w.heap.size w w'))
 case atStart => exact ⟨(([] : List (List Int))), (rd l1 0), rfl, H', ⟨Nat.le_refl _⟩, ⟨by first | exact Kd.S_nil _ _ _ _ _ | exact Kd.N_nil _ _ _ _ _ | exact Kd.V_nil _ _ _ _ _ | exact Kd.Q_nil _ _ _ _ _ | exact Kd.R_nil _ _ _ _ _⟩, ⟨HB.out⟩⟩
 case round =>
  clear H'
  obtain ⟨x5_1, x7_1, rfl, HA, HK1, HO_5, HB⟩ := hrel
  obtain _ | k1 := gk
  · exact absurd HA.out (by simp [r5cyclesFrom.l0])
  have H := HA.out
  clear HA
  simp only [r5cyclesFrom.l0] at H
  obtain ⟨c7b0, H⟩ | ⟨c7b0, H⟩ := yA H
  rotate_left
  ·
   obtain rfl := qx H
   go_wp2
   go_ret
   exact ⟨_, by first | rfl | (simp [errW_none, errW_some] <;> rfl) | (simp only [← hji3]; first | rfl | (simp [errW_none, errW_some] <;> rfl)) | (simp [*, errW_none, errW_some] <;> rfl), by exact HO_5.out, HB.out⟩
  obtain ⟨c8b0, H⟩ := xF H
  obtain ⟨c9b0, H⟩ := xF H
  obtain ⟨c10b0, H⟩ := xF H
  by_cases c11 : (rd (rd_L1 l0 x7_1) (rd l1 (ji3))) = (-1152921504606846976)
  ·
   rw [if_pos c11] at H
   have c11b0 : ((rd (rd_L1 l0 x7_1) (rd l1 (ji3))) == (-1152921504606846976)) = true := beq_iff_eq.mpr c11
   clear c11
   have H' := xA.mk H
   clear H
   have p441 : 0 ≤ (x7_1 : Int) := qq
   have q441 : x7_1 < (l0.length : Int) := qq
   obtain ⟨ad441, A441_0, c441_0, e441, hx441_0, hl441_0, hi441_0⟩ := at_L1 HR0.out x7_1 p441 q441
   cases e441
   replace hx441_0 := (HB.out.cell (World.block_lt_of_cell? w _ hx441_0)).trans hx441_0
   have HR441_0 := xA.mk hi441_0
   have HC441_0 := xA.mk hl441_0
   clear hi441_0 hl441_0
   replace p441 := eq_true p441
   replace q441 := eq_true q441
   have p442 : 0 ≤ ((rd l1 (ji3)) : Int) := qq
   have q442 : (rd l1 (ji3)) < ((rd_L1 l0 x7_1).length : Int) := qq
   obtain ⟨ad442, e442, hx442_0⟩ := Kd.xU HR441_0.out (rd l1 (ji3)) p442 q442
   cases e442
   replace hx442_0 := (HB.out.cell (World.block_lt_of_cell? w _ hx442_0)).trans hx442_0
   replace p442 := eq_true p442
   replace q442 := eq_true q442
   go_wp2
   go_roundg k1
   case measure => have := HK1.out; omega
   case rel => exact ⟨(x5_1), (wrap64 (x7_1 + 1)), rfl, H', ⟨by have := HK1.out; omega⟩, ⟨by exact HO_5.out⟩, ⟨HB.out⟩⟩
  rw [if_neg c11] at H
  have c11b0 : ((rd (rd_L1 l0 x7_1) (rd l1 (ji3))) == (-1152921504606846976)) = false := jg c11
  obtain ⟨c12, H⟩ := yF H
  have LMc12 := xA.mk c12
  clear c12
  obtain ⟨y443, hy443⟩ : ∃ y_ : List Int, y_ = (([] : List Int) ++ l1) := ⟨_, rfl⟩
  replace H : (if 0 < (l1.length : Int) then (if x7_1 = (rd l1 0) then (if x5_1.length < 5864062014805 then (r5cyclesFrom.l0 k1 l0 l1 (x5_1 ++ [y443]) (rd l1 (ji3)) (wrap64 (x7_1 + 1))) else (none)) else ((r5has.f k1 l1 x7_1).bind fun t450 => (if t450 = true then (r5cyclesFrom.l0 k1 l0 l1 x5_1 (rd l1 (ji3)) (wrap64 (x7_1 + 1))) else (if y443.length < 17592186044416 then ((r5cyclesFrom.f k1 l0 (y443 ++ [x7_1])).bind fun t454 => (if x5_1.length + t454.length < 5864062014805 then (r5cyclesFrom.l0 k1 l0 l1 (x5_1 ++ t454) (rd l1 (ji3)) (wrap64 (x7_1 + 1))) else (none))) else (none))))) else (none)) = some r := by rw [hy443]; exact H
  have Ny443 := xA.mk hy443
  clear hy443
  obtain ⟨c13b0, H⟩ := xF H
  by_cases c14 : x7_1 = (rd l1 0)
  ·
   rw [if_pos c14] at H
   have c14b0 : (x7_1 == (rd l1 0)) = true := beq_iff_eq.mpr c14
   clear c14
   obtain ⟨c15, H⟩ := yF H
   have LMc15 := xA.mk c15
   clear c15
   obtain ⟨y447, hy447⟩ : ∃ y_ : List (List Int), y_ = (x5_1 ++ [y443]) := ⟨_, rfl⟩
   replace H : (r5cyclesFrom.l0 k1 l0 l1 y447 (rd l1 (ji3)) (wrap64 (x7_1 + 1))) = some r := by rw [hy447]; exact H
   have Ny447 := xA.mk hy447
   clear hy447
   have H' := xA.mk H
   clear H
   have p441 : 0 ≤ (x7_1 : Int) := qq
   have q441 : x7_1 < (l0.length : Int) := qq
   obtain ⟨ad441, A441_0, c441_0, e441, hx441_0, hl441_0, hi441_0⟩ := at_L1 HR0.out x7_1 p441 q441
   cases e441
   replace hx441_0 := (HB.out.cell (World.block_lt_of_cell? w _ hx441_0)).trans hx441_0
   have HR441_0 := xA.mk hi441_0
   have HC441_0 := xA.mk hl441_0
   clear hi441_0 hl441_0
   replace p441 := eq_true p441
   replace q441 := eq_true q441
   have p442 : 0 ≤ ((rd l1 (ji3)) : Int) := qq
   have q442 : (rd l1 (ji3)) < ((rd_L1 l0 x7_1).length : Int) := qq
   obtain ⟨ad442, e442, hx442_0⟩ := Kd.xU HR441_0.out (rd l1 (ji3)) p442 q442
   cases e442
   replace hx442_0 := (HB.out.cell (World.block_lt_of_cell? w _ hx442_0)).trans hx442_0
   replace p442 := eq_true p442
   replace q442 := eq_true q442
   go_wp2_with (first | ((with_reducible refine gate_builtin (b := .append) (xs := #[.tmp 32, .tmp 33]) rfl ?_); at_builtin; refine Kd.R_append_rows (Kd.int .i64) (w0 := w) w.heap.size rfl (.tmp 32) (.tmp 33) 26 3 (.int .i64 0) 8 rfl Try.underlying26 info3 rfl (by decide) jj (.slice none 0 0) ([] : List Int) l1 _ _ _ (fun k_ => (w.heap.size ≤ k_)) (fun _ => False) rfl rfl ?aO ?aR (fun _ _ h => h) (fun _ h => h.elim) ?aF ?aB ?aS ?aL ?_; (case aR => repeat (first | exact (Kd.xQ HR1.out HB.out))); (case aB => exact (HB.out)); (case aF => exact (fun k_ hk => (Nat.le_trans (xB (HB.out)) hk))); (case aO => exact ((Kd.R_nil _ _ _ _ (fun k_ => (w.heap.size ≤ k_))))); (case aS => exact (xB (HB.out))); (case aL => have := LMc12.out; omega); intro v444 w16 ho hb hg hat; rw [← Ny443.out] at ho; replace HO_5 := xA.mk (Kd.N_afterv (Kd.N_apart_nil (by exact HO_5.out)) hg hat); replace HB := xA.mk (hb); have HO445 := xA.mk (ho); clear ho hb hg hat; have p446 : 0 ≤ (0 : Int) := jj; have q446 : 0 < (l1.length : Int) := qq; obtain ⟨ad446, e446, hx446_0⟩ := Kd.xU HR1.out 0 p446 q446; obtain rfl : ad439 = ad446 := (by injection e446); have qi446 : (0 < l1.length) = True := eq_true jj; (try rw [show ((0 : Int)).toNat = 0 from rfl] at hx446_0); (try rw [Addr.add_zero'] at hx446_0); replace hx446_0 := (HB.out.cell (World.block_lt_of_cell? w _ hx446_0)).trans hx446_0; replace p446 := eq_true p446; replace q446 := eq_true q446; obtain ⟨Ao18, co18, eo18⟩ := Kd.R_slice HO445.out; subst eo18) | ((with_reducible refine gate_builtin (b := .append) (xs := #[.tmp 40, .tmp 42]) rfl ?_); at_builtin; refine Kd.N_append (Kd.slice 3 (Kd.int .i64)) (w0 := w) w.heap.size rfl (.tmp 40) (.tmp 42) 22 26 (.slice none 0 0) 24 rfl Try.underlying22 info26 rfl (by decide) jj u5 x5_1 y443 [.slice Ao18 y443.length co18] (fun k_ => (w.heap.size ≤ k_)) (fun k_ => ((fun k_ => (w.heap.size ≤ k_))) k_ ∧ some k_ ≠ (u5 : Value).ownBlock) rfl rfl ?aP (fun _ hk => hk) ?aF ?aO ?aB ?aS ?aL ?_; (case aP => exact (Kd.FK_slice_mk (Kd.R_reads' (Kd.R_mono (ok' := (fun k_ => ((fun k_ => (w.heap.size ≤ k_))) k_ ∧ some k_ ≠ (u5 : Value).ownBlock)) (Kd.R_apart' (HO445.out) (Kd.N_typed HO_5.out) (by decide)) (fun k_ hk => ⟨hk.1, hk.2⟩))).2.1 (Kd.R_F (Kd.R_mono (ok' := (fun k_ => ((fun k_ => (w.heap.size ≤ k_))) k_ ∧ some k_ ≠ (u5 : Value).ownBlock)) (Kd.R_apart' (HO445.out) (Kd.N_typed HO_5.out) (by decide)) (fun k_ hk => ⟨hk.1, hk.2⟩))))); (case aB => exact (HB.out)); (case aF => exact (fun k_ hk => (Nat.le_trans (xB (HB.out)) hk))); (case aO => exact (by exact Kd.N_mono HO_5.out (fun _ hk => hk.1))); (case aS => exact (xB (HB.out))); (case aL => have := LMc15.out; omega); intro v448 w17 ho hb hg hat; rw [← Ny447.out] at ho; have n0_ := xA.mk (hb); have n1_ := xA.mk (ho); clear HB; clear HO_5; clear HO445; have HB := n0_; have HO449 := n1_; clear n0_ n1_; clear ho hb hg hat))
   go_roundg k1
   case measure => have := HK1.out; omega
   case rel => exact ⟨(y447), (wrap64 (x7_1 + 1)), rfl, H', ⟨by have := HK1.out; omega⟩, ⟨by exact HO449.out⟩, ⟨HB.out⟩⟩
  rw [if_neg c14] at H
  have c14b0 : (x7_1 == (rd l1 0)) = false := jg c14
  replace H := qw H
  obtain ⟨t450, A190, H⟩ := H
  replace H : (if t450 = true then (r5cyclesFrom.l0 k1 l0 l1 x5_1 (rd l1 (ji3)) (wrap64 (x7_1 + 1))) else (if y443.length < 17592186044416 then ((r5cyclesFrom.f k1 l0 (y443 ++ [x7_1])).bind fun t454 => (if x5_1.length + t454.length < 5864062014805 then (r5cyclesFrom.l0 k1 l0 l1 (x5_1 ++ t454) (rd l1 (ji3)) (wrap64 (x7_1 + 1))) else (none))) else (none))) = some r := H
  have A19 := xA.mk A190
  clear A190
  by_cases c20 : t450 = true
  ·
   subst c20
   have H1 : (r5cyclesFrom.l0 k1 l0 l1 x5_1 (rd l1 (ji3)) (wrap64 (x7_1 + 1))) = some r := by rw [if_pos rfl] at H; exact H
   clear H
   have H := H1
   clear H1
   have H' := xA.mk H
   clear H
   have p441 : 0 ≤ (x7_1 : Int) := qq
   have q441 : x7_1 < (l0.length : Int) := qq
   obtain ⟨ad441, A441_0, c441_0, e441, hx441_0, hl441_0, hi441_0⟩ := at_L1 HR0.out x7_1 p441 q441
   cases e441
   replace hx441_0 := (HB.out.cell (World.block_lt_of_cell? w _ hx441_0)).trans hx441_0
   have HR441_0 := xA.mk hi441_0
   have HC441_0 := xA.mk hl441_0
   clear hi441_0 hl441_0
   replace p441 := eq_true p441
   replace q441 := eq_true q441
   have p442 : 0 ≤ ((rd l1 (ji3)) : Int) := qq
   have q442 : (rd l1 (ji3)) < ((rd_L1 l0 x7_1).length : Int) := qq
   obtain ⟨ad442, e442, hx442_0⟩ := Kd.xU HR441_0.out (rd l1 (ji3)) p442 q442
   cases e442
   replace hx442_0 := (HB.out.cell (World.block_lt_of_cell? w _ hx442_0)).trans hx442_0
   replace p442 := eq_true p442
   replace q442 := eq_true q442
   go_wp2_with (first | ((with_reducible refine gate_builtin (b := .append) (xs := #[.tmp 32, .tmp 33]) rfl ?_); at_builtin; refine Kd.R_append_rows (Kd.int .i64) (w0 := w) w.heap.size rfl (.tmp 32) (.tmp 33) 26 3 (.int .i64 0) 8 rfl Try.underlying26 info3 rfl (by decide) jj (.slice none 0 0) ([] : List Int) l1 _ _ _ (fun k_ => (w.heap.size ≤ k_)) (fun _ => False) rfl rfl ?aO ?aR (fun _ _ h => h) (fun _ h => h.elim) ?aF ?aB ?aS ?aL ?_; (case aR => repeat (first | exact (Kd.xQ HR1.out HB.out))); (case aB => exact (HB.out)); (case aF => exact (fun k_ hk => (Nat.le_trans (xB (HB.out)) hk))); (case aO => exact ((Kd.R_nil _ _ _ _ (fun k_ => (w.heap.size ≤ k_))))); (case aS => exact (xB (HB.out))); (case aL => have := LMc12.out; omega); intro v444 w21 ho hb hg hat; rw [← Ny443.out] at ho; replace HO_5 := xA.mk (Kd.N_afterv (Kd.N_apart_nil (by exact HO_5.out)) hg hat); replace HB := xA.mk (hb); have HO445 := xA.mk (ho); clear ho hb hg hat; have p446 : 0 ≤ (0 : Int) := jj; have q446 : 0 < (l1.length : Int) := qq; obtain ⟨ad446, e446, hx446_0⟩ := Kd.xU HR1.out 0 p446 q446; obtain rfl : ad439 = ad446 := (by injection e446); have qi446 : (0 < l1.length) = True := eq_true jj; (try rw [show ((0 : Int)).toNat = 0 from rfl] at hx446_0); (try rw [Addr.add_zero'] at hx446_0); replace hx446_0 := (HB.out.cell (World.block_lt_of_cell? w _ hx446_0)).trans hx446_0; replace p446 := eq_true p446; replace q446 := eq_true q446) | ((with_reducible refine xG (f := 85) rfl ?_); refine xM (some 46) rfl rfl Try.func85 jk rfl #[.slice (some ad439) l1.length c1, .int .i64 x7_1] rfl qd ?_; (with_reducible refine (r5has.calls k1 _ _ l1 x7_1 true _ ?side1 ?side2 A19.out).mono ?_); (case side1 => repeat (first | exact (Kd.xQ HR1.out HB.out))); (case side2 => exact HC1.out); rintro e w' ⟨rfl, ⟨nd, rfl⟩⟩; refine ⟨_, rfl, ?_⟩))
   go_roundg k1
   case measure => have := HK1.out; omega
   case rel => exact ⟨(x5_1), (wrap64 (x7_1 + 1)), rfl, H', ⟨by have := HK1.out; omega⟩, ⟨by (with_reducible repeat (first | apply Kd.N_alloc | apply Kd.N_drewN | apply Kd.N_drew)); exact Kd.N_mono HO_5.out (fun _ hk => hk.1)⟩, ⟨qb⟩⟩
  replace c20 := Bool.eq_false_iff.mpr c20
  subst c20
  have H1 : (if y443.length < 17592186044416 then ((r5cyclesFrom.f k1 l0 (y443 ++ [x7_1])).bind fun t454 => (if x5_1.length + t454.length < 5864062014805 then (r5cyclesFrom.l0 k1 l0 l1 (x5_1 ++ t454) (rd l1 (ji3)) (wrap64 (x7_1 + 1))) else (none))) else (none)) = some r := by rw [if_neg (show ¬ (false = true) by decide)] at H; exact H
  clear H
  have H := H1
  clear H1
  obtain ⟨c22, H⟩ := yF H
  have LMc22 := xA.mk c22
  clear c22
  obtain ⟨y451, hy451⟩ : ∃ y_ : List Int, y_ = (y443 ++ [x7_1]) := ⟨_, rfl⟩
  replace H : ((r5cyclesFrom.f k1 l0 y451).bind fun t454 => (if x5_1.length + t454.length < 5864062014805 then (r5cyclesFrom.l0 k1 l0 l1 (x5_1 ++ t454) (rd l1 (ji3)) (wrap64 (x7_1 + 1))) else (none))) = some r := by rw [hy451]; exact H
  have Ny451 := xA.mk hy451
  clear hy451
  replace H := qw H
  obtain ⟨t454, A230, H⟩ := H
  replace H : (if x5_1.length + t454.length < 5864062014805 then (r5cyclesFrom.l0 k1 l0 l1 (x5_1 ++ t454) (rd l1 (ji3)) (wrap64 (x7_1 + 1))) else (none)) = some r := H
  have A23 := xA.mk A230
  clear A230
  obtain ⟨c24, H⟩ := yF H
  have LMc24 := xA.mk c24
  clear c24
  obtain ⟨y457, hy457⟩ : ∃ y_ : List (List Int), y_ = (x5_1 ++ t454) := ⟨_, rfl⟩
  replace H : (r5cyclesFrom.l0 k1 l0 l1 y457 (rd l1 (ji3)) (wrap64 (x7_1 + 1))) = some r := by first | (rw [hy457]; with_reducible exact H) | (have H2_ := (Option.bind_some _ _).symm.trans H; rw [hy457]; with_reducible exact H2_) | (have H2_ := (Option.bind_some _ _).symm.trans H; with_reducible exact H2_) | with_reducible exact H | (rw [hy457]; exact H) | exact H
  have Ny457 := xA.mk hy457
  clear hy457
  have H' := xA.mk H
  clear H
  have p441 : 0 ≤ (x7_1 : Int) := qr
  have q441 : x7_1 < (l0.length : Int) := qr
  obtain ⟨ad441, A441_0, c441_0, e441, hx441_0, hl441_0, hi441_0⟩ := at_L1 HR0.out x7_1 p441 q441
  cases e441
  replace hx441_0 := (HB.out.cell (World.block_lt_of_cell? w _ hx441_0)).trans hx441_0
  have HR441_0 := xA.mk hi441_0
  have HC441_0 := xA.mk hl441_0
  clear hi441_0 hl441_0
  replace p441 := eq_true p441
  replace q441 := eq_true q441
  have p442 : 0 ≤ ((rd l1 (ji3)) : Int) := qr
  have q442 : (rd l1 (ji3)) < ((rd_L1 l0 x7_1).length : Int) := qr
  obtain ⟨ad442, e442, hx442_0⟩ := Kd.xU HR441_0.out (rd l1 (ji3)) p442 q442
  cases e442
  replace hx442_0 := (HB.out.cell (World.block_lt_of_cell? w _ hx442_0)).trans hx442_0
  replace p442 := eq_true p442
  replace q442 := eq_true q442
  go_wp2_with (first | ((with_reducible refine gate_builtin (b := .append) (xs := #[.tmp 32, .tmp 33]) rfl ?_); at_builtin; refine Kd.R_append_rows (Kd.int .i64) (w0 := w) w.heap.size rfl (.tmp 32) (.tmp 33) 26 3 (.int .i64 0) 8 rfl Try.underlying26 info3 rfl (by decide) jj (.slice none 0 0) ([] : List Int) l1 _ _ _ (fun k_ => (w.heap.size ≤ k_)) (fun _ => False) rfl rfl ?aO ?aR (fun _ _ h => h) (fun _ h => h.elim) ?aF ?aB ?aS ?aL ?_; (case aR => exact qm (Kd.xQ HR1.out HB.out)); (case aB => exact qa); (case aF => exact (fun k_ hk => (Nat.le_trans (xB qa) hk))); (case aO => exact ((Kd.R_nil _ _ _ _ (fun k_ => (w.heap.size ≤ k_))))); (case aS => exact (xB qa)); (case aL => have := LMc12.out; omega); intro v444 w25 ho hb hg hat; rw [← Ny443.out] at ho; replace HO_5 := xA.mk (Kd.N_afterv (Kd.N_apart_nil (qk HO_5.out)) hg hat); replace HB := xA.mk (hb); have HO445 := xA.mk (ho); clear ho hb hg hat; have p446 : 0 ≤ (0 : Int) := jj; have q446 : 0 < (l1.length : Int) := qr; obtain ⟨ad446, e446, hx446_0⟩ := Kd.xU HR1.out 0 p446 q446; obtain rfl : ad439 = ad446 := (by injection e446); have qi446 : (0 < l1.length) = True := eq_true jj; (try rw [show ((0 : Int)).toNat = 0 from rfl] at hx446_0); (try rw [Addr.add_zero'] at hx446_0); replace hx446_0 := (HB.out.cell (World.block_lt_of_cell? w _ hx446_0)).trans hx446_0; replace p446 := eq_true p446; replace q446 := eq_true q446) | ((with_reducible refine xG (f := 85) rfl ?_); refine xM (some 46) rfl rfl Try.func85 jk rfl #[.slice (some ad439) l1.length c1, .int .i64 x7_1] rfl qc ?_; (with_reducible refine (r5has.calls k1 _ _ l1 x7_1 false _ ?side1 ?side2 A19.out).mono ?_); (case side1 => exact qm (Kd.xQ HR1.out HB.out)); (case side2 => exact HC1.out); rintro e w' ⟨rfl, ⟨nd, rfl⟩⟩; refine ⟨_, rfl, ?_⟩) | ((with_reducible refine gate_builtin (b := .append) (xs := #[.tmp 50, .tmp 52]) rfl ?_); at_builtin; refine Kd.R_append (Kd.int .i64) (w0 := w) w.heap.size rfl (.tmp 50) (.tmp 52) 26 3 (.int .i64 0) 8 rfl Try.underlying26 info3 rfl (by decide) jj v444 y443 x7_1 [.int .i64 x7_1] (fun k_ => (w.heap.size ≤ k_)) (fun _ => False) rfl rfl ?aP (fun _ hk => hk.elim) ?aF ?aO ?aB ?aS ?aL ?_; (case aP => exact rfl); (case aB => exact qa); (case aF => exact (fun k_ hk => (Nat.le_trans (xB qa) hk))); (case aO => exact (qi HO445.out)); (case aS => exact (xB qa)); (case aL => have := LMc22.out; omega); intro v452 w26 ho hb hg hat; rw [← Ny451.out] at ho; have n0_ := xA.mk (Kd.N_afterv (ok := (fun k_ => (w.heap.size ≤ k_))) (qk HO_5.out) hg hat); have n1_ := xA.mk (hb); have n2_ := xA.mk (ho); clear HO_5; clear HB; clear HO445; have HO_5 := n0_; have HB := n1_; have HO453 := n2_; clear n0_ n1_ n2_; clear ho hb hg hat; obtain ⟨Ao27, co27, eo27⟩ := Kd.R_slice HO453.out; subst eo27) | ((with_reducible refine xG (f := 100) rfl ?_); refine xM (some 54) rfl rfl Try.func100 jk rfl #[.slice (some ad441) l0.length c0, .slice Ao27 y451.length co27] rfl qc ?_; (with_reducible refine (ih k1 (by have := HK1.out; omega) _ _ l0 _ _ y451 t454 _ ?side1 ?side2 ?side3 ?side4 A23.out).mono ?_); (case side1 => exact qm (Kd.xQ HR0.out HB.out)); (case side2 => exact HC0.out); (case side3 => exact qm (Kd.R_reads' HO453.out).2.2); (case side4 => exact (Kd.R_reads' HO453.out).2.1); rintro e w28 ⟨v455, rfl, ho0, hb⟩; refine ⟨_, rfl, ?_⟩; have HO456 := xA.mk (Kd.N_lower (Kd.N_mono (ok' := fun k_ => (w.heap.size ≤ k_) ∧ some k_ ≠ (u5 : Value).ownBlock ∧ some k_ ≠ (.slice Ao27 y451.length co27 : Value).ownBlock) ho0 (fun k_ hk_ => ⟨(Nat.le_trans (xB qa) hk_), (Kd.fresh' (Kd.N_lt (qk HO_5.out)) k_ hk_), (Kd.fresh' (Kd.R_lt (qi HO453.out)) k_ hk_)⟩)) (xB qa)); replace HO_5 := xA.mk (Kd.N_elder' (qk HO_5.out) (Kd.N_base ho0) hb); replace HO453 := xA.mk (Kd.R_below (qi HO453.out) hb); replace HB := xA.mk (xD qa hb); (try clear hb); (try clear hb2); (try clear hk); (try clear hi); (try clear ho0); obtain ⟨Ao30, co30, eo30⟩ := Kd.N_slice HO456.out; subst eo30) | ((with_reducible refine gate_builtin (b := .append) (xs := #[.tmp 48, .tmp 54]) rfl ?_); at_builtin; refine Kd.N_append_rows (Kd.slice 3 (Kd.int .i64)) (w0 := w) w.heap.size rfl (.tmp 48) (.tmp 54) 22 26 (.slice none 0 0) 24 rfl Try.underlying22 info26 rfl (by decide) jj u5 x5_1 t454 _ _ _ (fun k_ => (w.heap.size ≤ k_) ∧ some k_ ≠ (.slice Ao27 y451.length co27 : Value).ownBlock) (fun k_ => ((fun k_ => (w.heap.size ≤ k_) ∧ some k_ ≠ (.slice Ao27 y451.length co27 : Value).ownBlock)) k_ ∧ some k_ ≠ (u5 : Value).ownBlock) rfl rfl ?aO ?aR (fun _ hk => hk) ?aF ?aB ?aS ?aL ?_; (case aR => exact (by skip; exact Kd.N_F (Kd.N_mono (ok' := (fun k_ => ((fun k_ => (w.heap.size ≤ k_) ∧ some k_ ≠ (.slice Ao27 y451.length co27 : Value).ownBlock)) k_ ∧ some k_ ≠ (u5 : Value).ownBlock)) (HO456.out) (fun k_ hk => ⟨⟨hk.1, hk.2.2⟩, hk.2.1⟩)))); (case aB => exact qa); (case aF => exact (fun k_ hk => ⟨(Nat.le_trans (xB qa) hk), Kd.fresh' (Kd.R_lt (qi HO453.out)) k_ hk⟩)); (case aO => exact (by (with_reducible repeat (first | apply Kd.N_alloc | apply Kd.N_drewN | apply Kd.N_drew)); exact Kd.N_mono HO_5.out (fun _ hk => ⟨hk.1.1, hk.1.2⟩))); (case aS => exact (xB qa)); (case aL => have := LMc24.out; omega); intro v458 w29 ho hb hg hat; rw [← Ny457.out] at ho; have n0_ := xA.mk (Kd.R_over' (qi HO453.out) (Kd.N_typed (qk HO_5.out)) (by decide) hg); have n1_ := xA.mk (Kd.N_afterv (ok := (fun k_ => (w.heap.size ≤ k_) ∧ some k_ ≠ (.slice Ao27 y451.length co27 : Value).ownBlock)) (by (with_reducible repeat (first | apply Kd.N_alloc | apply Kd.N_drewN | apply Kd.N_drew)); exact Kd.N_mono HO456.out (fun _ hk => ⟨⟨hk.1, hk.2.2⟩, hk.2.1⟩)) hg hat); have n2_ := xA.mk (hb); have n3_ := xA.mk (ho); clear HO453; clear HO456; clear HB; clear HO_5; have HO453 := n0_; have HO456 := n1_; have HB := n2_; have HO459 := n3_; clear n0_ n1_ n2_ n3_; clear ho hb hg hat))
  go_roundg k1
  case measure => have := HK1.out; omega
  case rel => exact ⟨(y457), (wrap64 (x7_1 + 1)), qf, H', ⟨by have := HK1.out; omega⟩, ⟨by (with_reducible repeat (first | apply Kd.N_alloc | apply Kd.N_drewN | apply Kd.N_drew)); exact Kd.N_mono HO459.out (fun _ hk => hk.1)⟩, ⟨qa⟩⟩
def r5Cycles.l0 : Nat → List (List Int) → List (List Int) → Int → Option ((List (List Int)))
 | 0, _, _, _ => none
 | k + 1, x0, x3, x4 => if x4 < (x0.length : Int) then ((r5cyclesFrom.f k x0 (([x4] : List Int))).bind fun t463 => (if x3.length + t463.length < 5864062014805 then (r5Cycles.l0 k x0 (x3 ++ t463) (wrap64 (x4 + 1))) else (none))) else (some x3)
def r5Cycles.f (k : Nat) (l0 : List (List Int)) : Option ((List (List Int))) := r5Cycles.l0 k l0 ([] : List (List Int)) 0
theorem r5Cycles.calls (k : Nat) (A0 : Option Addr) (c0 : Nat) (l0 : List (List Int)) (r : List (List Int)) (w : World) (hr0 : Kd.C (Kd.slice 3 (Kd.int .i64)) w A0 l0.length l0) (hc0 : l0.length ≤ c0) (h : r5Cycles.f k l0 = some r) :
  Calls Try.prog 86 #[.slice A0 l0.length c0] w fun e w' => ∃ v0_ : Value, e = .returned (v0_) ∧ Kd.N (Kd.slice 3 (Kd.int .i64)) 26 w' w.heap.size (fun k_ => (w.heap.size ≤ k_)) v0_ r ∧ Below w.heap.size w w' := by
 have HR0 := xA.mk hr0
 have HC0 := xA.mk hc0
 clear hr0 hc0
 have HB := xA.mk (Below.refl w.heap.size w)
 have H : (r5Cycles.l0 k l0 ([] : List (List Int)) 0) = some r := h
 clear h
 have H' := xA.mk H
 clear H
 go_enter Try.func86, Try.ntmps86
 go_wp2
 go_loopg [3, 4] k (fun kq v3 v4 w' => ∃ (x3_1 : List (List Int)) (x4_1 : Int), v4 = .int .i64 x4_1 ∧ xA (r5Cycles.l0 kq l0 x3_1 x4_1 = some r) ∧ xA (kq ≤ k) ∧ xA (Kd.N (Kd.slice 3 (Kd.int .i64)) 26 w' w.heap.size (fun k_ => (w.heap.size ≤ k_)) v3 x3_1) ∧ xA (Below w.heap.size w w'))
 case atStart => exact ⟨(([] : List (List Int))), (0), rfl, H', ⟨Nat.le_refl _⟩, ⟨by first | exact Kd.S_nil _ _ _ _ _ | exact Kd.N_nil _ _ _ _ _ | exact Kd.V_nil _ _ _ _ _ | exact Kd.Q_nil _ _ _ _ _ | exact Kd.R_nil _ _ _ _ _⟩, ⟨HB.out⟩⟩
 case round =>
  clear H'
  obtain ⟨x3_1, x4_1, rfl, HA, HK1, HO_3, HB⟩ := hrel
  obtain _ | k1 := gk
  · exact absurd HA.out (by simp [r5Cycles.l0])
  have H := HA.out
  clear HA
  simp only [r5Cycles.l0] at H
  obtain ⟨c2b0, H⟩ | ⟨c2b0, H⟩ := yA H
  rotate_left
  ·
   obtain rfl := qx H
   go_wp2
   go_ret
   exact ⟨_, rfl, by exact HO_3.out, HB.out⟩
  obtain ⟨y460, hy460⟩ : ∃ y_ : List Int, y_ = (([x4_1] : List Int)) := ⟨_, rfl⟩
  replace H : ((r5cyclesFrom.f k1 l0 y460).bind fun t463 => (if x3_1.length + t463.length < 5864062014805 then (r5Cycles.l0 k1 l0 (x3_1 ++ t463) (wrap64 (x4_1 + 1))) else (none))) = some r := by rw [hy460]; exact H
  have Ny460 := xA.mk hy460
  clear hy460
  replace H := qw H
  obtain ⟨t463, A30, H⟩ := H
  replace H : (if x3_1.length + t463.length < 5864062014805 then (r5Cycles.l0 k1 l0 (x3_1 ++ t463) (wrap64 (x4_1 + 1))) else (none)) = some r := H
  have A3 := xA.mk A30
  clear A30
  obtain ⟨c4, H⟩ := yF H
  have LMc4 := xA.mk c4
  clear c4
  obtain ⟨y466, hy466⟩ : ∃ y_ : List (List Int), y_ = (x3_1 ++ t463) := ⟨_, rfl⟩
  replace H : (r5Cycles.l0 k1 l0 y466 (wrap64 (x4_1 + 1))) = some r := by rw [hy466]; exact H
  have Ny466 := xA.mk hy466
  clear hy466
  have H' := xA.mk H
  clear H
  go_wp2_with (first | ((with_reducible refine xZ (N := 14) rfl ?_); refine Kd.R_lit (Kd.int .i64) _ 3 ?hg (N := 14) ?hd (xs := ([x4_1] : List Int)) (inner := [.int .i64 x4_1]) (ok := fun _ => True) (okp := fun _ => True) ?hr ?hp (fun _ hk => hk) trivial (Below.refl _ _) (Nat.le_refl _) (by simp) ?_; (case hd => rfl); (case hg => rfl); (case hr => go_simp); (case hp => exact (Reps.one (show Kd.M (Kd.int .i64) _ _ _ x4_1 [.int .i64 x4_1] from rfl) (Reps.none _ _))); intro v461 w5 ho6 hb hg_ hnew_; clear hg_ hnew_; (first | rw [← Ny460.out] at ho6 | (simp only [Int.reduceToNat] at ho6; rw [← Ny460.out] at ho6)); replace HO_3 := xA.mk (Kd.N_elder' (by exact HO_3.out) (Kd.R_base ho6) hb); have HO462 := xA.mk (Kd.R_lower (Kd.R_newM (M := fun k_ => (w.heap.size ≤ k_)) ho6 (xB (HB.out)) (fun k_ h_ => h_)) (xB (HB.out))); replace HB := xA.mk (xD (HB.out) hb); clear hb ho6; obtain ⟨Ao7, co7, eo7⟩ := Kd.R_slice HO462.out; subst eo7) | ((with_reducible refine xG (f := 100) rfl ?_); refine xM (some 15) rfl rfl Try.func100 jk rfl #[.slice A0 l0.length c0, .slice Ao7 y460.length co7] rfl qd ?_; (with_reducible refine (r5cyclesFrom.calls k1 _ _ l0 _ _ y460 t463 _ ?side1 ?side2 ?side3 ?side4 A3.out).mono ?_); (case side1 => repeat (first | exact (Kd.xQ HR0.out HB.out))); (case side2 => exact HC0.out); (case side3 => repeat (first | exact (Kd.R_reads' HO462.out).2.2)); (case side4 => exact (Kd.R_reads' HO462.out).2.1); rintro e w8 ⟨v464, rfl, ho0, hb⟩; refine ⟨_, rfl, ?_⟩; have HO465 := xA.mk (Kd.N_lower (Kd.N_mono (ok' := fun k_ => (w.heap.size ≤ k_) ∧ some k_ ≠ (u3 : Value).ownBlock ∧ some k_ ≠ (.slice Ao7 y460.length co7 : Value).ownBlock) ho0 (fun k_ hk_ => ⟨(Nat.le_trans (xB (HB.out)) hk_), (Kd.fresh' (Kd.N_lt (by exact HO_3.out)) k_ hk_), (Kd.fresh' (Kd.R_lt (by exact HO462.out)) k_ hk_)⟩)) (xB (HB.out))); replace HO_3 := xA.mk (Kd.N_elder' (by exact HO_3.out) (Kd.N_base ho0) hb); replace HO462 := xA.mk (Kd.R_below (by exact HO462.out) hb); replace HB := xA.mk (xD (HB.out) hb); obtain ⟨Ao10, co10, eo10⟩ := Kd.N_slice HO465.out; subst eo10) | ((with_reducible refine gate_builtin (b := .append) (xs := #[.tmp 11, .tmp 15]) rfl ?_); at_builtin; refine Kd.N_append_rows (Kd.slice 3 (Kd.int .i64)) (w0 := w) w.heap.size rfl (.tmp 11) (.tmp 15) 22 26 (.slice none 0 0) 24 rfl Try.underlying22 info26 rfl (by decide) jj u3 x3_1 t463 _ _ _ (fun k_ => (w.heap.size ≤ k_) ∧ some k_ ≠ (.slice Ao7 y460.length co7 : Value).ownBlock) (fun k_ => ((fun k_ => (w.heap.size ≤ k_) ∧ some k_ ≠ (.slice Ao7 y460.length co7 : Value).ownBlock)) k_ ∧ some k_ ≠ (u3 : Value).ownBlock) rfl rfl ?aO ?aR (fun _ hk => hk) ?aF ?aB ?aS ?aL ?_; (case aR => exact (by skip; exact Kd.N_F (Kd.N_mono (ok' := (fun k_ => ((fun k_ => (w.heap.size ≤ k_) ∧ some k_ ≠ (.slice Ao7 y460.length co7 : Value).ownBlock)) k_ ∧ some k_ ≠ (u3 : Value).ownBlock)) (HO465.out) (fun k_ hk => ⟨⟨hk.1, hk.2.2⟩, hk.2.1⟩)))); (case aB => exact (HB.out)); (case aF => exact (fun k_ hk => ⟨(Nat.le_trans (xB (HB.out)) hk), Kd.fresh' (Kd.R_lt (by exact HO462.out)) k_ hk⟩)); (case aO => exact (by exact Kd.N_mono HO_3.out (fun _ hk => ⟨hk.1.1, hk.1.2⟩))); (case aS => exact (xB (HB.out))); (case aL => have := LMc4.out; omega); intro v467 w9 ho hb hg hat; rw [← Ny466.out] at ho; have n0_ := xA.mk (Kd.R_over' (by exact HO462.out) (Kd.N_typed (by exact HO_3.out)) (by decide) hg); have n1_ := xA.mk (Kd.N_afterv (ok := (fun k_ => (w.heap.size ≤ k_) ∧ some k_ ≠ (.slice Ao7 y460.length co7 : Value).ownBlock)) (by exact Kd.N_mono HO465.out (fun _ hk => ⟨⟨hk.1, hk.2.2⟩, hk.2.1⟩)) hg hat); have n2_ := xA.mk (hb); have n3_ := xA.mk (ho); clear HO462; clear HO465; clear HB; clear HO_3; have HO462 := n0_; have HO465 := n1_; have HB := n2_; have HO468 := n3_; clear n0_ n1_ n2_ n3_; clear ho hb hg hat))
  go_roundg k1
  case measure => have := HK1.out; omega
  case rel => exact ⟨(y466), (wrap64 (x4_1 + 1)), rfl, H', ⟨by have := HK1.out; omega⟩, ⟨by exact Kd.N_mono HO468.out (fun _ hk => hk.1)⟩, ⟨HB.out⟩⟩
theorem cyclesFrom_some : ∀ k, (∀ l0 l1 r, r5cyclesFrom.f k l0 l1 = some r → ∀ x ∈ r, x ≠ []) ∧ (∀ x0 x1 x5 x6 x7 r, x1 ≠ [] → (∀ x ∈ x5, x ≠ []) → r5cyclesFrom.l0 k x0 x1 x5 x6 x7 = some r → ∀ x ∈ r, x ≠ [])
 | 0 => ⟨fun _ _ _ h => by simp [r5cyclesFrom.f] at h, fun _ _ _ _ _ _ _ _ h => by simp [r5cyclesFrom.l0] at h⟩
 | k + 1 => by
  obtain ⟨ih1, ih2⟩ := cyclesFrom_some k
  have app : ∀ {a b : List (List Int)}, (∀ x ∈ a, x ≠ []) → (∀ x ∈ b, x ≠ []) → ∀ x ∈ a ++ b, x ≠ [] := by
   intro a b ha hb x hx
   rcases List.mem_append.1 hx with h | h
   ·
    exact ha x h
   ·
    exact hb x h
  refine ⟨fun l0 l1 r h => ?_, fun x0 x1 x5 x6 x7 r h1 h5 h => ?_⟩
  ·
   rw [r5cyclesFrom.f] at h
   split at h
   ·
    split at h
    ·
     split at h
     ·
      rename_i hp
      exact ih2 _ _ _ _ _ _ (fun e => by rw [e] at hp; simp at hp) (fun x hx => by cases hx) h
     ·
      cases h
    ·
     cases h
   ·
    cases h
  ·
   rw [r5cyclesFrom.l0] at h
   by_cases c1 : x7 < (x0.length : Int)
   ·
    rw [if_pos c1] at h
    by_cases c2 : 0 ≤ x7
    ·
     rw [if_pos c2] at h
     by_cases c3 : 0 ≤ x6
     ·
      rw [if_pos c3] at h
      by_cases c4 : x6 < ((rd_L1 x0 x7).length : Int)
      ·
       rw [if_pos c4] at h
       by_cases c5 : (rd (rd_L1 x0 x7) x6) = (-1152921504606846976)
       ·
        rw [if_pos c5] at h
        exact ih2 _ _ _ _ _ _ h1 h5 h
       ·
        rw [if_neg c5] at h
        by_cases c6 : ([] : List Int).length + x1.length < 17592186044416
        ·
         rw [if_pos c6, Option.bind_some] at h
         by_cases c7 : 0 < (x1.length : Int)
         ·
          rw [if_pos c7] at h
          by_cases c8 : x7 = (rd x1 0)
          ·
           rw [if_pos c8] at h
           by_cases c9 : x5.length < 5864062014805
           ·
            rw [if_pos c9] at h
            exact ih2 _ _ _ _ _ _ h1 (app h5 (fun x hx => by rw [List.mem_singleton.1 hx]; exact h1)) h
           ·
            rw [if_neg c9] at h; cases h
          ·
           rw [if_neg c8] at h
           obtain ⟨t, _, h⟩ := Option.bind_eq_some_iff.1 h
           by_cases c9 : t = true
           ·
            rw [if_pos c9] at h
            exact ih2 _ _ _ _ _ _ h1 h5 h
           ·
            rw [if_neg c9] at h
            by_cases c10 : (([] : List Int) ++ x1).length < 17592186044416
            ·
             rw [if_pos c10] at h
             obtain ⟨u, hu, h⟩ := Option.bind_eq_some_iff.1 h
             by_cases c11 : x5.length + u.length < 5864062014805
             ·
              rw [if_pos c11] at h
              exact ih2 _ _ _ _ _ _ h1 (app h5 (ih1 _ _ _ hu)) h
             ·
              rw [if_neg c11] at h; cases h
            ·
             rw [if_neg c10] at h; cases h
         ·
          rw [if_neg c7] at h; cases h
        ·
         rw [if_neg c6] at h; cases h
      ·
       rw [if_neg c4] at h; cases h
     ·
      rw [if_neg c3] at h; cases h
    ·
     rw [if_neg c2] at h; cases h
   ·
    rw [if_neg c1] at h
    obtain rfl := qx h
    exact h5
theorem Cycles_l0_some : ∀ k x0 x3 x4 r, (∀ x ∈ x3, x ≠ []) → r5Cycles.l0 k x0 x3 x4 = some r → ∀ x ∈ r, x ≠ []
 | 0, _, _, _, _, _, h => by simp [r5Cycles.l0] at h
 | k + 1, x0, x3, x4, r, h3, h => by
  simp only [r5Cycles.l0] at h
  split at h
  ·
   obtain ⟨t, ht, h⟩ := Option.bind_eq_some_iff.1 h
   split at h
   ·
    refine Cycles_l0_some k _ _ _ _ (fun x hx => ?_) h
    rcases List.mem_append.1 hx with h' | h'
    ·
     exact h3 x h'
    ·
     exact (cyclesFrom_some k).1 _ _ _ ht x h'
   ·
    cases h
  ·
   obtain rfl := qx h
   exact h3
theorem Cycles_row {k : Nat} {l r : List (List Int)} (h : r5Cycles.f k l = some r) (i : Int) (h0 : (0 ≤ i) = True) (h1 : (i < (r.length : Int)) = True) : ¬ rd_L1 r i = [] := by
 replace h0 := of_eq_true h0
 replace h1 := of_eq_true h1
 have hi : i.toNat < r.length := by omega
 have e : rd_L1 r i = r[i.toNat] := by
  show r.getD i.toNat [] = _
  rw [List.getD_eq_getElem?_getD, List.getElem?_eq_getElem hi]
  rfl
 rw [e]
 exact Cycles_l0_some k _ _ _ _ (fun x hx => by cases hx) h _ (List.getElem_mem hi)
def r5weight.l0 : Nat → List (List Int) → List Int → Int → Int → Option (Int)
 | 0, _, _, _, _ => none
 | k + 1, x0, x1, x5, x6 => if x6 < (x1.length : Int) then (if (x1.length : Int) = 0 then (none) else (if 0 ≤ (Int.tmod (wrap64 (x6 + 1)) (x1.length : Int)) then (if (Int.tmod (wrap64 (x6 + 1)) (x1.length : Int)) < (x1.length : Int) then (if 0 ≤ (rd x1 (Int.tmod (wrap64 (x6 + 1)) (x1.length : Int))) then (if (rd x1 (Int.tmod (wrap64 (x6 + 1)) (x1.length : Int))) < (x0.length : Int) then (if 0 ≤ x6 then (if 0 ≤ (rd x1 x6) then (if (rd x1 x6) < ((rd_L1 x0 (rd x1 (Int.tmod (wrap64 (x6 + 1)) (x1.length : Int)))).length : Int) then (r5weight.l0 k x0 x1 (wrap64 (x5 + (rd (rd_L1 x0 (rd x1 (Int.tmod (wrap64 (x6 + 1)) (x1.length : Int)))) (rd x1 x6)))) (wrap64 (x6 + 1))) else (none)) else (none)) else (none)) else (none)) else (none)) else (none)) else (none))) else (some x5)
def r5weight.f (k : Nat) (l0 : List (List Int)) (l1 : List Int) : Option (Int) := r5weight.l0 k l0 l1 0 0
theorem r5weight.calls (k : Nat) (A0 : Option Addr) (c0 : Nat) (l0 : List (List Int)) (A1 : Option Addr) (c1 : Nat) (l1 : List Int) (r : Int) (w : World) (hr0 : Kd.C (Kd.slice 3 (Kd.int .i64)) w A0 l0.length l0) (hc0 : l0.length ≤ c0) (hr1 : Kd.C (Kd.int .i64) w A1 l1.length l1) (hc1 : l1.length ≤ c1) (h : r5weight.f k l0 l1 = some r) :
  Calls Try.prog 73 #[.slice A0 l0.length c0, .slice A1 l1.length c1] w fun e w' => e = .returned (.int .i64 r) ∧ Drawn0 w w' := by
 have HR0 := xA.mk hr0
 have HC0 := xA.mk hc0
 clear hr0 hc0
 have HR1 := xA.mk hr1
 have HC1 := xA.mk hc1
 clear hr1 hc1
 have H : (r5weight.l0 k l0 l1 0 0) = some r := h
 clear h
 have H' := xA.mk H
 clear H
 go_enter Try.func73, Try.ntmps73
 go_wp2
 go_loopg [5, 6] k (fun kq v5 v6 w' => ∃ (x5_1 : Int) (x6_1 : Int), v5 = .int .i64 x5_1 ∧ v6 = .int .i64 x6_1 ∧ xA (r5weight.l0 kq l0 l1 x5_1 x6_1 = some r) ∧ xA (kq ≤ k) ∧ Drawn0 w w')
 case atStart => exact ⟨(0), (0), rfl, rfl, H', ⟨Nat.le_refl _⟩, qe⟩
 case round =>
  clear H'
  obtain ⟨x5_1, x6_1, rfl, rfl, HA, HK1, ⟨m1, rfl⟩⟩ := hrel
  obtain _ | k1 := gk
  · exact absurd HA.out (by simp [r5weight.l0])
  have H := HA.out
  clear HA
  simp only [r5weight.l0] at H
  obtain ⟨c3b0, H⟩ | ⟨c3b0, H⟩ := yA H
  rotate_left
  ·
   obtain rfl := qx H
   go_wp2
   go_ret
   exact ⟨qf, qe⟩
  by_cases c4 : (l1.length : Int) = 0
  ·
   rw [if_pos c4] at H
   exact absurd H (by simp)
  rw [if_neg c4] at H
  have c4b0 : ((l1.length : Int) == 0) = false := jg c4
  have c4b2 : ¬ (l1 = []) := fun h_ => c4 (by rw [h_]; rfl)
  obtain ⟨ji5, hji5⟩ : ∃ j_ : Int, (Int.tmod (wrap64 (x6_1 + 1)) (l1.length : Int)) = j_ := ⟨_, rfl⟩
  replace H : (if 0 ≤ (ji5) then (if (ji5) < (l1.length : Int) then (if 0 ≤ (rd l1 (ji5)) then (if (rd l1 (ji5)) < (l0.length : Int) then (if 0 ≤ x6_1 then (if 0 ≤ (rd l1 x6_1) then (if (rd l1 x6_1) < ((rd_L1 l0 (rd l1 (ji5))).length : Int) then (r5weight.l0 k1 l0 l1 (wrap64 (x5_1 + (rd (rd_L1 l0 (rd l1 (ji5))) (rd l1 x6_1)))) (wrap64 (x6_1 + 1))) else (none)) else (none)) else (none)) else (none)) else (none)) else (none)) else (none)) = some r := by first | (rw [hji5] at H; exact H) | (simp only [hji5] at H ⊢; exact H)
  obtain ⟨c6b0, H⟩ := xF H
  obtain ⟨c7b0, H⟩ := xF H
  obtain ⟨c8b0, H⟩ := xF H
  obtain ⟨c9b0, H⟩ := xF H
  obtain ⟨c10b0, H⟩ := xF H
  obtain ⟨c11b0, H⟩ := xF H
  obtain ⟨c12b0, H⟩ := xF H
  have H' := xA.mk H
  clear H
  have p434 : 0 ≤ ((ji5) : Int) := qq
  have q434 : (ji5) < (l1.length : Int) := qq
  obtain ⟨ad434, e434, hx434_0⟩ := Kd.xU HR1.out (ji5) p434 q434
  cases e434
  replace p434 := eq_true p434
  replace q434 := eq_true q434
  have p435 : 0 ≤ ((rd l1 (ji5)) : Int) := qq
  have q435 : (rd l1 (ji5)) < (l0.length : Int) := qq
  obtain ⟨ad435, A435_0, c435_0, e435, hx435_0, hl435_0, hi435_0⟩ := at_L1 HR0.out (rd l1 (ji5)) p435 q435
  cases e435
  have HR435_0 := xA.mk hi435_0
  have HC435_0 := xA.mk hl435_0
  clear hi435_0 hl435_0
  replace p435 := eq_true p435
  replace q435 := eq_true q435
  have p436 : 0 ≤ (x6_1 : Int) := qq
  have q436 : x6_1 < (l1.length : Int) := qq
  obtain ⟨ad436, e436, hx436_0⟩ := Kd.xU HR1.out x6_1 p436 q436
  obtain rfl : ad434 = ad436 := (by injection e436)
  replace p436 := eq_true p436
  replace q436 := eq_true q436
  have p437 : 0 ≤ ((rd l1 x6_1) : Int) := qq
  have q437 : (rd l1 x6_1) < ((rd_L1 l0 (rd l1 (ji5))).length : Int) := qq
  obtain ⟨ad437, e437, hx437_0⟩ := Kd.xU HR435_0.out (rd l1 x6_1) p437 q437
  cases e437
  replace p437 := eq_true p437
  replace q437 := eq_true q437
  go_wp2
  repeat (go_quiet (fail); try go_wp2)
  go_roundg k1
  case measure => have := HK1.out; omega
  case rel => exact ⟨(wrap64 (x5_1 + (rd (rd_L1 l0 (rd l1 (ji5))) (rd l1 x6_1)))), (wrap64 (x6_1 + 1)), (by first | rfl | (simp; done) | (simp only [← hji5] <;> (first | rfl | simp)) | (simp [*]; done)), rfl, H', ⟨by have := HK1.out; omega⟩, qe⟩
end Go.Proofs.Ythjmfbmffchicaa.V
