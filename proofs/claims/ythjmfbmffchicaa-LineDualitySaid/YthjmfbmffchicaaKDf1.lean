/- Walks of functions that the law LineDuality reaches: each theorem '.calls' says that the call comes to what its printed plain function says, under the conditions that stand in it. -/
import Derived.Test.YthjmfbmffchicaaKDHub
import Derived.Test.YthjmfbmffchicaaKDf0
namespace Go.Proofs.Ythjmfbmffchicaa.V
open Go.RowKit Go.Proofs.YthjmfbmffchicaaW.PrintWords Go.Proofs.YthjmfbmffchicaaW.PrintLast Go.Proofs.YthjmfbmffchicaaW.PrintMore
attribute [local go_sem] max2_int min2_int max_two min_two max_three min_three max_four min_four
set_option maxHeartbeats 8000000
set_option maxRecDepth 100000
set_option linter.unusedVariables false
set_option linter.unusedSimpArgs false
mutual
def lgpace.l0 : Nat → List (List Int) → Bool → List (List Int) → Int → Int → Int → Option (Int × Int × Bool)
 | 0, _, _, _, _, _, _ => none
 | k + 1, x0, x5, x6, x7, x143000, x143001 => if x7 ≤ (x0.length : Int) then ((lgtimes.f k x6 x0).bind fun t146 => (lgpace.l1 k x0 x5 t146 x7 (x0.length : Int) 0 x143000 x143001)) else (some (x143000, x143001, x5))
def lgpace.l1 : Nat → List (List Int) → Bool → List (List Int) → Int → Int → Int → Int → Int → Option (Int × Int × Bool)
 | 0, _, _, _, _, _, _, _, _ => none
 | k + 1, x0, x5, x6, x7, x25, x26, x143000, x143001 => if x26 < x25 then (if 0 ≤ x26 then (if x26 < (x6.length : Int) then (if x26 < ((rd_L1 x6 x26).length : Int) then ((line_never_int.f).bind fun t151 => (if (rd (rd_L1 x6 x26) x26) = t151 then (lgpace.l1 k x0 x5 x6 x7 x25 (wrap64 (x26 + 1)) x143000 x143001) else (if x5 = true then (if (wrap64 ((rd (rd_L1 x6 x26) x26) * x143001)) > (wrap64 (x143000 * x7)) then ((line_gcd.f k (rd (rd_L1 x6 x26) x26) x7).bind fun t154 => (if t154 = 0 then (none) else (lgpace.l1 k x0 true x6 x7 x25 (wrap64 (x26 + 1)) (wrap64 (Int.tdiv (rd (rd_L1 x6 x26) x26) t154)) (wrap64 (Int.tdiv x7 t154))))) else (lgpace.l1 k x0 x5 x6 x7 x25 (wrap64 (x26 + 1)) x143000 x143001)) else ((line_gcd.f k (rd (rd_L1 x6 x26) x26) x7).bind fun t155 => (if t155 = 0 then (none) else (lgpace.l1 k x0 true x6 x7 x25 (wrap64 (x26 + 1)) (wrap64 (Int.tdiv (rd (rd_L1 x6 x26) x26) t155)) (wrap64 (Int.tdiv x7 t155)))))))) else (none)) else (none)) else (none)) else (lgpace.l0 k x0 x5 x6 (wrap64 (x7 + 1)) x143000 x143001)
end
def lgpace.f (k : Nat) (l0 : List (List Int)) : Option (Int × Int × Bool) := (line_one_int.f k (l0.length : Int)).bind fun t143 => (lgpace.l0 k l0 false t143 1 0 1)
theorem lgpace.mono_l : ∀ k, (∀ y0 y1 y2 y3 y4 y5, LeO (lgpace.l0 k y0 y1 y2 y3 y4 y5) (lgpace.l0 (k + 1) y0 y1 y2 y3 y4 y5)) ∧ (∀ y0 y1 y2 y3 y4 y5 y6 y7, LeO (lgpace.l1 k y0 y1 y2 y3 y4 y5 y6 y7) (lgpace.l1 (k + 1) y0 y1 y2 y3 y4 y5 y6 y7))
 | 0 => ⟨fun _ _ _ _ _ _ r h => by simp [lgpace.l0] at h, fun _ _ _ _ _ _ _ _ r h => by simp [lgpace.l1] at h⟩
 | k + 1 => by
  obtain ⟨ih0, ih1⟩ := lgpace.mono_l k
  refine ⟨?_, ?_⟩
  ·
   intro y0 y1 y2 y3 y4 y5
   unfold lgpace.l0
   repeat' first
   | (with_reducible exact LeO.refl _)
   | (with_reducible exact LeO.none _)
   | (with_reducible refine LeO.ite ?_ ?_)
   | (with_reducible refine LeO.bind ?_ (fun _ => ?_))
   | exact ih0 _ _ _ _ _ _
   | exact ih1 _ _ _ _ _ _ _ _
   | exact line_gcd.mono _ _ _
   | exact lgtimes.mono _ _ _
   | exact line_one_int.mono _ _
  ·
   intro y0 y1 y2 y3 y4 y5 y6 y7
   unfold lgpace.l1
   repeat' first
   | (with_reducible exact LeO.refl _)
   | (with_reducible exact LeO.none _)
   | (with_reducible refine LeO.ite ?_ ?_)
   | (with_reducible refine LeO.bind ?_ (fun _ => ?_))
   | exact ih0 _ _ _ _ _ _
   | exact ih1 _ _ _ _ _ _ _ _
   | exact line_gcd.mono _ _ _
   | exact lgtimes.mono _ _ _
   | exact line_one_int.mono _ _
theorem lgpace.mono : ∀ a0 k, LeO (lgpace.f k a0) (lgpace.f (k + 1) a0) := by
 intro a0 k
 obtain ⟨ih0, ih1⟩ := lgpace.mono_l k
 unfold lgpace.f
 repeat' first
   | (with_reducible exact LeO.refl _)
   | (with_reducible exact LeO.none _)
   | (with_reducible refine LeO.ite ?_ ?_)
   | (with_reducible refine LeO.bind ?_ (fun _ => ?_))
   | exact ih0 _ _ _ _ _ _
   | exact ih1 _ _ _ _ _ _ _ _
   | exact line_gcd.mono _ _ _
   | exact lgtimes.mono _ _ _
   | exact line_one_int.mono _ _
def lgpace.T10 : Bool × List (List Nat × List Nat) := (true, [([], []), ([], []), ([0, 1], [0, 1]), ([2], [2]), ([], []), ([3, 4], [3, 4]), ([5], [5]), ([], []), ([6, 7], [6, 7])])
def lgpace.B10 : List Nat := [0, 0, 3, 7, 0, 31, 63, 0, 255]
theorem lgpace.tab10 : rtab .any (opsOf Try.f65 10) = lgpace.T10 := by kernel_rfl
theorem lgpace.bits10 : waitsOk lgpace.T10.2 lgpace.B10 = true := by kernel_rfl
def lgpace.T14 : Bool × List (List Nat × List Nat) := (true, [([], []), ([], []), ([0, 1], [0, 1]), ([], []), ([], []), ([3, 4], [3, 4]), ([2, 5], [2, 5]), ([6, 0, 1, 2, 3, 4, 5, 6], [6]), ([7, 0, 1, 2, 3, 4, 5, 6, 7], [])])
def lgpace.B14 : List Nat := [0, 0, 3, 0, 0, 24, 63, 127, 255]
theorem lgpace.tab14 : rtab .any (opsOf Try.f65 14) = lgpace.T14 := by kernel_rfl
theorem lgpace.bits14 : waitsOk lgpace.T14.2 lgpace.B14 = true := by kernel_rfl
theorem lgpace.calls (k : Nat) (A0 : Option Addr) (c0 : Nat) (l0 : List (List Int)) (r1 : Int) (r2 : Int) (r3 : Bool) (w : World) (hr0 : Kd.C (Kd.slice 3 (Kd.int .i64)) w A0 l0.length l0) (hc0 : l0.length ≤ c0) (h : lgpace.f k l0 = some (r1, r2, r3)) :
  Calls Try.prog 65 #[.slice A0 l0.length c0] w fun e w' => e = .returned (.tuple #[.agg #[.int .i64 r1, .int .i64 r2], .bool r3]) ∧ Below w.heap.size w w' := by
 have hu37 := Try.underlying37
 have HR0 := xA.mk hr0
 have HC0 := xA.mk hc0
 clear hr0 hc0
 have HB := xA.mk (Below.refl w.heap.size w)
 have H : ((line_one_int.f k (l0.length : Int)).bind fun t143 => (lgpace.l0 k l0 false t143 1 0 1)) = some (r1, r2, r3) := h
 clear h
 replace H := qw H
 obtain ⟨t143, A20, H⟩ := H
 replace H : (lgpace.l0 k l0 false t143 1 0 1) = some (r1, r2, r3) := H
 have A2 := xA.mk A20
 clear A20
 have H' := xA.mk H
 clear H
 go_enter Try.func65, Try.ntmps65
 go_wp2_with (first | ((with_reducible refine xW (N := 2) rfl ?_); refine yF ?hg (N := 2) ?hd (cs := #[.int .i64 0, .int .i64 0]) (t := 37) ?hr ?_; (case hd => rfl); (case hg => rfl); (case hr => first | (go_simp; done) | (go_simp; rfl)); intro gb141 hg w3 hbox hb; have n0_ := xA.mk (xF qa hb); have n1_ := xA.mk (hbox); have n2_ := xA.mk ((by rw [hg]; exact (xD qa) : w.heap.size ≤ gb141)); have n3_ := xA.mk ((by rw [hg]; exact (xD qa) : w.heap.size ≤ gb141)); clear HB; have HB := n0_; have BK141 := n1_; have GW141 := n2_; have GE141 := n3_; clear n0_ n1_ n2_ n3_; clear hb hbox hg) | ((with_reducible refine xW (N := 4) rfl ?_); refine yF ?hg (N := 4) ?hd (cs := #[.int .i64 0, .int .i64 0]) (t := 37) ?hr ?_; (case hd => rfl); (case hg => rfl); (case hr => first | (go_simp; done) | (go_simp; rfl)); intro gb142 hg w4 hbox hb; have n0_ := xA.mk (xO (g := gb141) (o := .cells #[.int .i64 0, .int .i64 0] 37 (0, 0)) (qn BK141.out) hb); have n1_ := xA.mk (xF (qo GE141.out) hb); have n2_ := xA.mk (hbox); have n3_ := xA.mk ((by rw [hg]; exact (xD (qo GE141.out)) : w.heap.size ≤ gb142)); have n4_ := xA.mk ((by rw [hg]; exact (xD (qo GE141.out)) : w.heap.size ≤ gb142)); have n5_ := xA.mk ((by rw [hg]; exact Nat.ne_of_lt (blk_lt (g := gb141) (o := .cells #[.int .i64 0, .int .i64 0] 37 (0, 0)) (qn BK141.out)) : gb141 ≠ gb142)); have n6_ := xA.mk ((by rw [hg]; exact Nat.ne_of_gt (blk_lt (g := gb141) (o := .cells #[.int .i64 0, .int .i64 0] 37 (0, 0)) (qn BK141.out)) : gb142 ≠ gb141)); clear BK141; clear HB; have BK141 := n0_; have HB := n1_; have BK142 := n2_; have GW142 := n3_; have GE142 := n4_; have NB141_142 := n5_; have NB142_141 := n6_; clear n0_ n1_ n2_ n3_ n4_ n5_ n6_; clear hb hbox hg; have hnb5 := NB142_141.out; have hnc5 := NB141_142.out; have hcz6_0 : w4.cell? ⟨gb142, 0, none⟩ = some (.int .i64 0) := (xB BK142.out 0).trans rfl; have hcz6_1 : w4.cell? ⟨gb142, 1, none⟩ = some (.int .i64 0) := (xB BK142.out 1).trans rfl; have hfz6_0 := xC BK142.out 0; have hfz6_1 := xC BK142.out 1) | ((with_reducible refine xK (f := 87) rfl ?_); refine xS (some 14) rfl rfl Try.func87 jk rfl #[.int .i64 (l0.length : Int)] rfl qc ?_; (with_reducible refine (line_one_int.calls k (l0.length : Int) t143 _ A2.out).mono ?_); rintro e w7 ⟨v144, rfl, ho0, hb⟩; refine ⟨_, rfl, ?_⟩; have n0_ := xA.mk (Kd.S_lower ho0 (xD (by repeat (first | (with_reducible first | exact HB.out | apply xR | apply xP | apply xN | refine xM ?_ GE141.out | refine xM ?_ GE142.out) | exact HB.out)))); have n1_ := xA.mk (xO (g := gb141) (o := .cells #[.int .i64 0, .int .i64 0] 37 (0, 0)) (by (with_reducible repeat (first | refine xI ?_ _ | refine xH ?_ | refine xG ?_ _)); refine blk_far ?_ NB141_142.out _; (with_reducible repeat (first | refine xI ?_ _ | refine xH ?_ | refine xG ?_ _)); refine blk_far ?_ NB141_142.out _; (with_reducible repeat (first | refine xI ?_ _ | refine xH ?_ | refine xG ?_ _)); exact BK141.out) hb); have n2_ := xA.mk (xO (g := gb142) (o := .cells #[.int .i64 0, .int .i64 1] 37 (0, 0)) (by (with_reducible repeat (first | refine xI ?_ _ | refine xH ?_ | refine xG ?_ _)); refine xT (cs := #[.int .i64 0, .int .i64 0]) ?_ 1 _ rfl; (with_reducible repeat (first | refine xI ?_ _ | refine xH ?_ | refine xG ?_ _)); refine xT (cs := #[.int .i64 0, .int .i64 0]) ?_ 0 _ rfl; (with_reducible repeat (first | refine xI ?_ _ | refine xH ?_ | refine xG ?_ _)); exact BK142.out) hb); have n3_ := xA.mk (xF (by repeat (first | (with_reducible first | exact HB.out | apply xR | apply xP | apply xN | refine xM ?_ GE141.out | refine xM ?_ GE142.out) | exact HB.out)) hb); clear BK141; clear BK142; clear HB; have HO145 := n0_; have BK141 := n1_; have BK142 := n2_; have HB := n3_; clear n0_ n1_ n2_ n3_; (try clear hb); (try clear hb2); (try clear hk); (try clear hi); (try clear ho0)))
 go_loopg [5, 6, 7] k (fun kq v5 v6 v7 w' => ∃ (x5_1 : Bool) (x6_1 : List (List Int)) (x7_1 : Int) (x143000_1 : Int) (x143001_1 : Int), v5 = .bool x5_1 ∧ v7 = .int .i64 x7_1 ∧ xA (lgpace.l0 kq l0 x5_1 x6_1 x7_1 x143000_1 x143001_1 = some (r1, r2, r3)) ∧ xA (kq ≤ k) ∧ xA (Kd.S (Kd.slice 3 (Kd.int .i64)) 26 w' w.heap.size (fun _ => True) v6 x6_1) ∧ xA (w'.heap[gb141]? = some (.cells #[.int .i64 0, .int .i64 0] 37 (0, 0))) ∧ xA (w'.heap[gb142]? = some (.cells #[.int .i64 x143000_1, .int .i64 x143001_1] 37 (0, 0))) ∧ xA (Below w.heap.size w w'))
 case atStart => exact ⟨(false), (t143), (1), (0), (1), qf, qf, H', ⟨Nat.le_refl _⟩, ⟨qh HO145.out⟩, ⟨qn BK141.out⟩, ⟨qn BK142.out⟩, ⟨by repeat (first | (with_reducible first | exact HB.out | apply xR | apply xP | apply xN | refine xM ?_ GE141.out | refine xM ?_ GE142.out) | exact HB.out)⟩⟩
 case round =>
  clear H'
  try clear p2
  try clear c5
  try clear c6
  try clear hcz6_0
  try clear hcz6_1
  try clear hfz6_0
  try clear hfz6_1
  obtain ⟨x5_1, x6_1, x7_1, x143000_1, x143001_1, rfl, rfl, HA, HK1, HO_6, BK141, BK142, HB⟩ := hrel
  obtain _ | k1 := gk
  · exact absurd HA.out (by simp [lgpace.l0])
  have H := HA.out
  clear HA
  simp only [lgpace.l0] at H
  obtain ⟨c8b0, H⟩ | ⟨c8b0, H⟩ := itd_or H
  rotate_left
  ·
   simp only [Option.some.injEq, Prod.mk.injEq] at H
   obtain ⟨rfl, rfl, rfl⟩ := H
   have hnb44 := NB142_141.out
   have hnc44 := NB141_142.out
   have hcz45_0 : wr.cell? ⟨gb142, 0, none⟩ = some (.int .i64 x143000_1) := (xB BK142.out 0).trans rfl
   have hcz45_1 : wr.cell? ⟨gb142, 1, none⟩ = some (.int .i64 x143001_1) := (xB BK142.out 1).trans rfl
   have hfz45_0 := xC BK142.out 0
   have hfz45_1 := xC BK142.out 1
   have hcz46_0 : wr.cell? ⟨gb141, 0, none⟩ = some (.int .i64 0) := (xB BK141.out 0).trans rfl
   have hcz46_1 : wr.cell? ⟨gb141, 1, none⟩ = some (.int .i64 0) := (xB BK141.out 1).trans rfl
   have hfz46_0 := xC BK141.out 0
   have hfz46_1 := xC BK141.out 1
   go_wp2
   refine bodyPost_ret (results_ct rfl _ _ gb141 37 #[.int .i64 x143000_1, .int .i64 x143001_1] (0, 0) _ rfl (by (with_reducible repeat (first | refine xI ?_ _ | refine xH ?_ | refine xG ?_ _)); refine xT (cs := #[.int .i64 x143000_1, .int .i64 0]) ?_ 1 _ rfl; (with_reducible repeat (first | refine xI ?_ _ | refine xH ?_ | refine xG ?_ _)); refine xT (cs := #[.int .i64 0, .int .i64 0]) ?_ 0 _ rfl; (with_reducible repeat (first | refine xI ?_ _ | refine xH ?_ | refine xG ?_ _)); exact BK141.out) Try.underlying37 rfl jk) rfl ?_
   exact ⟨rfl, by repeat (first | (with_reducible first | exact HB.out | apply xR | apply xP | apply xN | refine xM ?_ GE141.out | refine xM ?_ GE142.out) | exact HB.out)⟩
  replace H := qw H
  obtain ⟨t146, A90, H⟩ := H
  replace H : (lgpace.l1 k1 l0 x5_1 t146 x7_1 (l0.length : Int) 0 x143000_1 x143001_1) = some (r1, r2, r3) := H
  have A9 := xA.mk A90
  clear A90
  have H' := xA.mk H
  clear H
  obtain ⟨Ao10, co10, eo10⟩ := Kd.yD HO_6.out
  subst eo10
  go_wp2_with (first | ((with_reducible refine xK (f := 59) rfl ?_); refine xS (some 23) rfl rfl Try.func59 jk rfl #[.slice Ao10 x6_1.length co10, .slice A0 l0.length c0] rfl qc ?_; (with_reducible refine (lgtimes.calls k1 _ _ x6_1 _ _ l0 t146 _ ?side1 ?side2 ?side3 ?side4 A9.out).mono ?_); (case side1 => exact qm (Kd.xJ HO_6.out).2.2); (case side2 => exact (Kd.xJ HO_6.out).2.1); (case side3 => exact qm (Kd.yC HR0.out HB.out)); (case side4 => exact HC0.out); rintro e w11 ⟨v147, rfl, ho0, hb⟩; refine ⟨_, rfl, ?_⟩; have HO148 := xA.mk (Kd.S_lower (Kd.S_new' ho0 (Kd.S_lt (qh HO_6.out))) (xD (by repeat (first | (with_reducible first | exact HB.out | apply xR | apply xP | apply xN | refine xM ?_ GE141.out | refine xM ?_ GE142.out) | exact HB.out)))); replace HO_6 := xA.mk (Kd.S_elder' (qh HO_6.out) (Kd.S_base ho0) hb); replace BK141 := xA.mk (xO (g := gb141) (o := .cells #[.int .i64 0, .int .i64 0] 37 (0, 0)) (qn BK141.out) hb); replace BK142 := xA.mk (xO (g := gb142) (o := .cells #[.int .i64 x143000_1, .int .i64 x143001_1] 37 (0, 0)) (qn BK142.out) hb); replace HB := xA.mk (xF (by repeat (first | (with_reducible first | exact HB.out | apply xR | apply xP | apply xN | refine xM ?_ GE141.out | refine xM ?_ GE142.out) | exact HB.out)) hb); (try clear hb); (try clear hb2); (try clear hk); (try clear hi); (try clear ho0)))
  go_loopg [5, 26] k1 (fun kq v5 v26 w' => ∃ (x5_2 : Bool) (x26_2 : Int) (x143000_2 : Int) (x143001_2 : Int), v5 = .bool x5_2 ∧ v26 = .int .i64 x26_2 ∧ xA (lgpace.l1 kq l0 x5_2 t146 x7_1 (l0.length : Int) x26_2 x143000_2 x143001_2 = some (r1, r2, r3)) ∧ xA (kq ≤ k1) ∧ xA (Kd.S (Kd.slice 3 (Kd.int .i64)) 26 w' w.heap.size (fun _ => True) v147 t146) ∧ xA (w'.heap[gb141]? = some (.cells #[.int .i64 0, .int .i64 0] 37 (0, 0))) ∧ xA (w'.heap[gb142]? = some (.cells #[.int .i64 x143000_2, .int .i64 x143001_2] 37 (0, 0))) ∧ xA (Below w.heap.size w w'))
  case atStart => exact ⟨(x5_1), (0), (x143000_1), (x143001_1), qf, qf, H', ⟨Nat.le_refl _⟩, ⟨by (with_reducible repeat (first | apply Kd.S_alloc | apply Kd.yA | apply Kd.xV)); exact Kd.xQ HO148.out (fun _ hk => trivial)⟩, ⟨qn BK141.out⟩, ⟨qn BK142.out⟩, ⟨by repeat (first | (with_reducible first | exact HB.out | apply xR | apply xP | apply xN | refine xM ?_ GE141.out | refine xM ?_ GE142.out) | exact HB.out)⟩⟩
  case round =>
   clear H'
   try clear p2
   try clear c5
   try clear c6
   try clear c8
   try clear c8b0
   try clear hcz6_0
   try clear hcz6_1
   try clear hfz6_0
   obtain ⟨x5_2, x26_2, x143000_2, x143001_2, rfl, rfl, HA, HK2, HO_6, BK141, BK142, HB⟩ := hrel
   obtain _ | k2 := gk
   · exact absurd HA.out (by simp [lgpace.l1])
   have H := HA.out
   clear HA
   simp only [lgpace.l1] at H
   obtain ⟨c12b0, H⟩ | ⟨c12b0, H⟩ := itd_or H
   rotate_left
   ·
    have H' := xA.mk H
    clear H
    go_wp2
    go_roundg k2
    case measure => have := HK1.out; have := HK2.out; omega
    case rel => exact ⟨(x5_2), (t146), (wrap64 (x7_1 + 1)), (x143000_2), (x143001_2), rfl, rfl, H', ⟨by have := HK1.out; have := HK2.out; omega⟩, ⟨by exact HO_6.out⟩, ⟨qn BK141.out⟩, ⟨qn BK142.out⟩, ⟨by repeat (first | (with_reducible first | exact HB.out | apply xR | apply xP | apply xN | refine xM ?_ GE141.out | refine xM ?_ GE142.out) | exact HB.out)⟩⟩
   obtain ⟨c13b0, H⟩ := xL H
   obtain ⟨c14b0, H⟩ := xL H
   obtain ⟨c15b0, H⟩ := xL H
   replace H := qw H
   obtain ⟨t151, A160, H⟩ := H
   replace H : (if (rd (rd_L1 t146 x26_2) x26_2) = t151 then (lgpace.l1 k2 l0 x5_2 t146 x7_1 (l0.length : Int) (wrap64 (x26_2 + 1)) x143000_2 x143001_2) else (if x5_2 = true then (if (wrap64 ((rd (rd_L1 t146 x26_2) x26_2) * x143001_2)) > (wrap64 (x143000_2 * x7_1)) then ((line_gcd.f k2 (rd (rd_L1 t146 x26_2) x26_2) x7_1).bind fun t154 => (if t154 = 0 then (none) else (lgpace.l1 k2 l0 true t146 x7_1 (l0.length : Int) (wrap64 (x26_2 + 1)) (wrap64 (Int.tdiv (rd (rd_L1 t146 x26_2) x26_2) t154)) (wrap64 (Int.tdiv x7_1 t154))))) else (lgpace.l1 k2 l0 x5_2 t146 x7_1 (l0.length : Int) (wrap64 (x26_2 + 1)) x143000_2 x143001_2)) else ((line_gcd.f k2 (rd (rd_L1 t146 x26_2) x26_2) x7_1).bind fun t155 => (if t155 = 0 then (none) else (lgpace.l1 k2 l0 true t146 x7_1 (l0.length : Int) (wrap64 (x26_2 + 1)) (wrap64 (Int.tdiv (rd (rd_L1 t146 x26_2) x26_2) t155)) (wrap64 (Int.tdiv x7_1 t155))))))) = some (r1, r2, r3) := H
   have A16 := xA.mk A160
   clear A160
   by_cases c17 : (rd (rd_L1 t146 x26_2) x26_2) = t151
   ·
    rw [if_pos c17] at H
    have c17b0 : ((rd (rd_L1 t146 x26_2) x26_2) == t151) = true := beq_iff_eq.mpr c17
    clear c17
    have H' := xA.mk H
    clear H
    try go_wp2
    have n0_ := xA.mk (Kd.xV HO_6.out)
    have n1_ := xA.mk (xH BK141.out)
    have n2_ := xA.mk (xH BK142.out)
    have n3_ := xA.mk (xN HB.out)
    clear HO_6
    clear BK141
    clear BK142
    clear HB
    have HO_6 := n0_
    have BK141 := n1_
    have BK142 := n2_
    have HB := n3_
    clear n0_ n1_ n2_ n3_
    obtain ⟨Ao19, co19, eo19⟩ := Kd.yD HO_6.out
    (first | subst eo19 | (injection eo19 with f1_ f2_ f3_; have f4_ := f1_.symm; have f5_ := f3_.symm; clear f1_ f2_ f3_; subst f4_; subst f5_))
    have p149 : 0 ≤ (x26_2 : Int) := qq
    have q149 : x26_2 < (t146.length : Int) := qq
    obtain ⟨ad149, A149_0, c149_0, e149, hx149_0, hl149_0, hi149_0⟩ := at_L1 (Kd.xJ HO_6.out).2.2 x26_2 p149 q149
    cases e149
    obtain ⟨ce149, hce149, hMe149, hcc149⟩ := Kd.S_get HO_6.out [] x26_2 p149 (by first | exact q149 | exact qq | (have e_ := (Kd.xJ HO_6.out).1; omega))
    obtain ⟨ve149_0, rfl, ge149_0⟩ := hMe149
    have hv149_0 := hcc149 0 _ rfl
    rw [Nat.add_zero, show ((Kd.slice 3 (Kd.int .i64))).sz = 1 from rfl, Nat.mul_one] at hv149_0
    replace hv149_0 := qx (hv149_0.symm.trans hx149_0)
    rw [hv149_0] at ge149_0
    have HL149_0 := xA.mk (show Kd.R (Kd.int .i64) 3 _ _ _ _ (rd_L1 t146 x26_2) from ge149_0)
    clear hv149_0 ge149_0
    clear hcc149 hce149
    have HR149_0 := xA.mk hi149_0
    have HC149_0 := xA.mk hl149_0
    clear hi149_0 hl149_0
    replace p149 := eq_true p149
    replace q149 := eq_true q149
    have p150 : 0 ≤ (x26_2 : Int) := qq
    have q150 : x26_2 < ((rd_L1 t146 x26_2).length : Int) := qq
    obtain ⟨ad150, e150, hx150_0⟩ := Kd.xU (by repeat (first | (with_reducible exact HR149_0.out) | exact HR149_0.out)) x26_2 p150 q150
    cases e150
    replace p150 := eq_true p150
    replace q150 := eq_true q150
    refine start_ (n := 9) (S := fun w' => w'.cell? (ad149.add (x26_2).toNat) = some (.slice (some ad150) (rd_L1 t146 x26_2).length c149_0) ∧ w'.cell? (ad150.add (x26_2).toNat) = some (.int .i64 (rd (rd_L1 t146 x26_2) x26_2))) (ds := []) (jl 9 0) jk rfl rfl ⟨hx149_0, hx150_0⟩ (fun hHeld => ?_); refine with_tabW lgpace.tab10 lgpace.bits10 (fun HT_ HW_ => ?_)
    generalize wr.drew = w18 at HO_6 BK141 BK142 HB HL149_0 HR149_0 hx149_0 hx150_0 hHeld ⊢
    refine pure_ (i := 0) (N := some 29) (v := ?_) (a' := ?_) (jl 9 1) rfl rfl (xE HT_.out jk) (fun _ _ _ h => h) (Or.inl ⟨by rfl, ?_⟩) ?_ ?_
    rotate_left
    ·
     intro w'
     go_simp
     with_reducible rfl
    rotate_left
    ·
     simp only [Act.put, qy, qz, ja, i64_w, i32_w]
     rfl
    refine pure_ (i := 1) (N := some 30) (v := ?_) (a' := ?_) (jl 9 3) rfl rfl (xE HT_.out jk) (fun _ _ _ h => h) (Or.inl ⟨by rfl, ?_⟩) ?_ ?_
    rotate_left
    ·
     intro w'
     go_simp
     with_reducible rfl
    rotate_left
    ·
     simp only [Act.put, qy, qz, ja, i64_w, i32_w]
     rfl
    refine pure_ (i := 2) (N := some 31) (v := ?_) (a' := ?_) (jl 9 7) rfl rfl (xE HT_.out jk) (fun _ _ _ h => h) (Or.inl ⟨by rfl, ?_⟩) ?_ ?_
    rotate_left
    ·
     intro w'
     go_simp
     with_reducible rfl
    rotate_left
    ·
     simp only [Act.put, qy, qz, ja, i64_w, i32_w]
     rfl
    refine pure_ (i := 4) (N := some 33) (v := ?_) (a' := ?_) (jl 9 23) rfl rfl (xE HT_.out jk) (fun _ _ _ h => h) (Or.inl ⟨by rfl, ?_⟩) ?_ ?_
    rotate_left
    ·
     intro w'
     go_simp
     with_reducible rfl
    rotate_left
    ·
     simp only [Act.put, qy, qz, ja, i64_w, i32_w]
     rfl
    refine take_ (i := 3) (N := some 32) (v := ?_) (a' := ?_) (jl 9 31) rfl rfl (xY HT_.out HW_.out jk) (fun _ _ _ h => h) (Or.inl ⟨by rfl, ?_⟩) hHeld ?_ ?_
    rotate_left
    ·
     rintro w' ⟨s0, s1⟩
     go_simp
     with_reducible rfl
    rotate_left
    ·
     simp only [Act.put, qy, qz, ja, i64_w, i32_w]
     rfl
    refine pure_ (i := 5) (N := some 34) (v := ?_) (a' := ?_) (jl 9 63) rfl rfl (xE HT_.out jk) (fun _ _ _ h => h) (Or.inl ⟨by rfl, ?_⟩) ?_ ?_
    rotate_left
    ·
     intro w'
     go_simp
     with_reducible rfl
    rotate_left
    ·
     simp only [Act.put, qy, qz, ja, i64_w, i32_w]
     rfl
    refine take_ (i := 6) (N := some 35) (v := ?_) (a' := ?_) (jl 9 127) rfl rfl (xY HT_.out HW_.out jk) (fun _ _ _ h => h) (Or.inl ⟨by rfl, ?_⟩) hHeld ?_ ?_
    rotate_left
    ·
     rintro w' ⟨s0, s1⟩
     go_simp
     with_reducible rfl
    rotate_left
    ·
     simp only [Act.put, qy, qz, ja, i64_w, i32_w]
     rfl
    refine one_ (i := 7) (N := some 36) (jl 9 255) rfl rfl (one_of HT_.out jk) (by decide) (fun K hK => ?_)
    refine goes_ Try.func83 jk rfl #[] (by rfl) rfl rfl qc ?_
    with_reducible refine (line_never_int.calls  t151 _ A16.out).mono ?_
    rintro e w' ⟨rfl, ⟨nd, rfl⟩⟩
    refine ⟨_, rfl, ?_⟩
    refine hK.out _ _ ⟨hHeld.1, hHeld.2⟩ (fun hHeld => ?_)
    clear hK K
    refine norm_ (a' := ?_) ?_ ?_
    rotate_left
    ·
     show Act.put _ (some 36) _ = _
     simp only [Act.put, qy, qz, ja, i64_w, i32_w]
     rfl
    refine pure_ (i := 8) (N := some 37) (v := ?_) (a' := ?_) (jl 9 511) rfl rfl (xE HT_.out jk) (fun _ _ _ h => h) (Or.inl ⟨by rfl, ?_⟩) ?_ ?_
    rotate_left
    ·
     intro w'
     go_simp
     with_reducible rfl
    rotate_left
    ·
     simp only [Act.put, qy, qz, ja, i64_w, i32_w]
     rfl
    refine done_ (done_of HT_.out jk) ?_
    try go_wp2
    go_roundg k2
    case measure => have := HK1.out; have := HK2.out; omega
    case rel => exact ⟨(x5_2), (wrap64 (x26_2 + 1)), (x143000_2), (x143001_2), rfl, rfl, H', ⟨by have := HK1.out; have := HK2.out; omega⟩, ⟨by exact HO_6.out⟩, ⟨qn BK141.out⟩, ⟨qn BK142.out⟩, ⟨by repeat (first | (with_reducible first | exact HB.out | apply xR | apply xP | apply xN | refine xM ?_ GE141.out | refine xM ?_ GE142.out) | exact HB.out)⟩⟩
   rw [if_neg c17] at H
   have c17b0 : ((rd (rd_L1 t146 x26_2) x26_2) == t151) = false := jg c17
   by_cases c20 : x5_2 = true
   rotate_left
   ·
    replace c20 := Bool.eq_false_iff.mpr c20
    subst c20
    have H1 : ((line_gcd.f k2 (rd (rd_L1 t146 x26_2) x26_2) x7_1).bind fun t155 => (if t155 = 0 then (none) else (lgpace.l1 k2 l0 true t146 x7_1 (l0.length : Int) (wrap64 (x26_2 + 1)) (wrap64 (Int.tdiv (rd (rd_L1 t146 x26_2) x26_2) t155)) (wrap64 (Int.tdiv x7_1 t155))))) = some (r1, r2, r3) := by rw [if_neg (show ¬ (false = true) by decide)] at H; exact H
    clear H
    have H := H1
    clear H1
    replace H := qw H
    obtain ⟨t155, A360, H⟩ := H
    replace H : (if t155 = 0 then (none) else (lgpace.l1 k2 l0 true t146 x7_1 (l0.length : Int) (wrap64 (x26_2 + 1)) (wrap64 (Int.tdiv (rd (rd_L1 t146 x26_2) x26_2) t155)) (wrap64 (Int.tdiv x7_1 t155)))) = some (r1, r2, r3) := H
    have A36 := xA.mk A360
    clear A360
    by_cases c37 : t155 = 0
    ·
     rw [if_pos c37] at H
     exact absurd H (by simp)
    rw [if_neg c37] at H
    have c37b0 : (t155 == 0) = false := jg c37
    have H' := xA.mk H
    clear H
    try go_wp2
    have n0_ := xA.mk (Kd.xV HO_6.out)
    have n1_ := xA.mk (xH BK141.out)
    have n2_ := xA.mk (xH BK142.out)
    have n3_ := xA.mk (xN HB.out)
    clear HO_6
    clear BK141
    clear BK142
    clear HB
    have HO_6 := n0_
    have BK141 := n1_
    have BK142 := n2_
    have HB := n3_
    clear n0_ n1_ n2_ n3_
    obtain ⟨Ao39, co39, eo39⟩ := Kd.yD HO_6.out
    (first | subst eo39 | (injection eo39 with f1_ f2_ f3_; have f4_ := f1_.symm; have f5_ := f3_.symm; clear f1_ f2_ f3_; subst f4_; subst f5_))
    have p149 : 0 ≤ (x26_2 : Int) := qq
    have q149 : x26_2 < (t146.length : Int) := qq
    obtain ⟨ad149, A149_0, c149_0, e149, hx149_0, hl149_0, hi149_0⟩ := at_L1 (Kd.xJ HO_6.out).2.2 x26_2 p149 q149
    cases e149
    obtain ⟨ce149, hce149, hMe149, hcc149⟩ := Kd.S_get HO_6.out [] x26_2 p149 (by first | exact q149 | exact qq | (have e_ := (Kd.xJ HO_6.out).1; omega))
    obtain ⟨ve149_0, rfl, ge149_0⟩ := hMe149
    have hv149_0 := hcc149 0 _ rfl
    rw [Nat.add_zero, show ((Kd.slice 3 (Kd.int .i64))).sz = 1 from rfl, Nat.mul_one] at hv149_0
    replace hv149_0 := qx (hv149_0.symm.trans hx149_0)
    rw [hv149_0] at ge149_0
    have HL149_0 := xA.mk (show Kd.R (Kd.int .i64) 3 _ _ _ _ (rd_L1 t146 x26_2) from ge149_0)
    clear hv149_0 ge149_0
    clear hcc149 hce149
    have HR149_0 := xA.mk hi149_0
    have HC149_0 := xA.mk hl149_0
    clear hi149_0 hl149_0
    replace p149 := eq_true p149
    replace q149 := eq_true q149
    have p150 : 0 ≤ (x26_2 : Int) := qq
    have q150 : x26_2 < ((rd_L1 t146 x26_2).length : Int) := qq
    obtain ⟨ad150, e150, hx150_0⟩ := Kd.xU (by repeat (first | (with_reducible exact HR149_0.out) | exact HR149_0.out)) x26_2 p150 q150
    cases e150
    replace p150 := eq_true p150
    replace q150 := eq_true q150
    refine start_ (n := 9) (S := fun w' => w'.cell? (ad149.add (x26_2).toNat) = some (.slice (some ad150) (rd_L1 t146 x26_2).length c149_0) ∧ w'.cell? (ad150.add (x26_2).toNat) = some (.int .i64 (rd (rd_L1 t146 x26_2) x26_2))) (ds := []) (jl 9 0) jk rfl rfl ⟨hx149_0, hx150_0⟩ (fun hHeld => ?_); refine with_tabW lgpace.tab10 lgpace.bits10 (fun HT_ HW_ => ?_)
    generalize wr.drew = w38 at HO_6 BK141 BK142 HB HL149_0 HR149_0 hx149_0 hx150_0 hHeld ⊢
    refine pure_ (i := 0) (N := some 29) (v := ?_) (a' := ?_) (jl 9 1) rfl rfl (xE HT_.out jk) (fun _ _ _ h => h) (Or.inl ⟨by rfl, ?_⟩) ?_ ?_
    rotate_left
    ·
     intro w'
     go_simp
     with_reducible rfl
    rotate_left
    ·
     simp only [Act.put, qy, qz, ja, i64_w, i32_w]
     rfl
    refine pure_ (i := 1) (N := some 30) (v := ?_) (a' := ?_) (jl 9 3) rfl rfl (xE HT_.out jk) (fun _ _ _ h => h) (Or.inl ⟨by rfl, ?_⟩) ?_ ?_
    rotate_left
    ·
     intro w'
     go_simp
     with_reducible rfl
    rotate_left
    ·
     simp only [Act.put, qy, qz, ja, i64_w, i32_w]
     rfl
    refine pure_ (i := 2) (N := some 31) (v := ?_) (a' := ?_) (jl 9 7) rfl rfl (xE HT_.out jk) (fun _ _ _ h => h) (Or.inl ⟨by rfl, ?_⟩) ?_ ?_
    rotate_left
    ·
     intro w'
     go_simp
     with_reducible rfl
    rotate_left
    ·
     simp only [Act.put, qy, qz, ja, i64_w, i32_w]
     rfl
    refine pure_ (i := 4) (N := some 33) (v := ?_) (a' := ?_) (jl 9 23) rfl rfl (xE HT_.out jk) (fun _ _ _ h => h) (Or.inl ⟨by rfl, ?_⟩) ?_ ?_
    rotate_left
    ·
     intro w'
     go_simp
     with_reducible rfl
    rotate_left
    ·
     simp only [Act.put, qy, qz, ja, i64_w, i32_w]
     rfl
    refine take_ (i := 3) (N := some 32) (v := ?_) (a' := ?_) (jl 9 31) rfl rfl (xY HT_.out HW_.out jk) (fun _ _ _ h => h) (Or.inl ⟨by rfl, ?_⟩) hHeld ?_ ?_
    rotate_left
    ·
     rintro w' ⟨s0, s1⟩
     go_simp
     with_reducible rfl
    rotate_left
    ·
     simp only [Act.put, qy, qz, ja, i64_w, i32_w]
     rfl
    refine pure_ (i := 5) (N := some 34) (v := ?_) (a' := ?_) (jl 9 63) rfl rfl (xE HT_.out jk) (fun _ _ _ h => h) (Or.inl ⟨by rfl, ?_⟩) ?_ ?_
    rotate_left
    ·
     intro w'
     go_simp
     with_reducible rfl
    rotate_left
    ·
     simp only [Act.put, qy, qz, ja, i64_w, i32_w]
     rfl
    refine take_ (i := 6) (N := some 35) (v := ?_) (a' := ?_) (jl 9 127) rfl rfl (xY HT_.out HW_.out jk) (fun _ _ _ h => h) (Or.inl ⟨by rfl, ?_⟩) hHeld ?_ ?_
    rotate_left
    ·
     rintro w' ⟨s0, s1⟩
     go_simp
     with_reducible rfl
    rotate_left
    ·
     simp only [Act.put, qy, qz, ja, i64_w, i32_w]
     rfl
    refine one_ (i := 7) (N := some 36) (jl 9 255) rfl rfl (one_of HT_.out jk) (by decide) (fun K hK => ?_)
    refine goes_ Try.func83 jk rfl #[] (by rfl) rfl rfl qc ?_
    with_reducible refine (line_never_int.calls  t151 _ A16.out).mono ?_
    rintro e w' ⟨rfl, ⟨nd, rfl⟩⟩
    refine ⟨_, rfl, ?_⟩
    refine hK.out _ _ ⟨hHeld.1, hHeld.2⟩ (fun hHeld => ?_)
    clear hK K
    refine norm_ (a' := ?_) ?_ ?_
    rotate_left
    ·
     show Act.put _ (some 36) _ = _
     simp only [Act.put, qy, qz, ja, i64_w, i32_w]
     rfl
    refine pure_ (i := 8) (N := some 37) (v := ?_) (a' := ?_) (jl 9 511) rfl rfl (xE HT_.out jk) (fun _ _ _ h => h) (Or.inl ⟨by rfl, ?_⟩) ?_ ?_
    rotate_left
    ·
     intro w'
     go_simp
     with_reducible rfl
    rotate_left
    ·
     simp only [Act.put, qy, qz, ja, i64_w, i32_w]
     rfl
    refine done_ (done_of HT_.out jk) ?_
    have p152 : 0 ≤ (x26_2 : Int) := qr
    have q152 : x26_2 < (t146.length : Int) := qr
    obtain ⟨ad152, A152_0, c152_0, e152, hx152_0, hl152_0, hi152_0⟩ := at_L1 (Kd.xJ HO_6.out).2.2 x26_2 p152 q152
    obtain rfl : ad149 = ad152 := (by injection e152)
    obtain ⟨ce152, hce152, hMe152, hcc152⟩ := Kd.S_get HO_6.out [] x26_2 p152 (by first | exact q152 | exact qr | (have e_ := (Kd.xJ HO_6.out).1; omega))
    obtain ⟨ve152_0, rfl, ge152_0⟩ := hMe152
    have hv152_0 := hcc152 0 _ rfl
    rw [Nat.add_zero, show ((Kd.slice 3 (Kd.int .i64))).sz = 1 from rfl, Nat.mul_one] at hv152_0
    replace hv152_0 := qx (hv152_0.symm.trans hx152_0)
    rw [hv152_0] at ge152_0
    have HL152_0 := xA.mk (show Kd.R (Kd.int .i64) 3 _ _ _ _ (rd_L1 t146 x26_2) from ge152_0)
    clear hv152_0 ge152_0
    clear hcc152 hce152
    have HR152_0 := xA.mk hi152_0
    have HC152_0 := xA.mk hl152_0
    clear hi152_0 hl152_0
    replace p152 := eq_true p152
    replace q152 := eq_true q152
    have ea_ := qx (hx149_0.symm.trans hx152_0)
    injection ea_ with ea_ en_ ec_
    subst ea_
    subst ec_
    clear en_
    have p153 : 0 ≤ (x26_2 : Int) := qr
    have q153 : x26_2 < ((rd_L1 t146 x26_2).length : Int) := qr
    obtain ⟨ad153, e153, hx153_0⟩ := Kd.xU (by repeat (first | (with_reducible exact HR152_0.out) | (with_reducible refine Kd.C_alloc ?_ _) | (with_reducible refine Kd.C_drewN ?_ _) | (with_reducible refine Kd.C_drew ?_) | exact HR152_0.out)) x26_2 p153 q153
    cases e153
    replace p153 := eq_true p153
    replace q153 := eq_true q153
    try go_wp2_with (first | ((with_reducible refine xK (f := 89) rfl ?_); refine xS (some 60) rfl rfl Try.func89 jk rfl #[.int .i64 (rd (rd_L1 t146 x26_2) x26_2), .int .i64 x7_1] rfl qc ?_; (with_reducible refine (line_gcd.calls k2 (rd (rd_L1 t146 x26_2) x26_2) x7_1 t155 _ A36.out).mono ?_); rintro e w40 ⟨rfl, hb⟩; refine ⟨_, rfl, ?_⟩; replace HO_6 := xA.mk (Kd.xX (qh HO_6.out) hb); replace HL149_0 := xA.mk (Kd.R_below (qi HL149_0.out) hb); replace HL152_0 := xA.mk (Kd.R_below (qi HL152_0.out) hb); replace BK141 := xA.mk (xO (g := gb141) (o := .cells #[.int .i64 0, .int .i64 0] 37 (0, 0)) (qn BK141.out) hb); replace BK142 := xA.mk (xO (g := gb142) (o := .cells #[.int .i64 x143000_2, .int .i64 x143001_2] 37 (0, 0)) (qn BK142.out) hb); replace HR149_0 := xA.mk (Kd.yC (by repeat (first | (with_reducible exact HR149_0.out) | (with_reducible refine Kd.C_alloc ?_ _) | (with_reducible refine Kd.C_drewN ?_ _) | (with_reducible refine Kd.C_drew ?_) | exact HR149_0.out)) hb); replace HR152_0 := xA.mk (Kd.yC (by repeat (first | (with_reducible exact HR152_0.out) | (with_reducible refine Kd.C_alloc ?_ _) | (with_reducible refine Kd.C_drewN ?_ _) | (with_reducible refine Kd.C_drew ?_) | exact HR152_0.out)) hb); replace HB := xA.mk (xF (by repeat (first | (with_reducible first | exact HB.out | apply xR | apply xP | apply xN | refine xM ?_ GE141.out | refine xM ?_ GE142.out) | exact HB.out)) hb); (try clear hb); (try clear hb2); (try clear hk); (try clear hi)))
    have n0_ := xA.mk (Kd.xV HO_6.out)
    have n1_ := xA.mk (Kd.R_drew HL149_0.out)
    have n2_ := xA.mk (Kd.R_drew HL152_0.out)
    have n3_ := xA.mk (xH BK141.out)
    have n4_ := xA.mk (xH BK142.out)
    have n5_ := xA.mk (Kd.C_drew HR149_0.out)
    have n6_ := xA.mk (Kd.C_drew HR152_0.out)
    have n7_ := xA.mk (xN HB.out)
    clear HO_6
    clear HL149_0
    clear HL152_0
    clear BK141
    clear BK142
    clear HR149_0
    clear HR152_0
    clear HB
    have HO_6 := n0_
    have HL149_0 := n1_
    have HL152_0 := n2_
    have BK141 := n3_
    have BK142 := n4_
    have HR149_0 := n5_
    have HR152_0 := n6_
    have HB := n7_
    clear n0_ n1_ n2_ n3_ n4_ n5_ n6_ n7_
    refine start_ (n := 9) (S := fun w' => True) (ds := []) (jl 9 0) jk rfl rfl trivial (fun hHeld => ?_); refine with_tabW lgpace.tab14 lgpace.bits14 (fun HT_ HW_ => ?_)
    generalize w40.drew = w41 at HO_6 HL149_0 HL152_0 BK141 BK142 HR149_0 HR152_0 HB hHeld ⊢
    refine pure_ (i := 0) (N := some 61) (v := ?_) (a' := ?_) (jl 9 1) rfl rfl (xE HT_.out jk) (fun _ _ _ h => h) (Or.inl ⟨by rfl, ?_⟩) ?_ ?_
    rotate_left
    ·
     intro w'
     go_simp
     with_reducible rfl
    rotate_left
    ·
     simp only [Act.put, qy, qz, ja, i64_w, i32_w]
     rfl
    refine pure_ (i := 1) (N := some 62) (v := ?_) (a' := ?_) (jl 9 3) rfl rfl (xE HT_.out jk) (fun _ _ _ h => h) (Or.inl ⟨by rfl, ?_⟩) ?_ ?_
    rotate_left
    ·
     intro w'
     go_simp
     with_reducible rfl
    rotate_left
    ·
     simp only [Act.put, qy, qz, ja, i64_w, i32_w]
     rfl
    refine pure_ (i := 2) (N := some 63) (v := ?_) (a' := ?_) (jl 9 7) rfl rfl (xE HT_.out jk) (fun _ _ _ h => h) (Or.inl ⟨by rfl, ?_⟩) ?_ ?_
    rotate_left
    ·
     intro w'
     go_simp
     with_reducible rfl
    rotate_left
    ·
     simp only [Act.put, qy, qz, ja, i64_w, i32_w]
     rfl
    refine pure_ (i := 3) (N := some 64) (v := ?_) (a' := ?_) (jl 9 15) rfl rfl (xE HT_.out jk) (fun _ _ _ h => h) (Or.inl ⟨by rfl, ?_⟩) ?_ ?_
    rotate_left
    ·
     intro w'
     go_simp
     with_reducible rfl
    rotate_left
    ·
     simp only [Act.put, qy, qz, ja, i64_w, i32_w]
     rfl
    refine pure_ (i := 4) (N := some 65) (v := ?_) (a' := ?_) (jl 9 31) rfl rfl (xE HT_.out jk) (fun _ _ _ h => h) (Or.inl ⟨by rfl, ?_⟩) ?_ ?_
    rotate_left
    ·
     intro w'
     go_simp
     with_reducible rfl
    rotate_left
    ·
     simp only [Act.put, qy, qz, ja, i64_w, i32_w]
     rfl
    refine pure_ (i := 5) (N := some 66) (v := ?_) (a' := ?_) (jl 9 63) rfl rfl (xE HT_.out jk) (fun _ _ _ h => h) (Or.inl ⟨by rfl, ?_⟩) ?_ ?_
    rotate_left
    ·
     intro w'
     go_simp
     with_reducible rfl
    rotate_left
    ·
     simp only [Act.put, qy, qz, ja, i64_w, i32_w]
     rfl
    refine pure_ (i := 6) (N := some 67) (v := ?_) (a' := ?_) (jl 9 127) rfl rfl (xE HT_.out jk) (fun _ _ _ h => h) (Or.inl ⟨by rfl, ?_⟩) ?_ ?_
    rotate_left
    ·
     intro w'
     go_simp
     with_reducible rfl
    rotate_left
    ·
     simp only [Act.put, qy, qz, ja, i64_w, i32_w]
     rfl
    refine one_ (i := 7) (N := none) (jl 9 255) rfl rfl (one_of HT_.out jk) (by decide) (fun K hK => ?_)
    have hs42 : w41.cell? ⟨gb142, 0, none⟩ = some (.int .i64 x143000_2) := (xB BK142.out 0).trans rfl
    have hfs42 := xC BK142.out 0
    have hns42_0 := NB141_142.out
    have hms42_0 := NB142_141.out
    have hs43 : w41.cell? ⟨gb142, 1, none⟩ = some (.int .i64 x143001_2) := (xB BK142.out 1).trans rfl
    have hfs43 := xC BK142.out 1
    have hns43_0 := NB141_142.out
    have hms43_0 := NB142_141.out
    refine skip_ (w1 := ?_) (by rfl) rfl ?_ ?_
    rotate_left
    ·
     go_simp
     rfl
    refine hK.out _ _ trivial (fun hHeld => ?_)
    clear hK K
    refine pure_ (i := 8) (N := some 5) (v := ?_) (a' := ?_) (jl 9 511) rfl rfl (xE HT_.out jk) (fun _ _ _ h => h) (Or.inl ⟨by rfl, ?_⟩) ?_ ?_
    rotate_left
    ·
     intro w'
     go_simp
     with_reducible rfl
    rotate_left
    ·
     simp only [Act.put, qy, qz, ja, i64_w, i32_w]
     rfl
    refine done_ (done_of HT_.out jk) ?_
    try go_wp2
    go_roundg k2
    case measure => have := HK1.out; have := HK2.out; omega
    case rel => exact ⟨(true), (wrap64 (x26_2 + 1)), (wrap64 (Int.tdiv (rd (rd_L1 t146 x26_2) x26_2) t155)), (wrap64 (Int.tdiv x7_1 t155)), rfl, rfl, H', ⟨by have := HK1.out; have := HK2.out; omega⟩, ⟨by (with_reducible repeat (first | apply Kd.S_alloc | apply Kd.yA | apply Kd.xV)); exact Kd.xQ (Kd.S_far (p := ⟨gb142, 1, none⟩) (Kd.S_far (p := ⟨gb142, 0, none⟩) (Kd.S_types HO_6.out BK142.out (by decide)) (fun _ hk => hk.2) (.int .i64 (wrap64 (Int.tdiv (rd (rd_L1 t146 x26_2) x26_2) t155)))) (fun _ hk => hk.2) (.int .i64 (wrap64 (Int.tdiv x7_1 t155)))) (fun _ hk => trivial)⟩, ⟨by (with_reducible repeat (first | refine xI ?_ _ | refine xH ?_ | refine xG ?_ _)); refine blk_far ?_ NB141_142.out _; (with_reducible repeat (first | refine xI ?_ _ | refine xH ?_ | refine xG ?_ _)); refine blk_far ?_ NB141_142.out _; (with_reducible repeat (first | refine xI ?_ _ | refine xH ?_ | refine xG ?_ _)); exact BK141.out⟩, ⟨by (with_reducible repeat (first | refine xI ?_ _ | refine xH ?_ | refine xG ?_ _)); refine xT (cs := #[.int .i64 (wrap64 (Int.tdiv (rd (rd_L1 t146 x26_2) x26_2) t155)), .int .i64 x143001_2]) ?_ 1 _ rfl; (with_reducible repeat (first | refine xI ?_ _ | refine xH ?_ | refine xG ?_ _)); refine xT (cs := #[.int .i64 x143000_2, .int .i64 x143001_2]) ?_ 0 _ rfl; (with_reducible repeat (first | refine xI ?_ _ | refine xH ?_ | refine xG ?_ _)); exact BK142.out⟩, ⟨by repeat (first | (with_reducible first | exact HB.out | apply xR | apply xP | apply xN | refine xM ?_ GE141.out | refine xM ?_ GE142.out) | exact HB.out)⟩⟩
   subst c20
   have H1 : (if (wrap64 ((rd (rd_L1 t146 x26_2) x26_2) * x143001_2)) > (wrap64 (x143000_2 * x7_1)) then ((line_gcd.f k2 (rd (rd_L1 t146 x26_2) x26_2) x7_1).bind fun t154 => (if t154 = 0 then (none) else (lgpace.l1 k2 l0 true t146 x7_1 (l0.length : Int) (wrap64 (x26_2 + 1)) (wrap64 (Int.tdiv (rd (rd_L1 t146 x26_2) x26_2) t154)) (wrap64 (Int.tdiv x7_1 t154))))) else (lgpace.l1 k2 l0 true t146 x7_1 (l0.length : Int) (wrap64 (x26_2 + 1)) x143000_2 x143001_2)) = some (r1, r2, r3) := by rw [if_pos rfl] at H; exact H
   clear H
   have H := H1
   clear H1
   by_cases c21 : (wrap64 ((rd (rd_L1 t146 x26_2) x26_2) * x143001_2)) > (wrap64 (x143000_2 * x7_1))
   rotate_left
   ·
    rw [if_neg c21] at H
    have c21b0 : decide ((wrap64 (x143000_2 * x7_1)) < (wrap64 ((rd (rd_L1 t146 x26_2) x26_2) * x143001_2))) = false := qv c21
    clear c21
    have H' := xA.mk H
    clear H
    try go_wp2
    have n0_ := xA.mk (Kd.xV HO_6.out)
    have n1_ := xA.mk (xH BK141.out)
    have n2_ := xA.mk (xH BK142.out)
    have n3_ := xA.mk (xN HB.out)
    clear HO_6
    clear BK141
    clear BK142
    clear HB
    have HO_6 := n0_
    have BK141 := n1_
    have BK142 := n2_
    have HB := n3_
    clear n0_ n1_ n2_ n3_
    obtain ⟨Ao33, co33, eo33⟩ := Kd.yD HO_6.out
    (first | subst eo33 | (injection eo33 with f1_ f2_ f3_; have f4_ := f1_.symm; have f5_ := f3_.symm; clear f1_ f2_ f3_; subst f4_; subst f5_))
    have p149 : 0 ≤ (x26_2 : Int) := qq
    have q149 : x26_2 < (t146.length : Int) := qq
    obtain ⟨ad149, A149_0, c149_0, e149, hx149_0, hl149_0, hi149_0⟩ := at_L1 (Kd.xJ HO_6.out).2.2 x26_2 p149 q149
    cases e149
    obtain ⟨ce149, hce149, hMe149, hcc149⟩ := Kd.S_get HO_6.out [] x26_2 p149 (by first | exact q149 | exact qq | (have e_ := (Kd.xJ HO_6.out).1; omega))
    obtain ⟨ve149_0, rfl, ge149_0⟩ := hMe149
    have hv149_0 := hcc149 0 _ rfl
    rw [Nat.add_zero, show ((Kd.slice 3 (Kd.int .i64))).sz = 1 from rfl, Nat.mul_one] at hv149_0
    replace hv149_0 := qx (hv149_0.symm.trans hx149_0)
    rw [hv149_0] at ge149_0
    have HL149_0 := xA.mk (show Kd.R (Kd.int .i64) 3 _ _ _ _ (rd_L1 t146 x26_2) from ge149_0)
    clear hv149_0 ge149_0
    clear hcc149 hce149
    have HR149_0 := xA.mk hi149_0
    have HC149_0 := xA.mk hl149_0
    clear hi149_0 hl149_0
    replace p149 := eq_true p149
    replace q149 := eq_true q149
    have p150 : 0 ≤ (x26_2 : Int) := qq
    have q150 : x26_2 < ((rd_L1 t146 x26_2).length : Int) := qq
    obtain ⟨ad150, e150, hx150_0⟩ := Kd.xU (by repeat (first | (with_reducible exact HR149_0.out) | exact HR149_0.out)) x26_2 p150 q150
    cases e150
    replace p150 := eq_true p150
    replace q150 := eq_true q150
    refine start_ (n := 9) (S := fun w' => w'.cell? (ad149.add (x26_2).toNat) = some (.slice (some ad150) (rd_L1 t146 x26_2).length c149_0) ∧ w'.cell? (ad150.add (x26_2).toNat) = some (.int .i64 (rd (rd_L1 t146 x26_2) x26_2))) (ds := []) (jl 9 0) jk rfl rfl ⟨hx149_0, hx150_0⟩ (fun hHeld => ?_); refine with_tabW lgpace.tab10 lgpace.bits10 (fun HT_ HW_ => ?_)
    generalize wr.drew = w32 at HO_6 BK141 BK142 HB HL149_0 HR149_0 hx149_0 hx150_0 hHeld ⊢
    refine pure_ (i := 0) (N := some 29) (v := ?_) (a' := ?_) (jl 9 1) rfl rfl (xE HT_.out jk) (fun _ _ _ h => h) (Or.inl ⟨by rfl, ?_⟩) ?_ ?_
    rotate_left
    ·
     intro w'
     go_simp
     with_reducible rfl
    rotate_left
    ·
     simp only [Act.put, qy, qz, ja, i64_w, i32_w]
     rfl
    refine pure_ (i := 1) (N := some 30) (v := ?_) (a' := ?_) (jl 9 3) rfl rfl (xE HT_.out jk) (fun _ _ _ h => h) (Or.inl ⟨by rfl, ?_⟩) ?_ ?_
    rotate_left
    ·
     intro w'
     go_simp
     with_reducible rfl
    rotate_left
    ·
     simp only [Act.put, qy, qz, ja, i64_w, i32_w]
     rfl
    refine pure_ (i := 2) (N := some 31) (v := ?_) (a' := ?_) (jl 9 7) rfl rfl (xE HT_.out jk) (fun _ _ _ h => h) (Or.inl ⟨by rfl, ?_⟩) ?_ ?_
    rotate_left
    ·
     intro w'
     go_simp
     with_reducible rfl
    rotate_left
    ·
     simp only [Act.put, qy, qz, ja, i64_w, i32_w]
     rfl
    refine pure_ (i := 4) (N := some 33) (v := ?_) (a' := ?_) (jl 9 23) rfl rfl (xE HT_.out jk) (fun _ _ _ h => h) (Or.inl ⟨by rfl, ?_⟩) ?_ ?_
    rotate_left
    ·
     intro w'
     go_simp
     with_reducible rfl
    rotate_left
    ·
     simp only [Act.put, qy, qz, ja, i64_w, i32_w]
     rfl
    refine take_ (i := 3) (N := some 32) (v := ?_) (a' := ?_) (jl 9 31) rfl rfl (xY HT_.out HW_.out jk) (fun _ _ _ h => h) (Or.inl ⟨by rfl, ?_⟩) hHeld ?_ ?_
    rotate_left
    ·
     rintro w' ⟨s0, s1⟩
     go_simp
     with_reducible rfl
    rotate_left
    ·
     simp only [Act.put, qy, qz, ja, i64_w, i32_w]
     rfl
    refine pure_ (i := 5) (N := some 34) (v := ?_) (a' := ?_) (jl 9 63) rfl rfl (xE HT_.out jk) (fun _ _ _ h => h) (Or.inl ⟨by rfl, ?_⟩) ?_ ?_
    rotate_left
    ·
     intro w'
     go_simp
     with_reducible rfl
    rotate_left
    ·
     simp only [Act.put, qy, qz, ja, i64_w, i32_w]
     rfl
    refine take_ (i := 6) (N := some 35) (v := ?_) (a' := ?_) (jl 9 127) rfl rfl (xY HT_.out HW_.out jk) (fun _ _ _ h => h) (Or.inl ⟨by rfl, ?_⟩) hHeld ?_ ?_
    rotate_left
    ·
     rintro w' ⟨s0, s1⟩
     go_simp
     with_reducible rfl
    rotate_left
    ·
     simp only [Act.put, qy, qz, ja, i64_w, i32_w]
     rfl
    refine one_ (i := 7) (N := some 36) (jl 9 255) rfl rfl (one_of HT_.out jk) (by decide) (fun K hK => ?_)
    refine goes_ Try.func83 jk rfl #[] (by rfl) rfl rfl qc ?_
    with_reducible refine (line_never_int.calls  t151 _ A16.out).mono ?_
    rintro e w' ⟨rfl, ⟨nd, rfl⟩⟩
    refine ⟨_, rfl, ?_⟩
    refine hK.out _ _ ⟨hHeld.1, hHeld.2⟩ (fun hHeld => ?_)
    clear hK K
    refine norm_ (a' := ?_) ?_ ?_
    rotate_left
    ·
     show Act.put _ (some 36) _ = _
     simp only [Act.put, qy, qz, ja, i64_w, i32_w]
     rfl
    refine pure_ (i := 8) (N := some 37) (v := ?_) (a' := ?_) (jl 9 511) rfl rfl (xE HT_.out jk) (fun _ _ _ h => h) (Or.inl ⟨by rfl, ?_⟩) ?_ ?_
    rotate_left
    ·
     intro w'
     go_simp
     with_reducible rfl
    rotate_left
    ·
     simp only [Act.put, qy, qz, ja, i64_w, i32_w]
     rfl
    refine done_ (done_of HT_.out jk) ?_
    have p152 : 0 ≤ (x26_2 : Int) := qq
    have q152 : x26_2 < (t146.length : Int) := qq
    obtain ⟨ad152, A152_0, c152_0, e152, hx152_0, hl152_0, hi152_0⟩ := at_L1 (Kd.xJ HO_6.out).2.2 x26_2 p152 q152
    obtain rfl : ad149 = ad152 := (by injection e152)
    obtain ⟨ce152, hce152, hMe152, hcc152⟩ := Kd.S_get HO_6.out [] x26_2 p152 (by first | exact q152 | exact qq | (have e_ := (Kd.xJ HO_6.out).1; omega))
    obtain ⟨ve152_0, rfl, ge152_0⟩ := hMe152
    have hv152_0 := hcc152 0 _ rfl
    rw [Nat.add_zero, show ((Kd.slice 3 (Kd.int .i64))).sz = 1 from rfl, Nat.mul_one] at hv152_0
    replace hv152_0 := qx (hv152_0.symm.trans hx152_0)
    rw [hv152_0] at ge152_0
    have HL152_0 := xA.mk (show Kd.R (Kd.int .i64) 3 _ _ _ _ (rd_L1 t146 x26_2) from ge152_0)
    clear hv152_0 ge152_0
    clear hcc152 hce152
    have HR152_0 := xA.mk hi152_0
    have HC152_0 := xA.mk hl152_0
    clear hi152_0 hl152_0
    replace p152 := eq_true p152
    replace q152 := eq_true q152
    have ea_ := qx (hx149_0.symm.trans hx152_0)
    injection ea_ with ea_ en_ ec_
    subst ea_
    subst ec_
    clear en_
    have p153 : 0 ≤ (x26_2 : Int) := qq
    have q153 : x26_2 < ((rd_L1 t146 x26_2).length : Int) := qq
    obtain ⟨ad153, e153, hx153_0⟩ := Kd.xU (by repeat (first | (with_reducible exact HR152_0.out) | exact HR152_0.out)) x26_2 p153 q153
    cases e153
    replace p153 := eq_true p153
    replace q153 := eq_true q153
    have hnb34 := NB142_141.out
    have hnc34 := NB141_142.out
    have hcz35_0 : w32.cell? ⟨gb142, 0, none⟩ = some (.int .i64 x143000_2) := (xB BK142.out 0).trans rfl
    have hcz35_1 : w32.cell? ⟨gb142, 1, none⟩ = some (.int .i64 x143001_2) := (xB BK142.out 1).trans rfl
    have hfz35_0 := xC BK142.out 0
    have hfz35_1 := xC BK142.out 1
    try go_wp2
    go_roundg k2
    case measure => have := HK1.out; have := HK2.out; omega
    case rel => exact ⟨(true), (wrap64 (x26_2 + 1)), (x143000_2), (x143001_2), rfl, rfl, H', ⟨by have := HK1.out; have := HK2.out; omega⟩, ⟨by exact HO_6.out⟩, ⟨qn BK141.out⟩, ⟨qn BK142.out⟩, ⟨by repeat (first | (with_reducible first | exact HB.out | apply xR | apply xP | apply xN | refine xM ?_ GE141.out | refine xM ?_ GE142.out) | exact HB.out)⟩⟩
   rw [if_pos c21] at H
   have c21b0 : decide ((wrap64 (x143000_2 * x7_1)) < (wrap64 ((rd (rd_L1 t146 x26_2) x26_2) * x143001_2))) = true := qu c21
   clear c21
   replace H := qw H
   obtain ⟨t154, A220, H⟩ := H
   replace H : (if t154 = 0 then (none) else (lgpace.l1 k2 l0 true t146 x7_1 (l0.length : Int) (wrap64 (x26_2 + 1)) (wrap64 (Int.tdiv (rd (rd_L1 t146 x26_2) x26_2) t154)) (wrap64 (Int.tdiv x7_1 t154)))) = some (r1, r2, r3) := H
   have A22 := xA.mk A220
   clear A220
   by_cases c23 : t154 = 0
   ·
    rw [if_pos c23] at H
    exact absurd H (by simp)
   rw [if_neg c23] at H
   have c23b0 : (t154 == 0) = false := jg c23
   have H' := xA.mk H
   clear H
   try go_wp2
   have n0_ := xA.mk (Kd.xV HO_6.out)
   have n1_ := xA.mk (xH BK141.out)
   have n2_ := xA.mk (xH BK142.out)
   have n3_ := xA.mk (xN HB.out)
   clear HO_6
   clear BK141
   clear BK142
   clear HB
   have HO_6 := n0_
   have BK141 := n1_
   have BK142 := n2_
   have HB := n3_
   clear n0_ n1_ n2_ n3_
   obtain ⟨Ao25, co25, eo25⟩ := Kd.yD HO_6.out
   (first | subst eo25 | (injection eo25 with f1_ f2_ f3_; have f4_ := f1_.symm; have f5_ := f3_.symm; clear f1_ f2_ f3_; subst f4_; subst f5_))
   have p149 : 0 ≤ (x26_2 : Int) := qq
   have q149 : x26_2 < (t146.length : Int) := qq
   obtain ⟨ad149, A149_0, c149_0, e149, hx149_0, hl149_0, hi149_0⟩ := at_L1 (Kd.xJ HO_6.out).2.2 x26_2 p149 q149
   cases e149
   obtain ⟨ce149, hce149, hMe149, hcc149⟩ := Kd.S_get HO_6.out [] x26_2 p149 (by first | exact q149 | exact qq | (have e_ := (Kd.xJ HO_6.out).1; omega))
   obtain ⟨ve149_0, rfl, ge149_0⟩ := hMe149
   have hv149_0 := hcc149 0 _ rfl
   rw [Nat.add_zero, show ((Kd.slice 3 (Kd.int .i64))).sz = 1 from rfl, Nat.mul_one] at hv149_0
   replace hv149_0 := qx (hv149_0.symm.trans hx149_0)
   rw [hv149_0] at ge149_0
   have HL149_0 := xA.mk (show Kd.R (Kd.int .i64) 3 _ _ _ _ (rd_L1 t146 x26_2) from ge149_0)
   clear hv149_0 ge149_0
   clear hcc149 hce149
   have HR149_0 := xA.mk hi149_0
   have HC149_0 := xA.mk hl149_0
   clear hi149_0 hl149_0
   replace p149 := eq_true p149
   replace q149 := eq_true q149
   have p150 : 0 ≤ (x26_2 : Int) := qq
   have q150 : x26_2 < ((rd_L1 t146 x26_2).length : Int) := qq
   obtain ⟨ad150, e150, hx150_0⟩ := Kd.xU (by repeat (first | (with_reducible exact HR149_0.out) | exact HR149_0.out)) x26_2 p150 q150
   cases e150
   replace p150 := eq_true p150
   replace q150 := eq_true q150
   refine start_ (n := 9) (S := fun w' => w'.cell? (ad149.add (x26_2).toNat) = some (.slice (some ad150) (rd_L1 t146 x26_2).length c149_0) ∧ w'.cell? (ad150.add (x26_2).toNat) = some (.int .i64 (rd (rd_L1 t146 x26_2) x26_2))) (ds := []) (jl 9 0) jk rfl rfl ⟨hx149_0, hx150_0⟩ (fun hHeld => ?_); refine with_tabW lgpace.tab10 lgpace.bits10 (fun HT_ HW_ => ?_)
   generalize wr.drew = w24 at HO_6 BK141 BK142 HB HL149_0 HR149_0 hx149_0 hx150_0 hHeld ⊢
   refine pure_ (i := 0) (N := some 29) (v := ?_) (a' := ?_) (jl 9 1) rfl rfl (xE HT_.out jk) (fun _ _ _ h => h) (Or.inl ⟨by rfl, ?_⟩) ?_ ?_
   rotate_left
   ·
    intro w'
    go_simp
    with_reducible rfl
   rotate_left
   ·
    simp only [Act.put, qy, qz, ja, i64_w, i32_w]
    rfl
   refine pure_ (i := 1) (N := some 30) (v := ?_) (a' := ?_) (jl 9 3) rfl rfl (xE HT_.out jk) (fun _ _ _ h => h) (Or.inl ⟨by rfl, ?_⟩) ?_ ?_
   rotate_left
   ·
    intro w'
    go_simp
    with_reducible rfl
   rotate_left
   ·
    simp only [Act.put, qy, qz, ja, i64_w, i32_w]
    rfl
   refine pure_ (i := 2) (N := some 31) (v := ?_) (a' := ?_) (jl 9 7) rfl rfl (xE HT_.out jk) (fun _ _ _ h => h) (Or.inl ⟨by rfl, ?_⟩) ?_ ?_
   rotate_left
   ·
    intro w'
    go_simp
    with_reducible rfl
   rotate_left
   ·
    simp only [Act.put, qy, qz, ja, i64_w, i32_w]
    rfl
   refine pure_ (i := 4) (N := some 33) (v := ?_) (a' := ?_) (jl 9 23) rfl rfl (xE HT_.out jk) (fun _ _ _ h => h) (Or.inl ⟨by rfl, ?_⟩) ?_ ?_
   rotate_left
   ·
    intro w'
    go_simp
    with_reducible rfl
   rotate_left
   ·
    simp only [Act.put, qy, qz, ja, i64_w, i32_w]
    rfl
   refine take_ (i := 3) (N := some 32) (v := ?_) (a' := ?_) (jl 9 31) rfl rfl (xY HT_.out HW_.out jk) (fun _ _ _ h => h) (Or.inl ⟨by rfl, ?_⟩) hHeld ?_ ?_
   rotate_left
   ·
    rintro w' ⟨s0, s1⟩
    go_simp
    with_reducible rfl
   rotate_left
   ·
    simp only [Act.put, qy, qz, ja, i64_w, i32_w]
    rfl
   refine pure_ (i := 5) (N := some 34) (v := ?_) (a' := ?_) (jl 9 63) rfl rfl (xE HT_.out jk) (fun _ _ _ h => h) (Or.inl ⟨by rfl, ?_⟩) ?_ ?_
   rotate_left
   ·
    intro w'
    go_simp
    with_reducible rfl
   rotate_left
   ·
    simp only [Act.put, qy, qz, ja, i64_w, i32_w]
    rfl
   refine take_ (i := 6) (N := some 35) (v := ?_) (a' := ?_) (jl 9 127) rfl rfl (xY HT_.out HW_.out jk) (fun _ _ _ h => h) (Or.inl ⟨by rfl, ?_⟩) hHeld ?_ ?_
   rotate_left
   ·
    rintro w' ⟨s0, s1⟩
    go_simp
    with_reducible rfl
   rotate_left
   ·
    simp only [Act.put, qy, qz, ja, i64_w, i32_w]
    rfl
   refine one_ (i := 7) (N := some 36) (jl 9 255) rfl rfl (one_of HT_.out jk) (by decide) (fun K hK => ?_)
   refine goes_ Try.func83 jk rfl #[] (by rfl) rfl rfl qc ?_
   with_reducible refine (line_never_int.calls  t151 _ A16.out).mono ?_
   rintro e w' ⟨rfl, ⟨nd, rfl⟩⟩
   refine ⟨_, rfl, ?_⟩
   refine hK.out _ _ ⟨hHeld.1, hHeld.2⟩ (fun hHeld => ?_)
   clear hK K
   refine norm_ (a' := ?_) ?_ ?_
   rotate_left
   ·
    show Act.put _ (some 36) _ = _
    simp only [Act.put, qy, qz, ja, i64_w, i32_w]
    rfl
   refine pure_ (i := 8) (N := some 37) (v := ?_) (a' := ?_) (jl 9 511) rfl rfl (xE HT_.out jk) (fun _ _ _ h => h) (Or.inl ⟨by rfl, ?_⟩) ?_ ?_
   rotate_left
   ·
    intro w'
    go_simp
    with_reducible rfl
   rotate_left
   ·
    simp only [Act.put, qy, qz, ja, i64_w, i32_w]
    rfl
   refine done_ (done_of HT_.out jk) ?_
   have p152 : 0 ≤ (x26_2 : Int) := qr
   have q152 : x26_2 < (t146.length : Int) := qr
   obtain ⟨ad152, A152_0, c152_0, e152, hx152_0, hl152_0, hi152_0⟩ := at_L1 (Kd.xJ HO_6.out).2.2 x26_2 p152 q152
   obtain rfl : ad149 = ad152 := (by injection e152)
   obtain ⟨ce152, hce152, hMe152, hcc152⟩ := Kd.S_get HO_6.out [] x26_2 p152 (by first | exact q152 | exact qr | (have e_ := (Kd.xJ HO_6.out).1; omega))
   obtain ⟨ve152_0, rfl, ge152_0⟩ := hMe152
   have hv152_0 := hcc152 0 _ rfl
   rw [Nat.add_zero, show ((Kd.slice 3 (Kd.int .i64))).sz = 1 from rfl, Nat.mul_one] at hv152_0
   replace hv152_0 := qx (hv152_0.symm.trans hx152_0)
   rw [hv152_0] at ge152_0
   have HL152_0 := xA.mk (show Kd.R (Kd.int .i64) 3 _ _ _ _ (rd_L1 t146 x26_2) from ge152_0)
   clear hv152_0 ge152_0
   clear hcc152 hce152
   have HR152_0 := xA.mk hi152_0
   have HC152_0 := xA.mk hl152_0
   clear hi152_0 hl152_0
   replace p152 := eq_true p152
   replace q152 := eq_true q152
   have ea_ := qx (hx149_0.symm.trans hx152_0)
   injection ea_ with ea_ en_ ec_
   subst ea_
   subst ec_
   clear en_
   have p153 : 0 ≤ (x26_2 : Int) := qr
   have q153 : x26_2 < ((rd_L1 t146 x26_2).length : Int) := qr
   obtain ⟨ad153, e153, hx153_0⟩ := Kd.xU (by repeat (first | (with_reducible exact HR152_0.out) | (with_reducible refine Kd.C_alloc ?_ _) | (with_reducible refine Kd.C_drewN ?_ _) | (with_reducible refine Kd.C_drew ?_) | exact HR152_0.out)) x26_2 p153 q153
   cases e153
   replace p153 := eq_true p153
   replace q153 := eq_true q153
   have hnb26 := NB142_141.out
   have hnc26 := NB141_142.out
   have hcz27_0 : w24.cell? ⟨gb142, 0, none⟩ = some (.int .i64 x143000_2) := (xB BK142.out 0).trans rfl
   have hcz27_1 : w24.cell? ⟨gb142, 1, none⟩ = some (.int .i64 x143001_2) := (xB BK142.out 1).trans rfl
   have hfz27_0 := xC BK142.out 0
   have hfz27_1 := xC BK142.out 1
   try go_wp2_with (first | ((with_reducible refine xK (f := 89) rfl ?_); refine xS (some 60) rfl rfl Try.func89 jk rfl #[.int .i64 (rd (rd_L1 t146 x26_2) x26_2), .int .i64 x7_1] rfl qc ?_; (with_reducible refine (line_gcd.calls k2 (rd (rd_L1 t146 x26_2) x26_2) x7_1 t154 _ A22.out).mono ?_); rintro e w28 ⟨rfl, hb⟩; refine ⟨_, rfl, ?_⟩; replace HO_6 := xA.mk (Kd.xX (qh HO_6.out) hb); replace HL149_0 := xA.mk (Kd.R_below (qi HL149_0.out) hb); replace HL152_0 := xA.mk (Kd.R_below (qi HL152_0.out) hb); replace BK141 := xA.mk (xO (g := gb141) (o := .cells #[.int .i64 0, .int .i64 0] 37 (0, 0)) (qn BK141.out) hb); replace BK142 := xA.mk (xO (g := gb142) (o := .cells #[.int .i64 x143000_2, .int .i64 x143001_2] 37 (0, 0)) (qn BK142.out) hb); replace HR149_0 := xA.mk (Kd.yC (by repeat (first | (with_reducible exact HR149_0.out) | (with_reducible refine Kd.C_alloc ?_ _) | (with_reducible refine Kd.C_drewN ?_ _) | (with_reducible refine Kd.C_drew ?_) | exact HR149_0.out)) hb); replace HR152_0 := xA.mk (Kd.yC (by repeat (first | (with_reducible exact HR152_0.out) | (with_reducible refine Kd.C_alloc ?_ _) | (with_reducible refine Kd.C_drewN ?_ _) | (with_reducible refine Kd.C_drew ?_) | exact HR152_0.out)) hb); replace HB := xA.mk (xF (by repeat (first | (with_reducible first | exact HB.out | apply xR | apply xP | apply xN | refine xM ?_ GE141.out | refine xM ?_ GE142.out) | exact HB.out)) hb); (try clear hb); (try clear hb2); (try clear hk); (try clear hi)))
   have n0_ := xA.mk (Kd.xV HO_6.out)
   have n1_ := xA.mk (Kd.R_drew HL149_0.out)
   have n2_ := xA.mk (Kd.R_drew HL152_0.out)
   have n3_ := xA.mk (xH BK141.out)
   have n4_ := xA.mk (xH BK142.out)
   have n5_ := xA.mk (Kd.C_drew HR149_0.out)
   have n6_ := xA.mk (Kd.C_drew HR152_0.out)
   have n7_ := xA.mk (xN HB.out)
   clear HO_6
   clear HL149_0
   clear HL152_0
   clear BK141
   clear BK142
   clear HR149_0
   clear HR152_0
   clear HB
   have HO_6 := n0_
   have HL149_0 := n1_
   have HL152_0 := n2_
   have BK141 := n3_
   have BK142 := n4_
   have HR149_0 := n5_
   have HR152_0 := n6_
   have HB := n7_
   clear n0_ n1_ n2_ n3_ n4_ n5_ n6_ n7_
   refine start_ (n := 9) (S := fun w' => True) (ds := []) (jl 9 0) jk rfl rfl trivial (fun hHeld => ?_); refine with_tabW lgpace.tab14 lgpace.bits14 (fun HT_ HW_ => ?_)
   generalize w28.drew = w29 at HO_6 HL149_0 HL152_0 BK141 BK142 HR149_0 HR152_0 HB hHeld ⊢
   refine pure_ (i := 0) (N := some 61) (v := ?_) (a' := ?_) (jl 9 1) rfl rfl (xE HT_.out jk) (fun _ _ _ h => h) (Or.inl ⟨by rfl, ?_⟩) ?_ ?_
   rotate_left
   ·
    intro w'
    go_simp
    with_reducible rfl
   rotate_left
   ·
    simp only [Act.put, qy, qz, ja, i64_w, i32_w]
    rfl
   refine pure_ (i := 1) (N := some 62) (v := ?_) (a' := ?_) (jl 9 3) rfl rfl (xE HT_.out jk) (fun _ _ _ h => h) (Or.inl ⟨by rfl, ?_⟩) ?_ ?_
   rotate_left
   ·
    intro w'
    go_simp
    with_reducible rfl
   rotate_left
   ·
    simp only [Act.put, qy, qz, ja, i64_w, i32_w]
    rfl
   refine pure_ (i := 2) (N := some 63) (v := ?_) (a' := ?_) (jl 9 7) rfl rfl (xE HT_.out jk) (fun _ _ _ h => h) (Or.inl ⟨by rfl, ?_⟩) ?_ ?_
   rotate_left
   ·
    intro w'
    go_simp
    with_reducible rfl
   rotate_left
   ·
    simp only [Act.put, qy, qz, ja, i64_w, i32_w]
    rfl
   refine pure_ (i := 3) (N := some 64) (v := ?_) (a' := ?_) (jl 9 15) rfl rfl (xE HT_.out jk) (fun _ _ _ h => h) (Or.inl ⟨by rfl, ?_⟩) ?_ ?_
   rotate_left
   ·
    intro w'
    go_simp
    with_reducible rfl
   rotate_left
   ·
    simp only [Act.put, qy, qz, ja, i64_w, i32_w]
    rfl
   refine pure_ (i := 4) (N := some 65) (v := ?_) (a' := ?_) (jl 9 31) rfl rfl (xE HT_.out jk) (fun _ _ _ h => h) (Or.inl ⟨by rfl, ?_⟩) ?_ ?_
   rotate_left
   ·
    intro w'
    go_simp
    with_reducible rfl
   rotate_left
   ·
    simp only [Act.put, qy, qz, ja, i64_w, i32_w]
    rfl
   refine pure_ (i := 5) (N := some 66) (v := ?_) (a' := ?_) (jl 9 63) rfl rfl (xE HT_.out jk) (fun _ _ _ h => h) (Or.inl ⟨by rfl, ?_⟩) ?_ ?_
   rotate_left
   ·
    intro w'
    go_simp
    with_reducible rfl
   rotate_left
   ·
    simp only [Act.put, qy, qz, ja, i64_w, i32_w]
    rfl
   refine pure_ (i := 6) (N := some 67) (v := ?_) (a' := ?_) (jl 9 127) rfl rfl (xE HT_.out jk) (fun _ _ _ h => h) (Or.inl ⟨by rfl, ?_⟩) ?_ ?_
   rotate_left
   ·
    intro w'
    go_simp
    with_reducible rfl
   rotate_left
   ·
    simp only [Act.put, qy, qz, ja, i64_w, i32_w]
    rfl
   refine one_ (i := 7) (N := none) (jl 9 255) rfl rfl (one_of HT_.out jk) (by decide) (fun K hK => ?_)
   have hs30 : w29.cell? ⟨gb142, 0, none⟩ = some (.int .i64 x143000_2) := (xB BK142.out 0).trans rfl
   have hfs30 := xC BK142.out 0
   have hns30_0 := NB141_142.out
   have hms30_0 := NB142_141.out
   have hs31 : w29.cell? ⟨gb142, 1, none⟩ = some (.int .i64 x143001_2) := (xB BK142.out 1).trans rfl
   have hfs31 := xC BK142.out 1
   have hns31_0 := NB141_142.out
   have hms31_0 := NB142_141.out
   refine skip_ (w1 := ?_) (by rfl) rfl ?_ ?_
   rotate_left
   ·
    go_simp
    rfl
   refine hK.out _ _ trivial (fun hHeld => ?_)
   clear hK K
   refine pure_ (i := 8) (N := some 5) (v := ?_) (a' := ?_) (jl 9 511) rfl rfl (xE HT_.out jk) (fun _ _ _ h => h) (Or.inl ⟨by rfl, ?_⟩) ?_ ?_
   rotate_left
   ·
    intro w'
    go_simp
    with_reducible rfl
   rotate_left
   ·
    simp only [Act.put, qy, qz, ja, i64_w, i32_w]
    rfl
   refine done_ (done_of HT_.out jk) ?_
   try go_wp2
   go_roundg k2
   case measure => have := HK1.out; have := HK2.out; omega
   case rel => exact ⟨(true), (wrap64 (x26_2 + 1)), (wrap64 (Int.tdiv (rd (rd_L1 t146 x26_2) x26_2) t154)), (wrap64 (Int.tdiv x7_1 t154)), rfl, rfl, H', ⟨by have := HK1.out; have := HK2.out; omega⟩, ⟨by (with_reducible repeat (first | apply Kd.S_alloc | apply Kd.yA | apply Kd.xV)); exact Kd.xQ (Kd.S_far (p := ⟨gb142, 1, none⟩) (Kd.S_far (p := ⟨gb142, 0, none⟩) (Kd.S_types HO_6.out BK142.out (by decide)) (fun _ hk => hk.2) (.int .i64 (wrap64 (Int.tdiv (rd (rd_L1 t146 x26_2) x26_2) t154)))) (fun _ hk => hk.2) (.int .i64 (wrap64 (Int.tdiv x7_1 t154)))) (fun _ hk => trivial)⟩, ⟨by (with_reducible repeat (first | refine xI ?_ _ | refine xH ?_ | refine xG ?_ _)); refine blk_far ?_ NB141_142.out _; (with_reducible repeat (first | refine xI ?_ _ | refine xH ?_ | refine xG ?_ _)); refine blk_far ?_ NB141_142.out _; (with_reducible repeat (first | refine xI ?_ _ | refine xH ?_ | refine xG ?_ _)); exact BK141.out⟩, ⟨by (with_reducible repeat (first | refine xI ?_ _ | refine xH ?_ | refine xG ?_ _)); refine xT (cs := #[.int .i64 (wrap64 (Int.tdiv (rd (rd_L1 t146 x26_2) x26_2) t154)), .int .i64 x143001_2]) ?_ 1 _ rfl; (with_reducible repeat (first | refine xI ?_ _ | refine xH ?_ | refine xG ?_ _)); refine xT (cs := #[.int .i64 x143000_2, .int .i64 x143001_2]) ?_ 0 _ rfl; (with_reducible repeat (first | refine xI ?_ _ | refine xH ?_ | refine xG ?_ _)); exact BK142.out⟩, ⟨by repeat (first | (with_reducible first | exact HB.out | apply xR | apply xP | apply xN | refine xM ?_ GE141.out | refine xM ?_ GE142.out) | exact HB.out)⟩⟩
def line_Speed.f (k : Nat) (l0 : List (List Int)) : Option (Int × Int × Int) := (line_of.f k l0).bind fun bt385 => (if bt385.2 = true then ((lgpace.f k bt385.1).bind fun bt389 => (if bt389.2.2 = true then (some (bt389.1, bt389.2.1, 0)) else (some (0, 0, 10)))) else (some (0, 0, 2)))
theorem line_Speed.mono : ∀ a0 k, LeO (line_Speed.f k a0) (line_Speed.f (k + 1) a0) := by
 intro a0 k
 unfold line_Speed.f
 repeat' first
   | (with_reducible exact LeO.refl _)
   | (with_reducible exact LeO.none _)
   | (with_reducible refine LeO.ite ?_ ?_)
   | (with_reducible refine LeO.bind ?_ (fun _ => ?_))
   | exact lgpace.mono _ _
   | exact line_of.mono _ _
theorem line_Speed.calls (k : Nat) (A0 : Option Addr) (c0 : Nat) (l0 : List (List Int)) (r1 : Int) (r2 : Int) (r3 : Int) (w : World) (hr0 : Kd.C (Kd.slice 3 (Kd.int .i64)) w A0 l0.length l0) (hc0 : l0.length ≤ c0) (h : line_Speed.f k l0 = some (r1, r2, r3)) :
  Calls Try.prog 22 #[.slice A0 l0.length c0] w fun e w' => e = .returned (.tuple #[.agg #[.int .i64 r1, .int .i64 r2], .int .i64 r3]) ∧ Below w.heap.size w w' := by
 have hu37 := Try.underlying37
 have HR0 := xA.mk hr0
 have HC0 := xA.mk hc0
 clear hr0 hc0
 have HB := xA.mk (Below.refl w.heap.size w)
 have H : ((line_of.f k l0).bind fun bt385 => (if bt385.2 = true then ((lgpace.f k bt385.1).bind fun bt389 => (if bt389.2.2 = true then (some (bt389.1, bt389.2.1, 0)) else (some (0, 0, 10)))) else (some (0, 0, 2)))) = some (r1, r2, r3) := h
 clear h
 replace H := qw H
 obtain ⟨⟨t385, t388⟩, A20, H⟩ := H
 replace H : (if t388 = true then ((lgpace.f k t385).bind fun bt389 => (if bt389.2.2 = true then (some (bt389.1, bt389.2.1, 0)) else (some (0, 0, 10)))) else (some (0, 0, 2))) = some (r1, r2, r3) := H
 have A2 := xA.mk A20
 clear A20
 by_cases c3 : t388 = true
 rotate_left
 ·
  replace c3 := Bool.eq_false_iff.mpr c3
  subst c3
  have H1 : (some (0, 0, 2)) = some (r1, r2, r3) := by rw [if_neg (show ¬ (false = true) by decide)] at H; exact H
  clear H
  have H := H1
  clear H1
  simp only [Option.some.injEq, Prod.mk.injEq] at H
  obtain ⟨rfl, rfl, rfl⟩ := H
  go_enter Try.func22, Try.ntmps22
  go_wp2_with (first | ((with_reducible refine xW (N := 2) rfl ?_); refine yF ?hg (N := 2) ?hd (cs := #[.int .i64 0, .int .i64 0]) (t := 37) ?hr ?_; (case hd => rfl); (case hg => rfl); (case hr => go_simp); intro gb384 hg w22 hbox hb; have n0_ := xA.mk (xF (HB.out) hb); have n1_ := xA.mk (hbox); have n2_ := xA.mk ((by rw [hg]; exact (xD (HB.out)) : w.heap.size ≤ gb384)); have n3_ := xA.mk ((by rw [hg]; exact (xD (HB.out)) : w.heap.size ≤ gb384)); clear HB; have HB := n0_; have BK384 := n1_; have GW384 := n2_; have GE384 := n3_; clear n0_ n1_ n2_ n3_; clear hb hbox hg) | ((with_reducible refine xK (f := 64) rfl ?_); refine xS (some 10) rfl rfl Try.func64 jk rfl #[.slice A0 l0.length c0] rfl qd ?_; (with_reducible refine (line_of.calls k (fun k_ => k_ < w.heap.size) _ _ l0 t385 false _ ?side1 A2.out).mono ?_); (case side1 => exact Kd.V_mk HC0.out (Kd.F_below (Kd.C_F (Kd.heap_slice 3 (Kd.heap_int .i64)) HR0.out) (HB.out))); rintro e w23 ⟨v386, rfl, ho0, hb⟩; refine ⟨_, rfl, ?_⟩; have n0_ := xA.mk (Kd.V_lower (Kd.V_mono (ok' := fun k_ => k_ ≠ gb384) ho0 (fun k_ hk_ => Or.elim hk_ (fun hs_ => fun e_ => Nat.not_le.2 hs_ (by rw [e_]; exact GW384.out)) (fun hn_ => (Kd.freshB (g := gb384) (o := .cells #[.int .i64 0, .int .i64 0] 37 (0, 0)) (by exact BK384.out) k_ hn_)))) (xD (HB.out))); have n1_ := xA.mk (xO (g := gb384) (o := .cells #[.int .i64 0, .int .i64 0] 37 (0, 0)) (by exact BK384.out) hb); have n2_ := xA.mk (xF (HB.out) hb); clear BK384; clear HB; have HO387 := n0_; have BK384 := n1_; have HB := n2_; clear n0_ n1_ n2_; have hcz24_0 : w23.cell? ⟨gb384, 0, none⟩ = some (.int .i64 0) := (xB BK384.out 0).trans rfl; have hcz24_1 : w23.cell? ⟨gb384, 1, none⟩ = some (.int .i64 0) := (xB BK384.out 1).trans rfl; have hfz24_0 := xC BK384.out 0; have hfz24_1 := xC BK384.out 1))
  refine bodyPost_ret (results_ct rfl _ _ gb384 37 #[.int .i64 0, .int .i64 0] (0, 0) _ rfl (by refine xT (cs := #[.int .i64 0, .int .i64 0]) ?_ 1 _ rfl; refine xT (cs := #[.int .i64 0, .int .i64 0]) ?_ 0 _ rfl; exact BK384.out) Try.underlying37 rfl jk) rfl ?_
  exact ⟨rfl, by repeat (first | exact HB.out | apply xR | apply xP | apply xN | refine xM ?_ GE384.out)⟩
 subst c3
 have H1 : ((lgpace.f k t385).bind fun bt389 => (if bt389.2.2 = true then (some (bt389.1, bt389.2.1, 0)) else (some (0, 0, 10)))) = some (r1, r2, r3) := by rw [if_pos rfl] at H; exact H
 clear H
 have H := H1
 clear H1
 replace H := qw H
 obtain ⟨⟨t389, t390, t391⟩, A40, H⟩ := H
 replace H : (if t391 = true then (some (t389, t390, 0)) else (some (0, 0, 10))) = some (r1, r2, r3) := H
 have A4 := xA.mk A40
 clear A40
 by_cases c5 : t391 = true
 ·
  subst c5
  have H1 : (some (t389, t390, 0)) = some (r1, r2, r3) := by rw [if_pos rfl] at H; exact H
  clear H
  have H := H1
  clear H1
  simp only [Option.some.injEq, Prod.mk.injEq] at H
  obtain ⟨rfl, rfl, rfl⟩ := H
  go_enter Try.func22, Try.ntmps22
  go_wp2_with (first | ((with_reducible refine xW (N := 2) rfl ?_); refine yF ?hg (N := 2) ?hd (cs := #[.int .i64 0, .int .i64 0]) (t := 37) ?hr ?_; (case hd => rfl); (case hg => rfl); (case hr => go_simp); intro gb384 hg w6 hbox hb; have n0_ := xA.mk (xF (HB.out) hb); have n1_ := xA.mk (hbox); have n2_ := xA.mk ((by rw [hg]; exact (xD (HB.out)) : w.heap.size ≤ gb384)); have n3_ := xA.mk ((by rw [hg]; exact (xD (HB.out)) : w.heap.size ≤ gb384)); clear HB; have HB := n0_; have BK384 := n1_; have GW384 := n2_; have GE384 := n3_; clear n0_ n1_ n2_ n3_; clear hb hbox hg) | ((with_reducible refine xK (f := 64) rfl ?_); refine xS (some 10) rfl rfl Try.func64 jk rfl #[.slice A0 l0.length c0] rfl qd ?_; (with_reducible refine (line_of.calls k (fun k_ => k_ < w.heap.size) _ _ l0 t385 true _ ?side1 A2.out).mono ?_); (case side1 => exact Kd.V_mk HC0.out (Kd.F_below (Kd.C_F (Kd.heap_slice 3 (Kd.heap_int .i64)) HR0.out) (HB.out))); rintro e w7 ⟨v386, rfl, ho0, hb⟩; refine ⟨_, rfl, ?_⟩; have n0_ := xA.mk (Kd.V_lower (Kd.V_mono (ok' := fun k_ => k_ ≠ gb384) ho0 (fun k_ hk_ => Or.elim hk_ (fun hs_ => fun e_ => Nat.not_le.2 hs_ (by rw [e_]; exact GW384.out)) (fun hn_ => (Kd.freshB (g := gb384) (o := .cells #[.int .i64 0, .int .i64 0] 37 (0, 0)) (by exact BK384.out) k_ hn_)))) (xD (HB.out))); have n1_ := xA.mk (xO (g := gb384) (o := .cells #[.int .i64 0, .int .i64 0] 37 (0, 0)) (by exact BK384.out) hb); have n2_ := xA.mk (xF (HB.out) hb); clear BK384; clear HB; have HO387 := n0_; have BK384 := n1_; have HB := n2_; clear n0_ n1_ n2_; obtain ⟨Ao8, co8, eo8⟩ := Kd.V_slice HO387.out; subst eo8) | ((with_reducible refine xK (f := 65) rfl ?_); refine xS (some 18) rfl rfl Try.func65 jk rfl #[.slice Ao8 t385.length co8] rfl qd ?_; (with_reducible refine (lgpace.calls k _ _ t385 t389 t390 true _ ?side1 ?side2 A4.out).mono ?_); (case side1 => repeat (first | exact (Kd.yB HO387.out).2.2)); (case side2 => exact (Kd.yB HO387.out).2.1); rintro e w9 ⟨rfl, hb⟩; refine ⟨_, rfl, ?_⟩; have n0_ := xA.mk (Kd.V_below (by exact HO387.out) hb); have n1_ := xA.mk (xO (g := gb384) (o := .cells #[.int .i64 0, .int .i64 0] 37 (0, 0)) (by exact BK384.out) hb); have n2_ := xA.mk (xF (HB.out) hb); clear HO387; clear BK384; clear HB; have HO387 := n0_; have BK384 := n1_; have HB := n2_; clear n0_ n1_ n2_) | ((with_reducible refine xW (N := 6) rfl ?_); refine yF ?hg (N := 6) ?hd (cs := #[.int .i64 0, .int .i64 0]) (t := 37) ?hr ?_; (case hd => rfl); (case hg => rfl); (case hr => go_simp); intro gb392 hg w10 hbox hb; have n0_ := xA.mk (Kd.V_below (Kd.V_elderB (by exact HO387.out) gb392 (Nat.le_of_eq hg.symm)) hb); have n1_ := xA.mk (xO (g := gb384) (o := .cells #[.int .i64 0, .int .i64 0] 37 (0, 0)) (by exact BK384.out) hb); have n2_ := xA.mk (xF (HB.out) hb); have n3_ := xA.mk (hbox); have n4_ := xA.mk ((by rw [hg]; exact (xD (HB.out)) : w.heap.size ≤ gb392)); have n5_ := xA.mk ((by rw [hg]; exact (xD (HB.out)) : w.heap.size ≤ gb392)); have n6_ := xA.mk ((by rw [hg]; exact Nat.ne_of_lt (blk_lt (g := gb384) (o := .cells #[.int .i64 0, .int .i64 0] 37 (0, 0)) (by exact BK384.out)) : gb384 ≠ gb392)); have n7_ := xA.mk ((by rw [hg]; exact Nat.ne_of_gt (blk_lt (g := gb384) (o := .cells #[.int .i64 0, .int .i64 0] 37 (0, 0)) (by exact BK384.out)) : gb392 ≠ gb384)); clear HO387; clear BK384; clear HB; have HO387 := n0_; have BK384 := n1_; have HB := n2_; have BK392 := n3_; have GW392 := n4_; have GE392 := n5_; have NB384_392 := n6_; have NB392_384 := n7_; clear n0_ n1_ n2_ n3_ n4_ n5_ n6_ n7_; clear hb hbox hg; have hnb11 := NB392_384.out; have hnc11 := NB384_392.out; have hcz12_0 : w10.cell? ⟨gb392, 0, none⟩ = some (.int .i64 0) := (xB BK392.out 0).trans rfl; have hcz12_1 : w10.cell? ⟨gb392, 1, none⟩ = some (.int .i64 0) := (xB BK392.out 1).trans rfl; have hfz12_0 := xC BK392.out 0; have hfz12_1 := xC BK392.out 1; have hcz13_0 : w10.cell? ⟨gb384, 0, none⟩ = some (.int .i64 0) := (xB BK384.out 0).trans rfl; have hcz13_1 : w10.cell? ⟨gb384, 1, none⟩ = some (.int .i64 0) := (xB BK384.out 1).trans rfl; have hfz13_0 := xC BK384.out 0; have hfz13_1 := xC BK384.out 1))
  refine bodyPost_ret (results_ct rfl _ _ gb384 37 #[.int .i64 t389, .int .i64 t390] (0, 0) _ rfl (by refine xT (cs := #[.int .i64 t389, .int .i64 0]) ?_ 1 _ rfl; refine xT (cs := #[.int .i64 0, .int .i64 0]) ?_ 0 _ rfl; refine blk_far ?_ NB384_392.out _; refine blk_far ?_ NB384_392.out _; exact BK384.out) Try.underlying37 rfl jk) rfl ?_
  exact ⟨rfl, by repeat (first | exact HB.out | apply xR | apply xP | apply xN | refine xM ?_ GE384.out | refine xM ?_ GE392.out)⟩
 replace c5 := Bool.eq_false_iff.mpr c5
 subst c5
 have H1 : (some (0, 0, 10)) = some (r1, r2, r3) := by rw [if_neg (show ¬ (false = true) by decide)] at H; exact H
 clear H
 have H := H1
 clear H1
 simp only [Option.some.injEq, Prod.mk.injEq] at H
 obtain ⟨rfl, rfl, rfl⟩ := H
 go_enter Try.func22, Try.ntmps22
 go_wp2_with (first | ((with_reducible refine xW (N := 2) rfl ?_); refine yF ?hg (N := 2) ?hd (cs := #[.int .i64 0, .int .i64 0]) (t := 37) ?hr ?_; (case hd => rfl); (case hg => rfl); (case hr => go_simp); intro gb384 hg w14 hbox hb; have n0_ := xA.mk (xF (HB.out) hb); have n1_ := xA.mk (hbox); have n2_ := xA.mk ((by rw [hg]; exact (xD (HB.out)) : w.heap.size ≤ gb384)); have n3_ := xA.mk ((by rw [hg]; exact (xD (HB.out)) : w.heap.size ≤ gb384)); clear HB; have HB := n0_; have BK384 := n1_; have GW384 := n2_; have GE384 := n3_; clear n0_ n1_ n2_ n3_; clear hb hbox hg) | ((with_reducible refine xK (f := 64) rfl ?_); refine xS (some 10) rfl rfl Try.func64 jk rfl #[.slice A0 l0.length c0] rfl qd ?_; (with_reducible refine (line_of.calls k (fun k_ => k_ < w.heap.size) _ _ l0 t385 true _ ?side1 A2.out).mono ?_); (case side1 => exact Kd.V_mk HC0.out (Kd.F_below (Kd.C_F (Kd.heap_slice 3 (Kd.heap_int .i64)) HR0.out) (HB.out))); rintro e w15 ⟨v386, rfl, ho0, hb⟩; refine ⟨_, rfl, ?_⟩; have n0_ := xA.mk (Kd.V_lower (Kd.V_mono (ok' := fun k_ => k_ ≠ gb384) ho0 (fun k_ hk_ => Or.elim hk_ (fun hs_ => fun e_ => Nat.not_le.2 hs_ (by rw [e_]; exact GW384.out)) (fun hn_ => (Kd.freshB (g := gb384) (o := .cells #[.int .i64 0, .int .i64 0] 37 (0, 0)) (by exact BK384.out) k_ hn_)))) (xD (HB.out))); have n1_ := xA.mk (xO (g := gb384) (o := .cells #[.int .i64 0, .int .i64 0] 37 (0, 0)) (by exact BK384.out) hb); have n2_ := xA.mk (xF (HB.out) hb); clear BK384; clear HB; have HO387 := n0_; have BK384 := n1_; have HB := n2_; clear n0_ n1_ n2_; obtain ⟨Ao16, co16, eo16⟩ := Kd.V_slice HO387.out; subst eo16) | ((with_reducible refine xK (f := 65) rfl ?_); refine xS (some 18) rfl rfl Try.func65 jk rfl #[.slice Ao16 t385.length co16] rfl qd ?_; (with_reducible refine (lgpace.calls k _ _ t385 t389 t390 false _ ?side1 ?side2 A4.out).mono ?_); (case side1 => repeat (first | exact (Kd.yB HO387.out).2.2)); (case side2 => exact (Kd.yB HO387.out).2.1); rintro e w17 ⟨rfl, hb⟩; refine ⟨_, rfl, ?_⟩; have n0_ := xA.mk (Kd.V_below (by exact HO387.out) hb); have n1_ := xA.mk (xO (g := gb384) (o := .cells #[.int .i64 0, .int .i64 0] 37 (0, 0)) (by exact BK384.out) hb); have n2_ := xA.mk (xF (HB.out) hb); clear HO387; clear BK384; clear HB; have HO387 := n0_; have BK384 := n1_; have HB := n2_; clear n0_ n1_ n2_) | ((with_reducible refine xW (N := 6) rfl ?_); refine yF ?hg (N := 6) ?hd (cs := #[.int .i64 0, .int .i64 0]) (t := 37) ?hr ?_; (case hd => rfl); (case hg => rfl); (case hr => go_simp); intro gb392 hg w18 hbox hb; have n0_ := xA.mk (Kd.V_below (Kd.V_elderB (by exact HO387.out) gb392 (Nat.le_of_eq hg.symm)) hb); have n1_ := xA.mk (xO (g := gb384) (o := .cells #[.int .i64 0, .int .i64 0] 37 (0, 0)) (by exact BK384.out) hb); have n2_ := xA.mk (xF (HB.out) hb); have n3_ := xA.mk (hbox); have n4_ := xA.mk ((by rw [hg]; exact (xD (HB.out)) : w.heap.size ≤ gb392)); have n5_ := xA.mk ((by rw [hg]; exact (xD (HB.out)) : w.heap.size ≤ gb392)); have n6_ := xA.mk ((by rw [hg]; exact Nat.ne_of_lt (blk_lt (g := gb384) (o := .cells #[.int .i64 0, .int .i64 0] 37 (0, 0)) (by exact BK384.out)) : gb384 ≠ gb392)); have n7_ := xA.mk ((by rw [hg]; exact Nat.ne_of_gt (blk_lt (g := gb384) (o := .cells #[.int .i64 0, .int .i64 0] 37 (0, 0)) (by exact BK384.out)) : gb392 ≠ gb384)); clear HO387; clear BK384; clear HB; have HO387 := n0_; have BK384 := n1_; have HB := n2_; have BK392 := n3_; have GW392 := n4_; have GE392 := n5_; have NB384_392 := n6_; have NB392_384 := n7_; clear n0_ n1_ n2_ n3_ n4_ n5_ n6_ n7_; clear hb hbox hg; have hnb19 := NB392_384.out; have hnc19 := NB384_392.out; have hcz20_0 : w18.cell? ⟨gb392, 0, none⟩ = some (.int .i64 0) := (xB BK392.out 0).trans rfl; have hcz20_1 : w18.cell? ⟨gb392, 1, none⟩ = some (.int .i64 0) := (xB BK392.out 1).trans rfl; have hfz20_0 := xC BK392.out 0; have hfz20_1 := xC BK392.out 1; have hcz21_0 : w18.cell? ⟨gb384, 0, none⟩ = some (.int .i64 0) := (xB BK384.out 0).trans rfl; have hcz21_1 : w18.cell? ⟨gb384, 1, none⟩ = some (.int .i64 0) := (xB BK384.out 1).trans rfl; have hfz21_0 := xC BK384.out 0; have hfz21_1 := xC BK384.out 1))
 refine bodyPost_ret (results_ct rfl _ _ gb384 37 #[.int .i64 0, .int .i64 0] (0, 0) _ rfl (by refine xT (cs := #[.int .i64 0, .int .i64 0]) ?_ 1 _ rfl; refine xT (cs := #[.int .i64 0, .int .i64 0]) ?_ 0 _ rfl; refine blk_far ?_ NB384_392.out _; refine blk_far ?_ NB384_392.out _; exact BK384.out) Try.underlying37 rfl jk) rfl ?_
 exact ⟨rfl, by repeat (first | exact HB.out | apply xR | apply xP | apply xN | refine xM ?_ GE384.out | refine xM ?_ GE392.out)⟩
mutual
def lgclosed.l0 : Nat → List (List Int) → List (List Int) → Int → Int → Option ((List (List Int)))
 | 0, _, _, _, _ => none
 | k + 1, x0, x3, x13, x14 => if x14 < x13 then (lgclosed.l1 k x0 x3 x14 x13 x14 (x0.length : Int) 0) else (lgclosed.l2 k x0 x3 (x0.length : Int) 0)
def lgclosed.l1 : Nat → List (List Int) → List (List Int) → Int → Int → Int → Int → Int → Option ((List (List Int)))
 | 0, _, _, _, _, _, _, _ => none
 | k + 1, x0, x3, x4, x13, x14, x18, x19 => if x19 < x18 then (if 0 ≤ x4 then (if x4 < (x3.length : Int) then (if 0 ≤ x19 then (if x19 < ((rd_L1 x3 x4).length : Int) then (if x4 < (x0.length : Int) then (if x19 < ((rd_L1 x0 x4).length : Int) then (lgclosed.l1 k x0 (x3.set (x4 : Int).toNat ((rd_L1 x3 x4).set (x19 : Int).toNat (mx (rd (rd_L1 x3 x4) x19) (rd (rd_L1 x0 x4) x19)))) x4 x13 x14 x18 (wrap64 (x19 + 1))) else (none)) else (none)) else (none)) else (none)) else (none)) else (none)) else (lgclosed.l0 k x0 x3 x13 (wrap64 (x14 + 1)))
def lgclosed.l2 : Nat → List (List Int) → List (List Int) → Int → Int → Option ((List (List Int)))
 | 0, _, _, _, _ => none
 | k + 1, x0, x3, x46, x47 => if x47 < x46 then (lgclosed.l3 k x0 x3 x47 x46 x47 (x0.length : Int) 0) else (some x3)
def lgclosed.l3 : Nat → List (List Int) → List (List Int) → Int → Int → Int → Int → Int → Option ((List (List Int)))
 | 0, _, _, _, _, _, _, _ => none
 | k + 1, x0, x3, x6, x46, x47, x51, x52 => if x52 < x51 then (lgclosed.l4 k x0 x3 x6 x52 x46 x47 x51 x52 (x0.length : Int) 0) else (lgclosed.l2 k x0 x3 x46 (wrap64 (x47 + 1)))
def lgclosed.l4 : Nat → List (List Int) → List (List Int) → Int → Int → Int → Int → Int → Int → Int → Int → Option ((List (List Int)))
 | 0, _, _, _, _, _, _, _, _, _, _ => none
 | k + 1, x0, x3, x6, x7, x46, x47, x51, x52, x56, x57 => if x57 < x56 then (if 0 ≤ x7 then (if x7 < (x3.length : Int) then (if 0 ≤ x57 then (if x57 < ((rd_L1 x3 x7).length : Int) then (if 0 ≤ x6 then (if x6 < ((rd_L1 x3 x7).length : Int) then (if x6 < (x3.length : Int) then (if x57 < ((rd_L1 x3 x6).length : Int) then ((line_both_int.f (rd (rd_L1 x3 x7) x6) (rd (rd_L1 x3 x6) x57)).bind fun t174 => (lgclosed.l4 k x0 (x3.set (x7 : Int).toNat ((rd_L1 x3 x7).set (x57 : Int).toNat (mx (rd (rd_L1 x3 x7) x57) t174))) x6 x7 x46 x47 x51 x52 x56 (wrap64 (x57 + 1)))) else (none)) else (none)) else (none)) else (none)) else (none)) else (none)) else (none)) else (none)) else (lgclosed.l3 k x0 x3 x6 x46 x47 x51 (wrap64 (x52 + 1)))
end
def lgclosed.f (k : Nat) (l0 : List (List Int)) : Option ((List (List Int))) := (line_one_int.f k (l0.length : Int)).bind fun t156 => (lgclosed.l0 k l0 t156 (l0.length : Int) 0)
theorem lgclosed.mono_l : ∀ k, (∀ y0 y1 y2 y3, LeO (lgclosed.l0 k y0 y1 y2 y3) (lgclosed.l0 (k + 1) y0 y1 y2 y3)) ∧ (∀ y0 y1 y2 y3 y4 y5 y6, LeO (lgclosed.l1 k y0 y1 y2 y3 y4 y5 y6) (lgclosed.l1 (k + 1) y0 y1 y2 y3 y4 y5 y6)) ∧ (∀ y0 y1 y2 y3, LeO (lgclosed.l2 k y0 y1 y2 y3) (lgclosed.l2 (k + 1) y0 y1 y2 y3)) ∧ (∀ y0 y1 y2 y3 y4 y5 y6, LeO (lgclosed.l3 k y0 y1 y2 y3 y4 y5 y6) (lgclosed.l3 (k + 1) y0 y1 y2 y3 y4 y5 y6)) ∧ (∀ y0 y1 y2 y3 y4 y5 y6 y7 y8 y9, LeO (lgclosed.l4 k y0 y1 y2 y3 y4 y5 y6 y7 y8 y9) (lgclosed.l4 (k + 1) y0 y1 y2 y3 y4 y5 y6 y7 y8 y9))
 | 0 => ⟨fun _ _ _ _ r h => by simp [lgclosed.l0] at h, fun _ _ _ _ _ _ _ r h => by simp [lgclosed.l1] at h, fun _ _ _ _ r h => by simp [lgclosed.l2] at h, fun _ _ _ _ _ _ _ r h => by simp [lgclosed.l3] at h, fun _ _ _ _ _ _ _ _ _ _ r h => by simp [lgclosed.l4] at h⟩
 | k + 1 => by
  obtain ⟨ih0, ih1, ih2, ih3, ih4⟩ := lgclosed.mono_l k
  refine ⟨?_, ?_, ?_, ?_, ?_⟩
  ·
   intro y0 y1 y2 y3
   unfold lgclosed.l0
   repeat' first
   | (with_reducible exact LeO.refl _)
   | (with_reducible exact LeO.none _)
   | (with_reducible refine LeO.ite ?_ ?_)
   | (with_reducible refine LeO.bind ?_ (fun _ => ?_))
   | exact ih0 _ _ _ _
   | exact ih1 _ _ _ _ _ _ _
   | exact ih2 _ _ _ _
   | exact ih3 _ _ _ _ _ _ _
   | exact ih4 _ _ _ _ _ _ _ _ _ _
   | exact line_one_int.mono _ _
  ·
   intro y0 y1 y2 y3 y4 y5 y6
   unfold lgclosed.l1
   repeat' first
   | (with_reducible exact LeO.refl _)
   | (with_reducible exact LeO.none _)
   | (with_reducible refine LeO.ite ?_ ?_)
   | (with_reducible refine LeO.bind ?_ (fun _ => ?_))
   | exact ih0 _ _ _ _
   | exact ih1 _ _ _ _ _ _ _
   | exact ih2 _ _ _ _
   | exact ih3 _ _ _ _ _ _ _
   | exact ih4 _ _ _ _ _ _ _ _ _ _
   | exact line_one_int.mono _ _
  ·
   intro y0 y1 y2 y3
   unfold lgclosed.l2
   repeat' first
   | (with_reducible exact LeO.refl _)
   | (with_reducible exact LeO.none _)
   | (with_reducible refine LeO.ite ?_ ?_)
   | (with_reducible refine LeO.bind ?_ (fun _ => ?_))
   | exact ih0 _ _ _ _
   | exact ih1 _ _ _ _ _ _ _
   | exact ih2 _ _ _ _
   | exact ih3 _ _ _ _ _ _ _
   | exact ih4 _ _ _ _ _ _ _ _ _ _
   | exact line_one_int.mono _ _
  ·
   intro y0 y1 y2 y3 y4 y5 y6
   unfold lgclosed.l3
   repeat' first
   | (with_reducible exact LeO.refl _)
   | (with_reducible exact LeO.none _)
   | (with_reducible refine LeO.ite ?_ ?_)
   | (with_reducible refine LeO.bind ?_ (fun _ => ?_))
   | exact ih0 _ _ _ _
   | exact ih1 _ _ _ _ _ _ _
   | exact ih2 _ _ _ _
   | exact ih3 _ _ _ _ _ _ _
   | exact ih4 _ _ _ _ _ _ _ _ _ _
   | exact line_one_int.mono _ _
  ·
   intro y0 y1 y2 y3 y4 y5 y6 y7 y8 y9
   unfold lgclosed.l4
   repeat' first
   | (with_reducible exact LeO.refl _)
   | (with_reducible exact LeO.none _)
   | (with_reducible refine LeO.ite ?_ ?_)
   | (with_reducible refine LeO.bind ?_ (fun _ => ?_))
   | exact ih0 _ _ _ _
   | exact ih1 _ _ _ _ _ _ _
   | exact ih2 _ _ _ _
   | exact ih3 _ _ _ _ _ _ _
   | exact ih4 _ _ _ _ _ _ _ _ _ _
   | exact line_one_int.mono _ _
theorem lgclosed.mono : ∀ a0 k, LeO (lgclosed.f k a0) (lgclosed.f (k + 1) a0) := by
 intro a0 k
 obtain ⟨ih0, ih1, ih2, ih3, ih4⟩ := lgclosed.mono_l k
 unfold lgclosed.f
 repeat' first
   | (with_reducible exact LeO.refl _)
   | (with_reducible exact LeO.none _)
   | (with_reducible refine LeO.ite ?_ ?_)
   | (with_reducible refine LeO.bind ?_ (fun _ => ?_))
   | exact ih0 _ _ _ _
   | exact ih1 _ _ _ _ _ _ _
   | exact ih2 _ _ _ _
   | exact ih3 _ _ _ _ _ _ _
   | exact ih4 _ _ _ _ _ _ _ _ _ _
   | exact line_one_int.mono _ _
def lgclosed.T8 : Bool × List (List Nat × List Nat) := (true, [([], []), ([], []), ([0, 1], [0, 1]), ([2], [2]), ([], []), ([], []), ([], []), ([5, 6], [5, 6]), ([7], [7]), ([], []), ([8, 9], [8, 9]), ([10], [10]), ([], []), ([], []), ([12, 13], [12, 13]), ([14], [14]), ([], []), ([15, 16], [15, 16]), ([17], [17]), ([11, 18], [11, 18]), ([3, 4, 0, 1, 2, 3, 4, 5, 6, 7, 8, 9, 10, 11, 12, 13, 14, 15, 16, 17, 18, 19], [3, 4]), ([20, 19, 0, 1, 2, 3, 4, 5, 6, 7, 8, 9, 10, 11, 12, 13, 14, 15, 16, 17, 18, 19], [19, 20])])
def lgclosed.B8 : List Nat := [0, 0, 3, 7, 0, 0, 0, 96, 224, 0, 992, 2016, 0, 0, 12288, 28672, 0, 126976, 258048, 524256, 1048575, 2097151]
theorem lgclosed.tab8 : rtab .any (opsOf Try.f66 8) = lgclosed.T8 := by kernel_rfl
theorem lgclosed.bits8 : waitsOk lgclosed.T8.2 lgclosed.B8 = true := by kernel_rfl
def lgclosed.T20 : Bool × List (List Nat × List Nat) := (true, [([], []), ([], []), ([0, 1], [0, 1]), ([2], [2]), ([], []), ([], []), ([], []), ([5, 6], [5, 6]), ([7], [7]), ([], []), ([8, 9], [8, 9]), ([10], [10]), ([], []), ([], []), ([12, 13], [12, 13]), ([14], [14]), ([], []), ([15, 16], [15, 16]), ([17], [17]), ([], []), ([], []), ([19, 20], [19, 20]), ([21], [21]), ([], []), ([22, 23], [22, 23]), ([24], [24]), ([18, 25], [18, 25]), ([11, 26], [11, 26]), ([3, 4, 0, 1, 2, 3, 4, 5, 6, 7, 8, 9, 10, 11, 12, 13, 14, 15, 16, 17, 18, 19, 20, 21, 22, 23, 24, 25, 26, 27], [3, 4]), ([28, 27, 26, 0, 1, 2, 3, 4, 5, 6, 7, 8, 9, 10, 11, 12, 13, 14, 15, 16, 17, 18, 19, 20, 21, 22, 23, 24, 25, 26, 27], [27, 28])])
def lgclosed.B20 : List Nat := [0, 0, 3, 7, 0, 0, 0, 96, 224, 0, 992, 2016, 0, 0, 12288, 28672, 0, 126976, 258048, 0, 0, 1572864, 3670016, 0, 16252928, 33030144, 67104768, 134217696, 268435455, 536870911]
theorem lgclosed.tab20 : rtab .any (opsOf Try.f66 20) = lgclosed.T20 := by kernel_rfl
theorem lgclosed.bits20 : waitsOk lgclosed.T20.2 lgclosed.B20 = true := by kernel_rfl
theorem lgclosed.calls (k : Nat) (A0 : Option Addr) (c0 : Nat) (l0 : List (List Int)) (r : List (List Int)) (w : World) (hr0 : Kd.C (Kd.slice 3 (Kd.int .i64)) w A0 l0.length l0) (hc0 : l0.length ≤ c0) (h : lgclosed.f k l0 = some r) :
  Calls Try.prog 66 #[.slice A0 l0.length c0] w fun e w' => ∃ v0_ : Value, e = .returned (v0_) ∧ Kd.S (Kd.slice 3 (Kd.int .i64)) 26 w' w.heap.size (fun _ => True) v0_ r ∧ Below w.heap.size w w' := by
 have HR0 := xA.mk hr0
 have HC0 := xA.mk hc0
 clear hr0 hc0
 have HB := xA.mk (Below.refl w.heap.size w)
 have H : ((line_one_int.f k (l0.length : Int)).bind fun t156 => (lgclosed.l0 k l0 t156 (l0.length : Int) 0)) = some r := h
 clear h
 replace H := qw H
 obtain ⟨t156, A20, H⟩ := H
 replace H : (lgclosed.l0 k l0 t156 (l0.length : Int) 0) = some r := H
 have A2 := xA.mk A20
 clear A20
 have H' := xA.mk H
 clear H
 go_enter Try.func66, Try.ntmps66
 go_wp2_with (first | ((with_reducible refine xK (f := 87) rfl ?_); refine xS (some 11) rfl rfl Try.func87 jk rfl #[.int .i64 (l0.length : Int)] rfl qd ?_; (with_reducible refine (line_one_int.calls k (l0.length : Int) t156 _ A2.out).mono ?_); rintro e w3 ⟨v157, rfl, ho0, hb⟩; refine ⟨_, rfl, ?_⟩; have HO158 := xA.mk (Kd.S_lower ho0 (xD (HB.out))); replace HB := xA.mk (xF (HB.out) hb)))
 go_loopg [14] k (fun kq v14 w' => ∃ (x3_1 : List (List Int)) (x14_1 : Int), v14 = .int .i64 x14_1 ∧ xA (lgclosed.l0 kq l0 x3_1 (l0.length : Int) x14_1 = some r) ∧ xA (kq ≤ k) ∧ xA (Kd.S (Kd.slice 3 (Kd.int .i64)) 26 w' w.heap.size (fun _ => True) v157 x3_1) ∧ xA (Below w.heap.size w w'))
 case atStart => exact ⟨(t156), (0), rfl, H', ⟨Nat.le_refl _⟩, ⟨by exact HO158.out⟩, ⟨HB.out⟩⟩
 case round =>
  clear H'
  obtain ⟨x3_1, x14_1, rfl, HA, HK1, HO_3, HB⟩ := hrel
  obtain _ | k1 := gk
  · exact absurd HA.out (by simp [lgclosed.l0])
  have H := HA.out
  clear HA
  simp only [lgclosed.l0] at H
  obtain ⟨c4b0, H⟩ | ⟨c4b0, H⟩ := itd_or H
  ·
   have H' := xA.mk H
   clear H
   go_wp2
   go_loopg [19] k1 (fun kq v19 w' => ∃ (x3_2 : List (List Int)) (x19_2 : Int), v19 = .int .i64 x19_2 ∧ xA (lgclosed.l1 kq l0 x3_2 x14_1 (l0.length : Int) x14_1 (l0.length : Int) x19_2 = some r) ∧ xA (kq ≤ k1) ∧ xA (Kd.S (Kd.slice 3 (Kd.int .i64)) 26 w' w.heap.size (fun _ => True) v157 x3_2) ∧ xA (Below w.heap.size w w'))
   case atStart => exact ⟨(x3_1), (0), rfl, H', ⟨Nat.le_refl _⟩, ⟨by exact HO_3.out⟩, ⟨HB.out⟩⟩
   case round =>
    clear H'
    obtain ⟨x3_2, x19_2, rfl, HA, HK2, HO_3, HB⟩ := hrel
    obtain _ | k2 := gk
    · exact absurd HA.out (by simp [lgclosed.l1])
    have H := HA.out
    clear HA
    simp only [lgclosed.l1] at H
    obtain ⟨c5b0, H⟩ | ⟨c5b0, H⟩ := itd_or H
    rotate_left
    ·
     have H' := xA.mk H
     clear H
     go_wp2
     go_roundg k2
     case measure => have := HK1.out; have := HK2.out; omega
     case rel => exact ⟨(x3_2), (wrap64 (x14_1 + 1)), rfl, H', ⟨by have := HK1.out; have := HK2.out; omega⟩, ⟨by exact HO_3.out⟩, ⟨HB.out⟩⟩
    obtain ⟨c6b0, H⟩ := xL H
    obtain ⟨c7b0, H⟩ := xL H
    obtain ⟨c8b0, H⟩ := xL H
    obtain ⟨c9b0, H⟩ := xL H
    obtain ⟨c10b0, H⟩ := xL H
    obtain ⟨c11b0, H⟩ := xL H
    obtain ⟨ji12, hji12⟩ : ∃ j_ : Int, (mx (rd (rd_L1 x3_2 x14_1) x19_2) (rd (rd_L1 l0 x14_1) x19_2)) = j_ := ⟨_, rfl⟩
    replace H : (lgclosed.l1 k2 l0 (x3_2.set (x14_1 : Int).toNat ((rd_L1 x3_2 x14_1).set (x19_2 : Int).toNat (ji12))) x14_1 (l0.length : Int) x14_1 (l0.length : Int) (wrap64 (x19_2 + 1))) = some r := by first | (rw [hji12] at H; exact H) | (simp only [hji12] at H ⊢; exact H)
    have hji12_ : (if (rd (rd_L1 x3_2 x14_1) x19_2) < (rd (rd_L1 l0 x14_1) x19_2) then (rd (rd_L1 l0 x14_1) x19_2) else (rd (rd_L1 x3_2 x14_1) x19_2)) = ji12 := hji12
    obtain ⟨y164, hy164⟩ : ∃ y_ : List Int, y_ = ((rd_L1 x3_2 x14_1).set (x19_2 : Int).toNat (ji12)) := ⟨_, rfl⟩
    replace H : (lgclosed.l1 k2 l0 (x3_2.set (x14_1 : Int).toNat y164) x14_1 (l0.length : Int) x14_1 (l0.length : Int) (wrap64 (x19_2 + 1))) = some r := by rw [hy164]; exact H
    have Ny164 := xA.mk hy164
    clear hy164
    obtain ⟨y166, hy166⟩ : ∃ y_ : List (List Int), y_ = (x3_2.set (x14_1 : Int).toNat y164) := ⟨_, rfl⟩
    replace H : (lgclosed.l1 k2 l0 y166 x14_1 (l0.length : Int) x14_1 (l0.length : Int) (wrap64 (x19_2 + 1))) = some r := by rw [hy166]; exact H
    have Ny166 := xA.mk hy166
    clear hy166
    have H' := xA.mk H
    clear H
    try go_wp2
    have n0_ := xA.mk (Kd.xV HO_3.out)
    have n1_ := xA.mk (xN HB.out)
    clear HO_3
    clear HB
    have HO_3 := n0_
    have HB := n1_
    clear n0_ n1_
    obtain ⟨Ao15, co15, eo15⟩ := Kd.yD HO_3.out
    (first | subst eo15 | (injection eo15 with f1_ f2_ f3_; have f4_ := f1_.symm; have f5_ := f3_.symm; clear f1_ f2_ f3_; subst f4_; subst f5_))
    have p159 : 0 ≤ (x14_1 : Int) := qq
    have q159 : x14_1 < (x3_2.length : Int) := qq
    obtain ⟨ad159, A159_0, c159_0, e159, hx159_0, hl159_0, hi159_0⟩ := at_L1 (Kd.xJ HO_3.out).2.2 x14_1 p159 q159
    cases e159
    obtain ⟨ce159, hce159, hMe159, hcc159⟩ := Kd.S_get HO_3.out [] x14_1 p159 (by first | exact q159 | exact qq | (have e_ := (Kd.xJ HO_3.out).1; omega))
    obtain ⟨ve159_0, rfl, ge159_0⟩ := hMe159
    have hv159_0 := hcc159 0 _ rfl
    rw [Nat.add_zero, show ((Kd.slice 3 (Kd.int .i64))).sz = 1 from rfl, Nat.mul_one] at hv159_0
    replace hv159_0 := qx (hv159_0.symm.trans hx159_0)
    rw [hv159_0] at ge159_0
    have HL159_0 := xA.mk (show Kd.R (Kd.int .i64) 3 _ _ _ _ (rd_L1 x3_2 x14_1) from ge159_0)
    clear hv159_0 ge159_0
    have HX159_0 := xA.mk hx159_0
    clear hcc159 hce159
    have HR159_0 := xA.mk hi159_0
    have HC159_0 := xA.mk hl159_0
    clear hi159_0 hl159_0
    replace p159 := eq_true p159
    replace q159 := eq_true q159
    have p160 : 0 ≤ (x14_1 : Int) := qq
    have q160 : x14_1 < (x3_2.length : Int) := qq
    obtain ⟨ad160, A160_0, c160_0, e160, hx160_0, hl160_0, hi160_0⟩ := at_L1 (Kd.xJ HO_3.out).2.2 x14_1 p160 q160
    obtain rfl : ad159 = ad160 := (by injection e160)
    obtain ⟨ce160, hce160, hMe160, hcc160⟩ := Kd.S_get HO_3.out [] x14_1 p160 (by first | exact q160 | exact qq | (have e_ := (Kd.xJ HO_3.out).1; omega))
    obtain ⟨ve160_0, rfl, ge160_0⟩ := hMe160
    have hv160_0 := hcc160 0 _ rfl
    rw [Nat.add_zero, show ((Kd.slice 3 (Kd.int .i64))).sz = 1 from rfl, Nat.mul_one] at hv160_0
    replace hv160_0 := qx (hv160_0.symm.trans hx160_0)
    rw [hv160_0] at ge160_0
    have HL160_0 := xA.mk (show Kd.R (Kd.int .i64) 3 _ _ _ _ (rd_L1 x3_2 x14_1) from ge160_0)
    clear hv160_0 ge160_0
    have HX160_0 := xA.mk hx160_0
    clear hcc160 hce160
    have HR160_0 := xA.mk hi160_0
    have HC160_0 := xA.mk hl160_0
    clear hi160_0 hl160_0
    replace p160 := eq_true p160
    replace q160 := eq_true q160
    have ea_ := qx (hx159_0.symm.trans hx160_0)
    injection ea_ with ea_ en_ ec_
    subst ea_
    subst ec_
    clear en_
    have p161 : 0 ≤ (x19_2 : Int) := qq
    have q161 : x19_2 < ((rd_L1 x3_2 x14_1).length : Int) := qq
    obtain ⟨ad161, e161, hx161_0⟩ := Kd.xU (by repeat (first | (with_reducible exact HR160_0.out) | exact HR160_0.out)) x19_2 p161 q161
    cases e161
    replace p161 := eq_true p161
    replace q161 := eq_true q161
    have p162 : 0 ≤ (x14_1 : Int) := qq
    have q162 : x14_1 < (l0.length : Int) := qq
    obtain ⟨ad162, A162_0, c162_0, e162, hx162_0, hl162_0, hi162_0⟩ := at_L1 HR0.out x14_1 p162 q162
    have hw162_0 := hx162_0
    cases e162
    replace hx162_0 := (HB.out.cell (World.block_lt_of_cell? w _ hx162_0)).trans hx162_0
    have HR162_0 := xA.mk hi162_0
    have HC162_0 := xA.mk hl162_0
    clear hi162_0 hl162_0
    replace p162 := eq_true p162
    replace q162 := eq_true q162
    have p163 : 0 ≤ (x19_2 : Int) := qq
    have q163 : x19_2 < ((rd_L1 l0 x14_1).length : Int) := qq
    obtain ⟨ad163, e163, hx163_0⟩ := Kd.xU HR162_0.out x19_2 p163 q163
    have hw163_0 := hx163_0
    cases e163
    replace hx163_0 := (HB.out.cell (World.block_lt_of_cell? w _ hx163_0)).trans hx163_0
    replace p163 := eq_true p163
    replace q163 := eq_true q163
    have p13 : 0 ≤ (x19_2 : Int) := qq
    have q13 : (x19_2 : Int) < (((rd_L1 x3_2 x14_1).length : Int) : Int) := qq
    obtain ⟨go13, co13, eo13, gb13, gl13, cl13, HG13⟩ := Kd.R_form HL159_0.out jj
    (first | cases eo13 | (injection eo13 with ea_ en_ ec_; (first | subst ea_ | (injection ea_ with ea_; subst ea_)); subst ec_; clear en_))
    have GB13 := xA.mk gb13
    have GG13 := xA.mk HG13
    clear gb13 gl13 HG13
    (first | simp only [add_plain] at hx161_0 | skip)
    obtain ⟨hx13_0, hf13_0⟩ := Kd.R_celln 0 HL159_0.out (x19_2 : Int) p13 q13
    replace p13 := eq_true p13
    replace q13 := eq_true q13
    have hq16 : (x14_1 : Int) < (x3_2.length : Int) := (by have h_ : (x14_1 : Int) < ((x3_2.length : Int) : Int) := qq; first | exact h_ | (have e_ := (Kd.xJ HO_3.out).1; omega) | simpa only [List.length_set, List.length_set] using h_)
    obtain ⟨oki16, ce16, hcl16, hM16, hcc16, hok16, hbk16⟩ := Kd.S_borrow HO_3.out [] (x14_1 : Int) (qq) hq16
    obtain ⟨ve16_0, rfl, ge16_0⟩ := hM16
    have hv16 := hcc16 0 _ rfl
    rw [Nat.add_zero, show ((Kd.slice 3 (Kd.int .i64))).sz = 1 from rfl, Nat.mul_one] at hv16
    replace hv16 := qx (hv16.symm.trans HX159_0.out)
    subst hv16
    clear hcc16 hcl16
    replace ge16_0 := (show Kd.R (Kd.int .i64) 3 _ _ _ _ (rd_L1 x3_2 x14_1) from ge16_0)
    have HP16 := Kd.R_putg ge16_0 (x19_2 : Int) ji12
    rw [← Ny164.out] at HP16
    have HS16 := hbk16 HP16.2 (fun k_ e_ => by injection e_ with e_; subst e_; exact ge16_0.1 _ rfl) (x' := y164) (Kd.M_row HP16.1)
    rw [← Ny166.out] at HS16
    have HQ16 := xA.mk HS16
    clear HP16 HS16 hbk16 hok16
    refine start_ (n := 22) (S := fun w' => w'.cell? (ad159.add (x14_1).toNat) = some (.slice (some ⟨go13, 0, none⟩) (rd_L1 x3_2 x14_1).length c159_0) ∧ w'.cell? (ad159.add (x14_1).toNat) = some (.slice (some ⟨go13, 0, none⟩) (rd_L1 x3_2 x14_1).length c159_0) ∧ w'.cell? ⟨go13, (x19_2).toNat, none⟩ = some (.int .i64 (rd (rd_L1 x3_2 x14_1) x19_2)) ∧ w'.cell? (ad162.add (x14_1).toNat) = some (.slice (some ad163) (rd_L1 l0 x14_1).length c162_0) ∧ w'.cell? (ad163.add (x19_2).toNat) = some (.int .i64 (rd (rd_L1 l0 x14_1) x19_2))) (ds := [21]) (jl 22 0) jk rfl rfl ⟨hx159_0, hx160_0, hx161_0, ((HB.out.cell (World.block_lt_of_cell? w _ hw162_0)).trans hw162_0), ((HB.out.cell (World.block_lt_of_cell? w _ hw163_0)).trans hw163_0)⟩ (fun hHeld => ?_); refine with_tabW lgclosed.tab8 lgclosed.bits8 (fun HT_ HW_ => ?_)
    generalize wr.drew = w14 at HO_3 HB GG13 HL159_0 HL160_0 HQ16 HR159_0 HR160_0 HR162_0 HX159_0 HX160_0 hf13_0 hx13_0 hx159_0 hx160_0 hx161_0 hx162_0 hx163_0 hHeld ⊢
    refine pure_ (i := 0) (N := some 22) (v := ?_) (a' := ?_) (jl 22 1) rfl rfl (xE HT_.out jk) (fun _ _ _ h => h) (Or.inl ⟨by rfl, ?_⟩) ?_ ?_
    rotate_left
    ·
     intro w'
     go_simp
     with_reducible rfl
    rotate_left
    ·
     simp only [Act.put, qy, qz, ja, i64_w, i32_w]
     rfl
    refine pure_ (i := 1) (N := some 23) (v := ?_) (a' := ?_) (jl 22 3) rfl rfl (xE HT_.out jk) (fun _ _ _ h => h) (Or.inl ⟨by rfl, ?_⟩) ?_ ?_
    rotate_left
    ·
     intro w'
     go_simp
     with_reducible rfl
    rotate_left
    ·
     simp only [Act.put, qy, qz, ja, i64_w, i32_w]
     rfl
    refine pure_ (i := 2) (N := some 24) (v := ?_) (a' := ?_) (jl 22 7) rfl rfl (xE HT_.out jk) (fun _ _ _ h => h) (Or.inl ⟨by rfl, ?_⟩) ?_ ?_
    rotate_left
    ·
     intro w'
     go_simp
     with_reducible rfl
    rotate_left
    ·
     simp only [Act.put, qy, qz, ja, i64_w, i32_w]
     rfl
    refine pure_ (i := 4) (N := some 26) (v := ?_) (a' := ?_) (jl 22 23) rfl rfl (xE HT_.out jk) (fun _ _ _ h => h) (Or.inl ⟨by rfl, ?_⟩) ?_ ?_
    rotate_left
    ·
     intro w'
     go_simp
     with_reducible rfl
    rotate_left
    ·
     simp only [Act.put, qy, qz, ja, i64_w, i32_w]
     rfl
    refine pure_ (i := 5) (N := some 27) (v := ?_) (a' := ?_) (jl 22 55) rfl rfl (xE HT_.out jk) (fun _ _ _ h => h) (Or.inl ⟨by rfl, ?_⟩) ?_ ?_
    rotate_left
    ·
     intro w'
     go_simp
     with_reducible rfl
    rotate_left
    ·
     simp only [Act.put, qy, qz, ja, i64_w, i32_w]
     rfl
    refine pure_ (i := 6) (N := some 28) (v := ?_) (a' := ?_) (jl 22 119) rfl rfl (xE HT_.out jk) (fun _ _ _ h => h) (Or.inl ⟨by rfl, ?_⟩) ?_ ?_
    rotate_left
    ·
     intro w'
     go_simp
     with_reducible rfl
    rotate_left
    ·
     simp only [Act.put, qy, qz, ja, i64_w, i32_w]
     rfl
    refine pure_ (i := 7) (N := some 29) (v := ?_) (a' := ?_) (jl 22 247) rfl rfl (xE HT_.out jk) (fun _ _ _ h => h) (Or.inl ⟨by rfl, ?_⟩) ?_ ?_
    rotate_left
    ·
     intro w'
     go_simp
     with_reducible rfl
    rotate_left
    ·
     simp only [Act.put, qy, qz, ja, i64_w, i32_w]
     rfl
    refine pure_ (i := 9) (N := some 31) (v := ?_) (a' := ?_) (jl 22 759) rfl rfl (xE HT_.out jk) (fun _ _ _ h => h) (Or.inl ⟨by rfl, ?_⟩) ?_ ?_
    rotate_left
    ·
     intro w'
     go_simp
     with_reducible rfl
    rotate_left
    ·
     simp only [Act.put, qy, qz, ja, i64_w, i32_w]
     rfl
    refine pure_ (i := 12) (N := some 34) (v := ?_) (a' := ?_) (jl 22 4855) rfl rfl (xE HT_.out jk) (fun _ _ _ h => h) (Or.inl ⟨by rfl, ?_⟩) ?_ ?_
    rotate_left
    ·
     intro w'
     go_simp
     with_reducible rfl
    rotate_left
    ·
     simp only [Act.put, qy, qz, ja, i64_w, i32_w]
     rfl
    refine pure_ (i := 13) (N := some 35) (v := ?_) (a' := ?_) (jl 22 13047) rfl rfl (xE HT_.out jk) (fun _ _ _ h => h) (Or.inl ⟨by rfl, ?_⟩) ?_ ?_
    rotate_left
    ·
     intro w'
     go_simp
     with_reducible rfl
    rotate_left
    ·
     simp only [Act.put, qy, qz, ja, i64_w, i32_w]
     rfl
    refine pure_ (i := 14) (N := some 36) (v := ?_) (a' := ?_) (jl 22 29431) rfl rfl (xE HT_.out jk) (fun _ _ _ h => h) (Or.inl ⟨by rfl, ?_⟩) ?_ ?_
    rotate_left
    ·
     intro w'
     go_simp
     with_reducible rfl
    rotate_left
    ·
     simp only [Act.put, qy, qz, ja, i64_w, i32_w]
     rfl
    refine pure_ (i := 16) (N := some 38) (v := ?_) (a' := ?_) (jl 22 94967) rfl rfl (xE HT_.out jk) (fun _ _ _ h => h) (Or.inl ⟨by rfl, ?_⟩) ?_ ?_
    rotate_left
    ·
     intro w'
     go_simp
     with_reducible rfl
    rotate_left
    ·
     simp only [Act.put, qy, qz, ja, i64_w, i32_w]
     rfl
    refine take_ (i := 3) (N := some 25) (v := ?_) (a' := ?_) (jl 22 94975) rfl rfl (xY HT_.out HW_.out jk) (fun _ _ _ h => h) (Or.inl ⟨by rfl, ?_⟩) hHeld ?_ ?_
    rotate_left
    ·
     rintro w' ⟨s0, s1, s2, s3, s4⟩
     go_simp
     with_reducible rfl
    rotate_left
    ·
     simp only [Act.put, qy, qz, ja, i64_w, i32_w]
     rfl
    refine take_ (i := 8) (N := some 30) (v := ?_) (a' := ?_) (jl 22 95231) rfl rfl (xY HT_.out HW_.out jk) (fun _ _ _ h => h) (Or.inl ⟨by rfl, ?_⟩) hHeld ?_ ?_
    rotate_left
    ·
     rintro w' ⟨s0, s1, s2, s3, s4⟩
     go_simp
     with_reducible rfl
    rotate_left
    ·
     simp only [Act.put, qy, qz, ja, i64_w, i32_w]
     rfl
    refine pure_ (i := 10) (N := some 32) (v := ?_) (a' := ?_) (jl 22 96255) rfl rfl (xE HT_.out jk) (fun _ _ _ h => h) (Or.inl ⟨by rfl, ?_⟩) ?_ ?_
    rotate_left
    ·
     intro w'
     go_simp
     with_reducible rfl
    rotate_left
    ·
     simp only [Act.put, qy, qz, ja, i64_w, i32_w]
     rfl
    refine take_ (i := 11) (N := some 33) (v := ?_) (a' := ?_) (jl 22 98303) rfl rfl (xY HT_.out HW_.out jk) (fun _ _ _ h => h) (Or.inl ⟨by rfl, ?_⟩) hHeld ?_ ?_
    rotate_left
    ·
     rintro w' ⟨s0, s1, s2, s3, s4⟩
     go_simp
     with_reducible rfl
    rotate_left
    ·
     simp only [Act.put, qy, qz, ja, i64_w, i32_w]
     rfl
    refine take_ (i := 15) (N := some 37) (v := ?_) (a' := ?_) (jl 22 131071) rfl rfl (xY HT_.out HW_.out jk) (fun _ _ _ h => h) (Or.inl ⟨by rfl, ?_⟩) hHeld ?_ ?_
    rotate_left
    ·
     rintro w' ⟨s0, s1, s2, s3, s4⟩
     go_simp
     with_reducible rfl
    rotate_left
    ·
     simp only [Act.put, qy, qz, ja, i64_w, i32_w]
     rfl
    refine pure_ (i := 17) (N := some 39) (v := ?_) (a' := ?_) (jl 22 262143) rfl rfl (xE HT_.out jk) (fun _ _ _ h => h) (Or.inl ⟨by rfl, ?_⟩) ?_ ?_
    rotate_left
    ·
     intro w'
     go_simp
     with_reducible rfl
    rotate_left
    ·
     simp only [Act.put, qy, qz, ja, i64_w, i32_w]
     rfl
    refine take_ (i := 18) (N := some 40) (v := ?_) (a' := ?_) (jl 22 524287) rfl rfl (xY HT_.out HW_.out jk) (fun _ _ _ h => h) (Or.inl ⟨by rfl, ?_⟩) hHeld ?_ ?_
    rotate_left
    ·
     rintro w' ⟨s0, s1, s2, s3, s4⟩
     go_simp
     with_reducible rfl
    rotate_left
    ·
     simp only [Act.put, qy, qz, ja, i64_w, i32_w]
     rfl
    refine pure_ (i := 19) (N := some 41) (v := ?_) (a' := ?_) (jl 22 1048575) rfl rfl (xE HT_.out jk) (fun _ _ _ h => h) (Or.inl ⟨by rfl, ?_⟩) ?_ ?_
    rotate_left
    ·
     intro w'
     go_simp
     with_reducible rfl
    rotate_left
    ·
     simp only [Act.put, qy, qz, ja, i64_w, i32_w]
     rfl
    refine pure_ (i := 20) (N := some 42) (v := ?_) (a' := ?_) (jl 22 2097151) rfl rfl (xE HT_.out jk) (fun _ _ _ h => h) (Or.inl ⟨by rfl, ?_⟩) ?_ ?_
    rotate_left
    ·
     intro w'
     go_simp
     with_reducible rfl
    rotate_left
    ·
     simp only [Act.put, qy, qz, ja, i64_w, i32_w]
     rfl
    refine last_ (i := 21) (N := none) (jl 22 4194303) rfl rfl (one_of HT_.out jk) (by decide) (fun K hK => ?_)
    refine skip_ (w1 := ?_) (by rfl) rfl ?_ ?_
    rotate_left
    ·
     go_simp
     rfl
    refine hK.out _ _ ?_
    clear hK K
    refine done_ (done_of HT_.out jk) ?_
    try go_wp2
    go_roundg k2
    case measure => have := HK1.out; have := HK2.out; omega
    case rel => exact ⟨(y166), (wrap64 (x19_2 + 1)), rfl, H', ⟨by have := HK1.out; have := HK2.out; omega⟩, ⟨qh HQ16.out⟩, ⟨by repeat (first | exact HB.out | apply xR | apply xP | apply xN | refine xM ?_ GB13.out)⟩⟩
  have H' := xA.mk H
  clear H
  go_wp2
  go_loopg [47] k1 (fun kq v47 w' => ∃ (x3_2 : List (List Int)) (x47_2 : Int), v47 = .int .i64 x47_2 ∧ xA (lgclosed.l2 kq l0 x3_2 (l0.length : Int) x47_2 = some r) ∧ xA (kq ≤ k1) ∧ xA (Kd.S (Kd.slice 3 (Kd.int .i64)) 26 w' w.heap.size (fun _ => True) v157 x3_2) ∧ xA (Below w.heap.size w w'))
  case atStart => exact ⟨(x3_1), (0), rfl, H', ⟨Nat.le_refl _⟩, ⟨by exact HO_3.out⟩, ⟨HB.out⟩⟩
  case round =>
   clear H'
   obtain ⟨x3_2, x47_2, rfl, HA, HK2, HO_3, HB⟩ := hrel
   obtain _ | k2 := gk
   · exact absurd HA.out (by simp [lgclosed.l2])
   have H := HA.out
   clear HA
   simp only [lgclosed.l2] at H
   obtain ⟨c18b0, H⟩ | ⟨c18b0, H⟩ := itd_or H
   rotate_left
   ·
    obtain rfl := qx H
    go_wp2
    go_ret
    exact ⟨_, rfl, by exact HO_3.out, HB.out⟩
   have H' := xA.mk H
   clear H
   go_wp2
   go_loopg [52] k2 (fun kq v52 w' => ∃ (x3_3 : List (List Int)) (x52_3 : Int), v52 = .int .i64 x52_3 ∧ xA (lgclosed.l3 kq l0 x3_3 x47_2 (l0.length : Int) x47_2 (l0.length : Int) x52_3 = some r) ∧ xA (kq ≤ k2) ∧ xA (Kd.S (Kd.slice 3 (Kd.int .i64)) 26 w' w.heap.size (fun _ => True) v157 x3_3) ∧ xA (Below w.heap.size w w'))
   case atStart => exact ⟨(x3_2), (0), rfl, H', ⟨Nat.le_refl _⟩, ⟨by exact HO_3.out⟩, ⟨HB.out⟩⟩
   case round =>
    clear H'
    obtain ⟨x3_3, x52_3, rfl, HA, HK3, HO_3, HB⟩ := hrel
    obtain _ | k3 := gk
    · exact absurd HA.out (by simp [lgclosed.l3])
    have H := HA.out
    clear HA
    simp only [lgclosed.l3] at H
    obtain ⟨c19b0, H⟩ | ⟨c19b0, H⟩ := itd_or H
    rotate_left
    ·
     have H' := xA.mk H
     clear H
     go_wp2
     go_roundg k3
     case measure => have := HK1.out; have := HK2.out; have := HK3.out; omega
     case rel => exact ⟨(x3_3), (wrap64 (x47_2 + 1)), rfl, H', ⟨by have := HK1.out; have := HK2.out; have := HK3.out; omega⟩, ⟨by exact HO_3.out⟩, ⟨HB.out⟩⟩
    have H' := xA.mk H
    clear H
    go_wp2
    go_loopg [57] k3 (fun kq v57 w' => ∃ (x3_4 : List (List Int)) (x57_4 : Int), v57 = .int .i64 x57_4 ∧ xA (lgclosed.l4 kq l0 x3_4 x47_2 x52_3 (l0.length : Int) x47_2 (l0.length : Int) x52_3 (l0.length : Int) x57_4 = some r) ∧ xA (kq ≤ k3) ∧ xA (Kd.S (Kd.slice 3 (Kd.int .i64)) 26 w' w.heap.size (fun _ => True) v157 x3_4) ∧ xA (Below w.heap.size w w'))
    case atStart => exact ⟨(x3_3), (0), rfl, H', ⟨Nat.le_refl _⟩, ⟨by exact HO_3.out⟩, ⟨HB.out⟩⟩
    case round =>
     clear H'
     obtain ⟨x3_4, x57_4, rfl, HA, HK4, HO_3, HB⟩ := hrel
     obtain _ | k4 := gk
     · exact absurd HA.out (by simp [lgclosed.l4])
     have H := HA.out
     clear HA
     simp only [lgclosed.l4] at H
     obtain ⟨c20b0, H⟩ | ⟨c20b0, H⟩ := itd_or H
     rotate_left
     ·
      have H' := xA.mk H
      clear H
      go_wp2
      go_roundg k4
      case measure => have := HK1.out; have := HK2.out; have := HK3.out; have := HK4.out; omega
      case rel => exact ⟨(x3_4), (wrap64 (x52_3 + 1)), rfl, H', ⟨by have := HK1.out; have := HK2.out; have := HK3.out; have := HK4.out; omega⟩, ⟨by exact HO_3.out⟩, ⟨HB.out⟩⟩
     obtain ⟨c21b0, H⟩ := xL H
     obtain ⟨c22b0, H⟩ := xL H
     obtain ⟨c23b0, H⟩ := xL H
     obtain ⟨c24b0, H⟩ := xL H
     obtain ⟨c25b0, H⟩ := xL H
     obtain ⟨c26b0, H⟩ := xL H
     obtain ⟨c27b0, H⟩ := xL H
     obtain ⟨c28b0, H⟩ := xL H
     replace H := qw H
     obtain ⟨t174, A290, H⟩ := H
     replace H : (lgclosed.l4 k4 l0 (x3_4.set (x52_3 : Int).toNat ((rd_L1 x3_4 x52_3).set (x57_4 : Int).toNat (mx (rd (rd_L1 x3_4 x52_3) x57_4) t174))) x47_2 x52_3 (l0.length : Int) x47_2 (l0.length : Int) x52_3 (l0.length : Int) (wrap64 (x57_4 + 1))) = some r := H
     have A29 := xA.mk A290
     clear A290
     obtain ⟨ji30, hji30⟩ : ∃ j_ : Int, (mx (rd (rd_L1 x3_4 x52_3) x57_4) t174) = j_ := ⟨_, rfl⟩
     replace H : (lgclosed.l4 k4 l0 (x3_4.set (x52_3 : Int).toNat ((rd_L1 x3_4 x52_3).set (x57_4 : Int).toNat (ji30))) x47_2 x52_3 (l0.length : Int) x47_2 (l0.length : Int) x52_3 (l0.length : Int) (wrap64 (x57_4 + 1))) = some r := by first | (rw [hji30] at H; exact H) | (simp only [hji30] at H ⊢; exact H)
     (try rw [hji30] at A29)
     have hji30_ : (if (rd (rd_L1 x3_4 x52_3) x57_4) < t174 then t174 else (rd (rd_L1 x3_4 x52_3) x57_4)) = ji30 := hji30
     obtain ⟨y175, hy175⟩ : ∃ y_ : List Int, y_ = ((rd_L1 x3_4 x52_3).set (x57_4 : Int).toNat (ji30)) := ⟨_, rfl⟩
     replace H : (lgclosed.l4 k4 l0 (x3_4.set (x52_3 : Int).toNat y175) x47_2 x52_3 (l0.length : Int) x47_2 (l0.length : Int) x52_3 (l0.length : Int) (wrap64 (x57_4 + 1))) = some r := by rw [hy175]; exact H
     have Ny175 := xA.mk hy175
     clear hy175
     obtain ⟨y177, hy177⟩ : ∃ y_ : List (List Int), y_ = (x3_4.set (x52_3 : Int).toNat y175) := ⟨_, rfl⟩
     replace H : (lgclosed.l4 k4 l0 y177 x47_2 x52_3 (l0.length : Int) x47_2 (l0.length : Int) x52_3 (l0.length : Int) (wrap64 (x57_4 + 1))) = some r := by rw [hy177]; exact H
     have Ny177 := xA.mk hy177
     clear hy177
     have H' := xA.mk H
     clear H
     try go_wp2
     have n0_ := xA.mk (Kd.xV HO_3.out)
     have n1_ := xA.mk (xN HB.out)
     clear HO_3
     clear HB
     have HO_3 := n0_
     have HB := n1_
     clear n0_ n1_
     obtain ⟨Ao33, co33, eo33⟩ := Kd.yD HO_3.out
     (first | subst eo33 | (injection eo33 with f1_ f2_ f3_; have f4_ := f1_.symm; have f5_ := f3_.symm; clear f1_ f2_ f3_; subst f4_; subst f5_))
     have p167 : 0 ≤ (x52_3 : Int) := qq
     have q167 : x52_3 < (x3_4.length : Int) := qq
     obtain ⟨ad167, A167_0, c167_0, e167, hx167_0, hl167_0, hi167_0⟩ := at_L1 (Kd.xJ HO_3.out).2.2 x52_3 p167 q167
     cases e167
     obtain ⟨ce167, hce167, hMe167, hcc167⟩ := Kd.S_get HO_3.out [] x52_3 p167 (by first | exact q167 | exact qq | (have e_ := (Kd.xJ HO_3.out).1; omega))
     obtain ⟨ve167_0, rfl, ge167_0⟩ := hMe167
     have hv167_0 := hcc167 0 _ rfl
     rw [Nat.add_zero, show ((Kd.slice 3 (Kd.int .i64))).sz = 1 from rfl, Nat.mul_one] at hv167_0
     replace hv167_0 := qx (hv167_0.symm.trans hx167_0)
     rw [hv167_0] at ge167_0
     have HL167_0 := xA.mk (show Kd.R (Kd.int .i64) 3 _ _ _ _ (rd_L1 x3_4 x52_3) from ge167_0)
     clear hv167_0 ge167_0
     have HX167_0 := xA.mk hx167_0
     clear hcc167 hce167
     have HR167_0 := xA.mk hi167_0
     have HC167_0 := xA.mk hl167_0
     clear hi167_0 hl167_0
     replace p167 := eq_true p167
     replace q167 := eq_true q167
     have p168 : 0 ≤ (x52_3 : Int) := qq
     have q168 : x52_3 < (x3_4.length : Int) := qq
     obtain ⟨ad168, A168_0, c168_0, e168, hx168_0, hl168_0, hi168_0⟩ := at_L1 (Kd.xJ HO_3.out).2.2 x52_3 p168 q168
     obtain rfl : ad167 = ad168 := (by injection e168)
     obtain ⟨ce168, hce168, hMe168, hcc168⟩ := Kd.S_get HO_3.out [] x52_3 p168 (by first | exact q168 | exact qq | (have e_ := (Kd.xJ HO_3.out).1; omega))
     obtain ⟨ve168_0, rfl, ge168_0⟩ := hMe168
     have hv168_0 := hcc168 0 _ rfl
     rw [Nat.add_zero, show ((Kd.slice 3 (Kd.int .i64))).sz = 1 from rfl, Nat.mul_one] at hv168_0
     replace hv168_0 := qx (hv168_0.symm.trans hx168_0)
     rw [hv168_0] at ge168_0
     have HL168_0 := xA.mk (show Kd.R (Kd.int .i64) 3 _ _ _ _ (rd_L1 x3_4 x52_3) from ge168_0)
     clear hv168_0 ge168_0
     have HX168_0 := xA.mk hx168_0
     clear hcc168 hce168
     have HR168_0 := xA.mk hi168_0
     have HC168_0 := xA.mk hl168_0
     clear hi168_0 hl168_0
     replace p168 := eq_true p168
     replace q168 := eq_true q168
     have ea_ := qx (hx167_0.symm.trans hx168_0)
     injection ea_ with ea_ en_ ec_
     subst ea_
     subst ec_
     clear en_
     have p169 : 0 ≤ (x57_4 : Int) := qq
     have q169 : x57_4 < ((rd_L1 x3_4 x52_3).length : Int) := qq
     obtain ⟨ad169, e169, hx169_0⟩ := Kd.xU (by repeat (first | (with_reducible exact HR168_0.out) | exact HR168_0.out)) x57_4 p169 q169
     cases e169
     replace p169 := eq_true p169
     replace q169 := eq_true q169
     have p170 : 0 ≤ (x52_3 : Int) := qq
     have q170 : x52_3 < (x3_4.length : Int) := qq
     obtain ⟨ad170, A170_0, c170_0, e170, hx170_0, hl170_0, hi170_0⟩ := at_L1 (Kd.xJ HO_3.out).2.2 x52_3 p170 q170
     obtain rfl : ad167 = ad170 := (by injection e170)
     obtain ⟨ce170, hce170, hMe170, hcc170⟩ := Kd.S_get HO_3.out [] x52_3 p170 (by first | exact q170 | exact qq | (have e_ := (Kd.xJ HO_3.out).1; omega))
     obtain ⟨ve170_0, rfl, ge170_0⟩ := hMe170
     have hv170_0 := hcc170 0 _ rfl
     rw [Nat.add_zero, show ((Kd.slice 3 (Kd.int .i64))).sz = 1 from rfl, Nat.mul_one] at hv170_0
     replace hv170_0 := qx (hv170_0.symm.trans hx170_0)
     rw [hv170_0] at ge170_0
     have HL170_0 := xA.mk (show Kd.R (Kd.int .i64) 3 _ _ _ _ (rd_L1 x3_4 x52_3) from ge170_0)
     clear hv170_0 ge170_0
     have HX170_0 := xA.mk hx170_0
     clear hcc170 hce170
     have HR170_0 := xA.mk hi170_0
     have HC170_0 := xA.mk hl170_0
     clear hi170_0 hl170_0
     replace p170 := eq_true p170
     replace q170 := eq_true q170
     have ea_ := qx (hx167_0.symm.trans hx170_0)
     injection ea_ with ea_ en_ ec_
     subst ea_
     subst ec_
     clear en_
     have p171 : 0 ≤ (x47_2 : Int) := qq
     have q171 : x47_2 < ((rd_L1 x3_4 x52_3).length : Int) := qq
     obtain ⟨ad171, e171, hx171_0⟩ := Kd.xU (by repeat (first | (with_reducible exact HR170_0.out) | exact HR170_0.out)) x47_2 p171 q171
     cases e171
     replace p171 := eq_true p171
     replace q171 := eq_true q171
     have p172 : 0 ≤ (x47_2 : Int) := qq
     have q172 : x47_2 < (x3_4.length : Int) := qq
     obtain ⟨ad172, A172_0, c172_0, e172, hx172_0, hl172_0, hi172_0⟩ := at_L1 (Kd.xJ HO_3.out).2.2 x47_2 p172 q172
     obtain rfl : ad167 = ad172 := (by injection e172)
     obtain ⟨ce172, hce172, hMe172, hcc172⟩ := Kd.S_get HO_3.out [] x47_2 p172 (by first | exact q172 | exact qq | (have e_ := (Kd.xJ HO_3.out).1; omega))
     obtain ⟨ve172_0, rfl, ge172_0⟩ := hMe172
     have hv172_0 := hcc172 0 _ rfl
     rw [Nat.add_zero, show ((Kd.slice 3 (Kd.int .i64))).sz = 1 from rfl, Nat.mul_one] at hv172_0
     replace hv172_0 := qx (hv172_0.symm.trans hx172_0)
     rw [hv172_0] at ge172_0
     have HL172_0 := xA.mk (show Kd.R (Kd.int .i64) 3 _ _ _ _ (rd_L1 x3_4 x47_2) from ge172_0)
     clear hv172_0 ge172_0
     have HX172_0 := xA.mk hx172_0
     clear hcc172 hce172
     have HR172_0 := xA.mk hi172_0
     have HC172_0 := xA.mk hl172_0
     clear hi172_0 hl172_0
     replace p172 := eq_true p172
     replace q172 := eq_true q172
     have p173 : 0 ≤ (x57_4 : Int) := qq
     have q173 : x57_4 < ((rd_L1 x3_4 x47_2).length : Int) := qq
     obtain ⟨ad173, e173, hx173_0⟩ := Kd.xU (by repeat (first | (with_reducible exact HR172_0.out) | exact HR172_0.out)) x57_4 p173 q173
     cases e173
     replace p173 := eq_true p173
     replace q173 := eq_true q173
     refine start_ (n := 30) (S := fun w' => w'.cell? (ad167.add (x52_3).toNat) = some (.slice (some ad169) (rd_L1 x3_4 x52_3).length c167_0) ∧ w'.cell? (ad167.add (x52_3).toNat) = some (.slice (some ad169) (rd_L1 x3_4 x52_3).length c167_0) ∧ w'.cell? (ad169.add (x57_4).toNat) = some (.int .i64 (rd (rd_L1 x3_4 x52_3) x57_4)) ∧ w'.cell? (ad167.add (x52_3).toNat) = some (.slice (some ad169) (rd_L1 x3_4 x52_3).length c167_0) ∧ w'.cell? (ad169.add (x47_2).toNat) = some (.int .i64 (rd (rd_L1 x3_4 x52_3) x47_2)) ∧ w'.cell? (ad167.add (x47_2).toNat) = some (.slice (some ad173) (rd_L1 x3_4 x47_2).length c172_0) ∧ w'.cell? (ad173.add (x57_4).toNat) = some (.int .i64 (rd (rd_L1 x3_4 x47_2) x57_4))) (ds := [29]) (jl 30 0) jk rfl rfl ⟨hx167_0, hx168_0, hx169_0, hx170_0, hx171_0, hx172_0, hx173_0⟩ (fun hHeld => ?_); refine with_tabW lgclosed.tab20 lgclosed.bits20 (fun HT_ HW_ => ?_)
     generalize wr.drew = w32 at HO_3 HB HL167_0 HL168_0 HL170_0 HL172_0 HR167_0 HR168_0 HR170_0 HR172_0 HX167_0 HX168_0 HX170_0 HX172_0 hx167_0 hx168_0 hx169_0 hx170_0 hx171_0 hx172_0 hx173_0 hHeld ⊢
     refine pure_ (i := 0) (N := some 60) (v := ?_) (a' := ?_) (jl 30 1) rfl rfl (xE HT_.out jk) (fun _ _ _ h => h) (Or.inl ⟨by rfl, ?_⟩) ?_ ?_
     rotate_left
     ·
      intro w'
      go_simp
      with_reducible rfl
     rotate_left
     ·
      simp only [Act.put, qy, qz, ja, i64_w, i32_w]
      rfl
     refine pure_ (i := 1) (N := some 61) (v := ?_) (a' := ?_) (jl 30 3) rfl rfl (xE HT_.out jk) (fun _ _ _ h => h) (Or.inl ⟨by rfl, ?_⟩) ?_ ?_
     rotate_left
     ·
      intro w'
      go_simp
      with_reducible rfl
     rotate_left
     ·
      simp only [Act.put, qy, qz, ja, i64_w, i32_w]
      rfl
     refine pure_ (i := 2) (N := some 62) (v := ?_) (a' := ?_) (jl 30 7) rfl rfl (xE HT_.out jk) (fun _ _ _ h => h) (Or.inl ⟨by rfl, ?_⟩) ?_ ?_
     rotate_left
     ·
      intro w'
      go_simp
      with_reducible rfl
     rotate_left
     ·
      simp only [Act.put, qy, qz, ja, i64_w, i32_w]
      rfl
     refine pure_ (i := 4) (N := some 64) (v := ?_) (a' := ?_) (jl 30 23) rfl rfl (xE HT_.out jk) (fun _ _ _ h => h) (Or.inl ⟨by rfl, ?_⟩) ?_ ?_
     rotate_left
     ·
      intro w'
      go_simp
      with_reducible rfl
     rotate_left
     ·
      simp only [Act.put, qy, qz, ja, i64_w, i32_w]
      rfl
     refine pure_ (i := 5) (N := some 65) (v := ?_) (a' := ?_) (jl 30 55) rfl rfl (xE HT_.out jk) (fun _ _ _ h => h) (Or.inl ⟨by rfl, ?_⟩) ?_ ?_
     rotate_left
     ·
      intro w'
      go_simp
      with_reducible rfl
     rotate_left
     ·
      simp only [Act.put, qy, qz, ja, i64_w, i32_w]
      rfl
     refine pure_ (i := 6) (N := some 66) (v := ?_) (a' := ?_) (jl 30 119) rfl rfl (xE HT_.out jk) (fun _ _ _ h => h) (Or.inl ⟨by rfl, ?_⟩) ?_ ?_
     rotate_left
     ·
      intro w'
      go_simp
      with_reducible rfl
     rotate_left
     ·
      simp only [Act.put, qy, qz, ja, i64_w, i32_w]
      rfl
     refine pure_ (i := 7) (N := some 67) (v := ?_) (a' := ?_) (jl 30 247) rfl rfl (xE HT_.out jk) (fun _ _ _ h => h) (Or.inl ⟨by rfl, ?_⟩) ?_ ?_
     rotate_left
     ·
      intro w'
      go_simp
      with_reducible rfl
     rotate_left
     ·
      simp only [Act.put, qy, qz, ja, i64_w, i32_w]
      rfl
     refine pure_ (i := 9) (N := some 69) (v := ?_) (a' := ?_) (jl 30 759) rfl rfl (xE HT_.out jk) (fun _ _ _ h => h) (Or.inl ⟨by rfl, ?_⟩) ?_ ?_
     rotate_left
     ·
      intro w'
      go_simp
      with_reducible rfl
     rotate_left
     ·
      simp only [Act.put, qy, qz, ja, i64_w, i32_w]
      rfl
     refine pure_ (i := 12) (N := some 72) (v := ?_) (a' := ?_) (jl 30 4855) rfl rfl (xE HT_.out jk) (fun _ _ _ h => h) (Or.inl ⟨by rfl, ?_⟩) ?_ ?_
     rotate_left
     ·
      intro w'
      go_simp
      with_reducible rfl
     rotate_left
     ·
      simp only [Act.put, qy, qz, ja, i64_w, i32_w]
      rfl
     refine pure_ (i := 13) (N := some 73) (v := ?_) (a' := ?_) (jl 30 13047) rfl rfl (xE HT_.out jk) (fun _ _ _ h => h) (Or.inl ⟨by rfl, ?_⟩) ?_ ?_
     rotate_left
     ·
      intro w'
      go_simp
      with_reducible rfl
     rotate_left
     ·
      simp only [Act.put, qy, qz, ja, i64_w, i32_w]
      rfl
     refine pure_ (i := 14) (N := some 74) (v := ?_) (a' := ?_) (jl 30 29431) rfl rfl (xE HT_.out jk) (fun _ _ _ h => h) (Or.inl ⟨by rfl, ?_⟩) ?_ ?_
     rotate_left
     ·
      intro w'
      go_simp
      with_reducible rfl
     rotate_left
     ·
      simp only [Act.put, qy, qz, ja, i64_w, i32_w]
      rfl
     refine pure_ (i := 16) (N := some 76) (v := ?_) (a' := ?_) (jl 30 94967) rfl rfl (xE HT_.out jk) (fun _ _ _ h => h) (Or.inl ⟨by rfl, ?_⟩) ?_ ?_
     rotate_left
     ·
      intro w'
      go_simp
      with_reducible rfl
     rotate_left
     ·
      simp only [Act.put, qy, qz, ja, i64_w, i32_w]
      rfl
     refine pure_ (i := 19) (N := some 79) (v := ?_) (a' := ?_) (jl 30 619255) rfl rfl (xE HT_.out jk) (fun _ _ _ h => h) (Or.inl ⟨by rfl, ?_⟩) ?_ ?_
     rotate_left
     ·
      intro w'
      go_simp
      with_reducible rfl
     rotate_left
     ·
      simp only [Act.put, qy, qz, ja, i64_w, i32_w]
      rfl
     refine pure_ (i := 20) (N := some 80) (v := ?_) (a' := ?_) (jl 30 1667831) rfl rfl (xE HT_.out jk) (fun _ _ _ h => h) (Or.inl ⟨by rfl, ?_⟩) ?_ ?_
     rotate_left
     ·
      intro w'
      go_simp
      with_reducible rfl
     rotate_left
     ·
      simp only [Act.put, qy, qz, ja, i64_w, i32_w]
      rfl
     refine pure_ (i := 21) (N := some 81) (v := ?_) (a' := ?_) (jl 30 3764983) rfl rfl (xE HT_.out jk) (fun _ _ _ h => h) (Or.inl ⟨by rfl, ?_⟩) ?_ ?_
     rotate_left
     ·
      intro w'
      go_simp
      with_reducible rfl
     rotate_left
     ·
      simp only [Act.put, qy, qz, ja, i64_w, i32_w]
      rfl
     refine pure_ (i := 23) (N := some 83) (v := ?_) (a' := ?_) (jl 30 12153591) rfl rfl (xE HT_.out jk) (fun _ _ _ h => h) (Or.inl ⟨by rfl, ?_⟩) ?_ ?_
     rotate_left
     ·
      intro w'
      go_simp
      with_reducible rfl
     rotate_left
     ·
      simp only [Act.put, qy, qz, ja, i64_w, i32_w]
      rfl
     refine take_ (i := 3) (N := some 63) (v := ?_) (a' := ?_) (jl 30 12153599) rfl rfl (xY HT_.out HW_.out jk) (fun _ _ _ h => h) (Or.inl ⟨by rfl, ?_⟩) hHeld ?_ ?_
     rotate_left
     ·
      rintro w' ⟨s0, s1, s2, s3, s4, s5, s6⟩
      go_simp
      with_reducible rfl
     rotate_left
     ·
      simp only [Act.put, qy, qz, ja, i64_w, i32_w]
      rfl
     refine take_ (i := 8) (N := some 68) (v := ?_) (a' := ?_) (jl 30 12153855) rfl rfl (xY HT_.out HW_.out jk) (fun _ _ _ h => h) (Or.inl ⟨by rfl, ?_⟩) hHeld ?_ ?_
     rotate_left
     ·
      rintro w' ⟨s0, s1, s2, s3, s4, s5, s6⟩
      go_simp
      with_reducible rfl
     rotate_left
     ·
      simp only [Act.put, qy, qz, ja, i64_w, i32_w]
      rfl
     refine pure_ (i := 10) (N := some 70) (v := ?_) (a' := ?_) (jl 30 12154879) rfl rfl (xE HT_.out jk) (fun _ _ _ h => h) (Or.inl ⟨by rfl, ?_⟩) ?_ ?_
     rotate_left
     ·
      intro w'
      go_simp
      with_reducible rfl
     rotate_left
     ·
      simp only [Act.put, qy, qz, ja, i64_w, i32_w]
      rfl
     refine take_ (i := 11) (N := some 71) (v := ?_) (a' := ?_) (jl 30 12156927) rfl rfl (xY HT_.out HW_.out jk) (fun _ _ _ h => h) (Or.inl ⟨by rfl, ?_⟩) hHeld ?_ ?_
     rotate_left
     ·
      rintro w' ⟨s0, s1, s2, s3, s4, s5, s6⟩
      go_simp
      with_reducible rfl
     rotate_left
     ·
      simp only [Act.put, qy, qz, ja, i64_w, i32_w]
      rfl
     refine take_ (i := 15) (N := some 75) (v := ?_) (a' := ?_) (jl 30 12189695) rfl rfl (xY HT_.out HW_.out jk) (fun _ _ _ h => h) (Or.inl ⟨by rfl, ?_⟩) hHeld ?_ ?_
     rotate_left
     ·
      rintro w' ⟨s0, s1, s2, s3, s4, s5, s6⟩
      go_simp
      with_reducible rfl
     rotate_left
     ·
      simp only [Act.put, qy, qz, ja, i64_w, i32_w]
      rfl
     refine pure_ (i := 17) (N := some 77) (v := ?_) (a' := ?_) (jl 30 12320767) rfl rfl (xE HT_.out jk) (fun _ _ _ h => h) (Or.inl ⟨by rfl, ?_⟩) ?_ ?_
     rotate_left
     ·
      intro w'
      go_simp
      with_reducible rfl
     rotate_left
     ·
      simp only [Act.put, qy, qz, ja, i64_w, i32_w]
      rfl
     refine take_ (i := 18) (N := some 78) (v := ?_) (a' := ?_) (jl 30 12582911) rfl rfl (xY HT_.out HW_.out jk) (fun _ _ _ h => h) (Or.inl ⟨by rfl, ?_⟩) hHeld ?_ ?_
     rotate_left
     ·
      rintro w' ⟨s0, s1, s2, s3, s4, s5, s6⟩
      go_simp
      with_reducible rfl
     rotate_left
     ·
      simp only [Act.put, qy, qz, ja, i64_w, i32_w]
      rfl
     refine take_ (i := 22) (N := some 82) (v := ?_) (a' := ?_) (jl 30 16777215) rfl rfl (xY HT_.out HW_.out jk) (fun _ _ _ h => h) (Or.inl ⟨by rfl, ?_⟩) hHeld ?_ ?_
     rotate_left
     ·
      rintro w' ⟨s0, s1, s2, s3, s4, s5, s6⟩
      go_simp
      with_reducible rfl
     rotate_left
     ·
      simp only [Act.put, qy, qz, ja, i64_w, i32_w]
      rfl
     refine pure_ (i := 24) (N := some 84) (v := ?_) (a' := ?_) (jl 30 33554431) rfl rfl (xE HT_.out jk) (fun _ _ _ h => h) (Or.inl ⟨by rfl, ?_⟩) ?_ ?_
     rotate_left
     ·
      intro w'
      go_simp
      with_reducible rfl
     rotate_left
     ·
      simp only [Act.put, qy, qz, ja, i64_w, i32_w]
      rfl
     refine take_ (i := 25) (N := some 85) (v := ?_) (a' := ?_) (jl 30 67108863) rfl rfl (xY HT_.out HW_.out jk) (fun _ _ _ h => h) (Or.inl ⟨by rfl, ?_⟩) hHeld ?_ ?_
     rotate_left
     ·
      rintro w' ⟨s0, s1, s2, s3, s4, s5, s6⟩
      go_simp
      with_reducible rfl
     rotate_left
     ·
      simp only [Act.put, qy, qz, ja, i64_w, i32_w]
      rfl
     refine one_ (i := 26) (N := some 86) (jl 30 134217727) rfl rfl (one_of HT_.out jk) (by decide) (fun K hK => ?_)
     refine goes_ Try.func91 jk rfl #[.int .i64 (rd (rd_L1 x3_4 x52_3) x47_2), .int .i64 (rd (rd_L1 x3_4 x47_2) x57_4)] (by rfl) rfl rfl qd ?_
     with_reducible refine (line_both_int.calls (rd (rd_L1 x3_4 x52_3) x47_2) (rd (rd_L1 x3_4 x47_2) x57_4) t174 _ A29.out).mono ?_
     rintro e w' ⟨rfl, ⟨nd, rfl⟩⟩
     refine ⟨_, rfl, ?_⟩
     have p31 : 0 ≤ (x57_4 : Int) := qq
     have q31 : (x57_4 : Int) < (((rd_L1 x3_4 x52_3).length : Int) : Int) := qq
     obtain ⟨go31, co31, eo31, gb31, gl31, cl31, HG31⟩ := Kd.R_form HL167_0.out jj
     (first | cases eo31 | (injection eo31 with ea_ en_ ec_; (first | subst ea_ | (injection ea_ with ea_; subst ea_)); subst ec_; clear en_))
     have GB31 := xA.mk gb31
     have GG31 := xA.mk HG31
     clear gb31 gl31 HG31
     (first | simp only [add_plain] at hx171_0 | skip)
     obtain ⟨hx31_0, hf31_0⟩ := Kd.R_celln 0 HL167_0.out (x57_4 : Int) p31 q31
     replace p31 := eq_true p31
     replace q31 := eq_true q31
     have hq34 : (x52_3 : Int) < (x3_4.length : Int) := (by have h_ : (x52_3 : Int) < ((x3_4.length : Int) : Int) := qq; first | exact h_ | (have e_ := (Kd.xJ HO_3.out).1; omega) | simpa only [List.length_set, List.length_set] using h_)
     obtain ⟨oki34, ce34, hcl34, hM34, hcc34, hok34, hbk34⟩ := Kd.S_borrow HO_3.out [] (x52_3 : Int) (qq) hq34
     obtain ⟨ve34_0, rfl, ge34_0⟩ := hM34
     have hv34 := hcc34 0 _ rfl
     rw [Nat.add_zero, show ((Kd.slice 3 (Kd.int .i64))).sz = 1 from rfl, Nat.mul_one] at hv34
     replace hv34 := qx (hv34.symm.trans HX167_0.out)
     subst hv34
     clear hcc34 hcl34
     replace ge34_0 := (show Kd.R (Kd.int .i64) 3 _ _ _ _ (rd_L1 x3_4 x52_3) from ge34_0)
     have HP34 := Kd.R_putg ge34_0 (x57_4 : Int) ji30
     rw [← Ny175.out] at HP34
     have HS34 := hbk34 HP34.2 (fun k_ e_ => by injection e_ with e_; subst e_; exact ge34_0.1 _ rfl) (x' := y175) (Kd.M_row HP34.1)
     rw [← Ny177.out] at HS34
     have HQ34 := xA.mk HS34
     clear HP34 HS34 hbk34 hok34
     refine hK.out _ _ ⟨hHeld.1, hHeld.2.1, hHeld.2.2.1, hHeld.2.2.2.1, hHeld.2.2.2.2.1, hHeld.2.2.2.2.2.1, hHeld.2.2.2.2.2.2⟩ (fun hHeld => ?_)
     clear hK K
     refine norm_ (a' := ?_) ?_ ?_
     rotate_left
     ·
      show Act.put _ (some 86) _ = _
      simp only [Act.put, qy, qz, ja, i64_w, i32_w]
      rfl
     refine pure_ (i := 27) (N := some 87) (v := ?_) (a' := ?_) (jl 30 268435455) rfl rfl (xE HT_.out jk) (fun _ _ _ h => h) (Or.inl ⟨by rfl, ?_⟩) ?_ ?_
     rotate_left
     ·
      intro w'
      go_simp
      with_reducible rfl
     rotate_left
     ·
      simp only [Act.put, qy, qz, ja, i64_w, i32_w]
      rfl
     refine pure_ (i := 28) (N := some 88) (v := ?_) (a' := ?_) (jl 30 536870911) rfl rfl (xE HT_.out jk) (fun _ _ _ h => h) (Or.inl ⟨by rfl, ?_⟩) ?_ ?_
     rotate_left
     ·
      intro w'
      go_simp
      with_reducible rfl
     rotate_left
     ·
      simp only [Act.put, qy, qz, ja, i64_w, i32_w]
      rfl
     refine last_ (i := 29) (N := none) (jl 30 1073741823) rfl rfl (one_of HT_.out jk) (by decide) (fun K hK => ?_)
     refine skip_ (w1 := ?_) (by rfl) rfl ?_ ?_
     rotate_left
     ·
      go_simp
      rfl
     refine hK.out _ _ ?_
     clear hK K
     refine done_ (done_of HT_.out jk) ?_
     try go_wp2
     go_roundg k4
     case measure => have := HK1.out; have := HK2.out; have := HK3.out; have := HK4.out; omega
     case rel => exact ⟨(y177), (wrap64 (x57_4 + 1)), rfl, H', ⟨by have := HK1.out; have := HK2.out; have := HK3.out; have := HK4.out; omega⟩, ⟨qh HQ34.out⟩, ⟨by repeat (first | exact HB.out | apply xR | apply xP | apply xN | refine xM ?_ GB31.out)⟩⟩
def slices_Clone_int_int.f (l0 : List Int) : Option (List Int) := (some (([] : List Int) : List Int)).bind fun y178 => (if y178.length + l0.length < 17592186044416 then (some (y178 ++ l0)) else (none))
theorem slices_Clone_int_int.calls (A0 : Option Addr) (c0 : Nat) (l0 : List Int) (r : List Int) (w : World) (hr0 : Kd.C (Kd.int .i64) w A0 l0.length l0) (hc0 : l0.length ≤ c0) (h : slices_Clone_int_int.f l0 = some r) :
  Calls Try.prog 90 #[.slice A0 l0.length c0] w fun e w' => ∃ v0_ : Value, e = .returned (v0_) ∧ Kd.R (Kd.int .i64) 3 w' w.heap.size (fun _ => True) v0_ r ∧ Below w.heap.size w w' := by
 by_cases hA : A0.isNone = true
 ·
  have hl : l0 = [] := by
   rcases A0 with _ | a
   ·
    obtain ⟨_, _, h3⟩ := hr0
    cases l0 with
    | nil => rfl
    | cons x l => obtain ⟨ad, hn, _⟩ := h3 (by simp); cases hn
   ·
    cases hA
  subst hl
  obtain rfl : r = [] := by
   have h' : (some (([] : List Int) ++ []) : Option (List Int)) = some r := by rw [← h]; rfl
   exact (qx h').symm
  have he := fun W : World => Lib.run_eql_slice_nil (P := Try.prog) W 26 3 A0 0 c0 0 0 Try.underlying26
  rw [hA] at he
  go_enter Try.func90, Try.ntmps90
  go_wp2
  go_ret
  exact ⟨_, rfl, Kd.R_nil _ _ _ _ _, Below.refl _ _⟩
 have hA' : A0.isNone = false := Bool.eq_false_iff.mpr hA
 clear hA
 have he := fun W : World => Lib.run_eql_slice_nil (P := Try.prog) W 26 3 A0 l0.length c0 0 0 Try.underlying26
 rw [hA'] at he
 clear hA'
 have HR0 := xA.mk hr0
 have HC0 := xA.mk hc0
 clear hr0 hc0
 have HB := xA.mk (Below.refl w.heap.size w)
 have H : ((some (([] : List Int) : List Int)).bind fun y178 => (if y178.length + l0.length < 17592186044416 then (some (y178 ++ l0)) else (none))) = some r := h
 clear h
 obtain ⟨y178, hy178⟩ : ∃ y_ : List Int, y_ = (([] : List Int)) := ⟨_, rfl⟩
 replace H : (if y178.length + l0.length < 17592186044416 then (some (y178 ++ l0)) else (none)) = some r := by rw [hy178]; exact H
 have Ny178 := xA.mk hy178
 clear hy178
 obtain ⟨c2, H⟩ := ite_some H
 have LMc2 := xA.mk c2
 clear c2
 obtain ⟨y181, hy181⟩ : ∃ y_ : List Int, y_ = (y178 ++ l0) := ⟨_, rfl⟩
 replace H : (some y181) = some r := by rw [hy181]; exact H
 have Ny181 := xA.mk hy181
 clear hy181
 obtain rfl := qx H
 go_enter Try.func90, Try.ntmps90
 go_wp2_with (first | ((with_reducible refine xW (N := 5) rfl ?_); refine Kd.R_lit (Kd.int .i64) _ 3 ?hg (N := 5) ?hd (xs := ([] : List Int)) (inner := []) (ok := fun _ => True) (okp := fun _ => True) ?hr ?hp (fun _ hk => hk) trivial (Below.refl _ _) (Nat.le_refl _) (by simp) ?_; (case hd => rfl); (case hg => rfl); (case hr => go_simp); (case hp => exact (Reps.none _ _)); intro v179 w3 ho4 hb hg_ hnew_; clear hg_ hnew_; (first | rw [← Ny178.out] at ho4 | (simp only [Int.reduceToNat] at ho4; rw [← Ny178.out] at ho4)); have HO180 := xA.mk (Kd.R_lower ho4 (xD (HB.out))); replace HB := xA.mk (xF (HB.out) hb); clear hb ho4) | ((with_reducible refine gate_builtin (b := .append) (xs := #[.tmp 5, .tmp 6]) rfl ?_); at_builtin; refine Kd.R_append_rows (Kd.int .i64) (w0 := w) w.heap.size rfl (.tmp 5) (.tmp 6) 26 3 (.int .i64 0) 8 rfl Try.underlying26 info3 rfl (by decide) jj v179 y178 l0 _ _ _ (fun _ => True) (fun _ => False) rfl rfl ?aO ?aR (fun _ _ h => h) (fun _ h => h.elim) ?aF ?aB ?aS ?aL ?_; (case aR => repeat (first | exact (Kd.yC HR0.out HB.out))); (case aB => exact (HB.out)); (case aF => exact (fun _ _ => trivial)); (case aO => exact (by exact HO180.out)); (case aS => exact (xD (HB.out))); (case aL => have := LMc2.out; omega); intro v182 w5 ho hb hg hat; rw [← Ny181.out] at ho; have n0_ := xA.mk (hb); have n1_ := xA.mk (ho); clear HB; clear HO180; have HB := n0_; have HO183 := n1_; clear n0_ n1_; clear ho hb hg hat))
 go_ret
 exact ⟨_, rfl, by exact HO183.out, HB.out⟩
def lgreach_1.f (a0 : Int) : Option (Int) := some 0
theorem lgreach_1.calls (a0 : Int) (r : Int) (w : World) (h : lgreach_1.f a0 = some r) :
  Calls Try.prog 98 #[.int .i64 a0] w fun e w' => e = .returned (.int .i64 r) ∧ Drawn0 w w' := by
 have H : (some 0) = some r := h
 clear h
 obtain rfl := qx H
 go_enter Try.func98, Try.ntmps98
 go_wp2
 go_ret
 exact ⟨qf, qe⟩
end Go.Proofs.Ythjmfbmffchicaa.V
