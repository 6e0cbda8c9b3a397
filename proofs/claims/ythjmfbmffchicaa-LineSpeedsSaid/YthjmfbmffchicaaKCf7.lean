/- Walks of functions that the law LineSpeeds reaches: each theorem '.calls' says that the call comes to what its printed plain function says, under the conditions that stand in it. -/
import Derived.Test.YthjmfbmffchicaaKCHub
import Derived.Test.YthjmfbmffchicaaKCf0
import Derived.Test.YthjmfbmffchicaaKCf1
import Derived.Test.YthjmfbmffchicaaKCf3
import Derived.Test.YthjmfbmffchicaaKCf4
import Derived.Test.YthjmfbmffchicaaKCf5
import Derived.Test.YthjmfbmffchicaaKCf6
namespace Go.Proofs.Ythjmfbmffchicaa.V
open Go.RowKit Go.Proofs.YthjmfbmffchicaaW.PrintWords Go.Proofs.YthjmfbmffchicaaW.PrintLast Go.Proofs.YthjmfbmffchicaaW.PrintMore
attribute [local go_sem] max2_int min2_int max_two min_two max_three min_three max_four min_four
set_option maxHeartbeats 8000000
set_option maxRecDepth 100000
set_option linter.unusedVariables false
set_option linter.unusedSimpArgs false
section
attribute [local go_sem high] eqA37
mutual
def l5LineSpeeds.j0 : Nat → List (List Int) → List (List Int) → Bool → Option (Bool)
 | 0, _, _, _ => none
 | k + 1, x0, x3, x33 => if x33 = true then (some false) else ((line_Cycle.f k x3).bind fun bt970 => ((r5Cycle.f k x0).bind fun bt974 => (if bt970.2 = bt974.2 then ((l5same.f k bt970.1 bt974.1).bind fun t978 => (l5LineSpeeds.j1 k x0 x3 (!t978))) else (l5LineSpeeds.j1 k x0 x3 true))))
def l5LineSpeeds.j1 : Nat → List (List Int) → List (List Int) → Bool → Option (Bool)
 | 0, _, _, _ => none
 | k + 1, x0, x3, x52 => if x52 = true then (some false) else ((line_Critical.f k x3).bind fun bt979 => ((r5Critical.f k x0).bind fun bt983 => (if bt979.2 = bt983.2 then ((l5same.f k bt979.1 bt983.1).bind fun t987 => (if t987 = true then ((l5rows.f k x3 x0).bind fun t988 => (if t988 = true then ((l5alive.f k).bind fun t989 => (some t989)) else (some false))) else (some false))) else (some false))))
end
def l5LineSpeeds.f (k : Nat) (l0 : List (List Int)) : Option (Bool) := (l5few.f k l0).bind fun t957 => (if t957 = true then ((l5copied.f k l0).bind fun t959 => ((line_Speed.f k t959).bind fun bt962 => ((r5Speed.f k l0).bind fun bt966 => (if (!(bt962.1 == bt966.1) || (!(bt962.2.1 == bt966.2.1))) = true then (l5LineSpeeds.j0 k l0 t959 true) else (l5LineSpeeds.j0 k l0 t959 (bt962.2.2 != bt966.2.2)))))) else ((l5alive.f k).bind fun t958 => (some t958)))
theorem l5LineSpeeds.calls (k : Nat) (A0 : Option Addr) (c0 : Nat) (l0 : List (List Int)) (r : Bool) (w : World) (hr0 : Kd.C (Kd.slice 3 (Kd.int .i64)) w A0 l0.length l0) (hc0 : l0.length ≤ c0) (h : l5LineSpeeds.f k l0 = some r) (hr_ : xA (r = true)) :
  Calls Try.prog 8 #[.slice A0 l0.length c0] w fun e w' => e = .returned (.bool r) ∧ Below w.heap.size w w' := by
 have hu37 := Try.underlying37
 have HR0 := xA.mk hr0
 have HC0 := xA.mk hc0
 clear hr0 hc0
 have HB := xA.mk (Below.refl w.heap.size w)
 have H : ((l5few.f k l0).bind fun t957 => (if t957 = true then ((l5copied.f k l0).bind fun t959 => ((line_Speed.f k t959).bind fun bt962 => ((r5Speed.f k l0).bind fun bt966 => (if (!(bt962.1 == bt966.1) || (!(bt962.2.1 == bt966.2.1))) = true then (l5LineSpeeds.j0 k l0 t959 true) else (l5LineSpeeds.j0 k l0 t959 (bt962.2.2 != bt966.2.2)))))) else ((l5alive.f k).bind fun t958 => (some t958)))) = some r := h
 clear h
 replace H := qw H
 obtain ⟨t957, A20, H⟩ := H
 replace H : (if t957 = true then ((l5copied.f k l0).bind fun t959 => ((line_Speed.f k t959).bind fun bt962 => ((r5Speed.f k l0).bind fun bt966 => (if (!(bt962.1 == bt966.1) || (!(bt962.2.1 == bt966.2.1))) = true then (l5LineSpeeds.j0 k l0 t959 true) else (l5LineSpeeds.j0 k l0 t959 (bt962.2.2 != bt966.2.2)))))) else ((l5alive.f k).bind fun t958 => (some t958))) = some r := H
 have A2 := xA.mk A20
 clear A20
 by_cases c3 : t957 = true
 ·
  subst c3
  have H1 : ((l5copied.f k l0).bind fun t959 => ((line_Speed.f k t959).bind fun bt962 => ((r5Speed.f k l0).bind fun bt966 => (if (!(bt962.1 == bt966.1) || (!(bt962.2.1 == bt966.2.1))) = true then (l5LineSpeeds.j0 k l0 t959 true) else (l5LineSpeeds.j0 k l0 t959 (bt962.2.2 != bt966.2.2)))))) = some r := by rw [if_pos rfl] at H; exact H
  clear H
  have H := H1
  clear H1
  replace H := qw H
  obtain ⟨t959, A40, H⟩ := H
  replace H : ((line_Speed.f k t959).bind fun bt962 => ((r5Speed.f k l0).bind fun bt966 => (if (!(bt962.1 == bt966.1) || (!(bt962.2.1 == bt966.2.1))) = true then (l5LineSpeeds.j0 k l0 t959 true) else (l5LineSpeeds.j0 k l0 t959 (bt962.2.2 != bt966.2.2))))) = some r := H
  have A4 := xA.mk A40
  clear A40
  replace H := qw H
  obtain ⟨⟨t962, t963, t964⟩, A50, H⟩ := H
  replace H : ((r5Speed.f k l0).bind fun bt966 => (if (!(t962 == bt966.1) || (!(t963 == bt966.2.1))) = true then (l5LineSpeeds.j0 k l0 t959 true) else (l5LineSpeeds.j0 k l0 t959 (t964 != bt966.2.2)))) = some r := H
  have A5 := xA.mk A50
  clear A50
  replace H := qw H
  obtain ⟨⟨t966, t967, t968⟩, A60, H⟩ := H
  replace H : (if (!(t962 == t966) || (!(t963 == t967))) = true then (l5LineSpeeds.j0 k l0 t959 true) else (l5LineSpeeds.j0 k l0 t959 (t964 != t968))) = some r := H
  have A6 := xA.mk A60
  clear A60
  have HC7 := xA.mk H
  clear H
  go_enter Try.func8, Try.ntmps8
  go_upto_region 6 with (first | ((with_reducible refine xF (f := 12) rfl ?_); refine xM (some 11) rfl rfl Try.func12 jk rfl #[.slice A0 l0.length c0] rfl qc ?_; (with_reducible refine (l5few.calls k _ _ l0 true _ ?side1 ?side2 A2.out).mono ?_); (case side1 => exact qm HR0.out); (case side2 => exact HC0.out); rintro e w' ⟨rfl, ⟨nd, rfl⟩⟩; refine ⟨_, rfl, ?_⟩) | ((with_reducible refine xF (f := 14) rfl ?_); refine xM (some 15) rfl rfl Try.func14 jk rfl #[.slice A0 l0.length c0] rfl qc ?_; (with_reducible refine (l5copied.calls k _ _ l0 t959 _ ?side1 ?side2 A4.out).mono ?_); (case side1 => exact qm HR0.out); (case side2 => exact HC0.out); rintro e w8 ⟨v960, rfl, ho0, hb⟩; refine ⟨_, rfl, ?_⟩; have HO961 := xA.mk (Kd.S_lower ho0 (xC qa)); replace HB := xA.mk (xE qa hb); (try clear hb); (try clear hb2); (try clear hk); (try clear hi); (try clear ho0); obtain ⟨Ao9, co9, eo9⟩ := Kd.S_slice HO961.out; subst eo9) | ((with_reducible refine xF (f := 22) rfl ?_); refine xM (some 18) rfl rfl Try.func22 jk rfl #[.slice Ao9 t959.length co9] rfl qc ?_; (with_reducible refine (line_Speed.calls k _ _ t959 t962 t963 t964 _ ?side1 ?side2 A5.out).mono ?_); (case side1 => exact qm (Kd.xG HO961.out).2.2); (case side2 => exact (Kd.xG HO961.out).2.1); rintro e w10 ⟨rfl, hb⟩; refine ⟨_, rfl, ?_⟩; replace HO961 := xA.mk (Kd.xZ (qh HO961.out) hb); replace HB := xA.mk (xE qa hb); (try clear hb); (try clear hb2); (try clear hk); (try clear hi)) | ((with_reducible refine xW (N := 4) rfl ?_); refine xY ?hg (N := 4) ?hd (cs := #[.int .i64 0, .int .i64 0]) (t := 37) ?hr ?_; (case hd => rfl); (case hg => rfl); (case hr => first | (go_simp; done) | (go_simp; rfl)); intro gb965 hg w11 hbox hb; have n0_ := xA.mk (Kd.xZ (qh HO961.out) hb); have n1_ := xA.mk (xE qa hb); have n2_ := xA.mk (hbox); have n3_ := xA.mk ((by rw [hg]; exact (xC qa) : w.heap.size ≤ gb965)); have n4_ := xA.mk ((by rw [hg]; exact (xC qa) : w.heap.size ≤ gb965)); clear HO961; clear HB; have HO961 := n0_; have HB := n1_; have BK965 := n2_; have GW965 := n3_; have GE965 := n4_; clear n0_ n1_ n2_ n3_ n4_; clear hb hbox hg; have hcz12_0 : w11.cell? ⟨gb965, 0, none⟩ = some (.int .i64 0) := (xB BK965.out 0).trans rfl; have hcz12_1 : w11.cell? ⟨gb965, 1, none⟩ = some (.int .i64 0) := (xB BK965.out 1).trans rfl; have hfz12_0 := xD BK965.out 0; have hfz12_1 := xD BK965.out 1) | ((with_reducible refine xF (f := 32) rfl ?_); refine xM (some 23) rfl rfl Try.func32 jk rfl #[.slice A0 l0.length c0] rfl qc ?_; (with_reducible refine (r5Speed.calls k _ _ l0 t966 t967 t968 _ ?side1 ?side2 A6.out).mono ?_); (case side1 => exact Kd.xR HR0.out (qo GE965.out)); (case side2 => exact HC0.out); rintro e w13 ⟨rfl, hb⟩; refine ⟨_, rfl, ?_⟩; have n0_ := xA.mk (Kd.xZ (by (with_reducible repeat (first | apply Kd.S_alloc | apply Kd.S_drewN | apply Kd.S_drew)); exact (Kd.xU (Kd.S_far (p := ⟨gb965, 1, none⟩) (Kd.S_far (p := ⟨gb965, 0, none⟩) (Kd.S_types HO961.out BK965.out (by decide)) (fun _ hk => hk.2) (.int .i64 t962)) (fun _ hk => hk.2) (.int .i64 t963)) (fun _ h_ => h_.1))) hb); have n1_ := xA.mk (xN (g := gb965) (o := .cells #[.int .i64 t962, .int .i64 t963] 37 (0, 0)) (by (with_reducible repeat (first | refine xJ ?_ _ | refine xI ?_ | refine xH ?_ _)); refine xT (cs := #[.int .i64 t962, .int .i64 0]) ?_ 1 _ rfl; (with_reducible repeat (first | refine xJ ?_ _ | refine xI ?_ | refine xH ?_ _)); refine xT (cs := #[.int .i64 0, .int .i64 0]) ?_ 0 _ rfl; (with_reducible repeat (first | refine xJ ?_ _ | refine xI ?_ | refine xH ?_ _)); exact BK965.out) hb); have n2_ := xA.mk (xE (qo GE965.out) hb); clear HO961; clear BK965; clear HB; have HO961 := n0_; have BK965 := n1_; have HB := n2_; clear n0_ n1_ n2_; (try clear hb); (try clear hb2); (try clear hk); (try clear hi)) | ((with_reducible refine xW (N := 6) rfl ?_); refine xY ?hg (N := 6) ?hd (cs := #[.int .i64 0, .int .i64 0]) (t := 37) ?hr ?_; (case hd => rfl); (case hg => rfl); (case hr => first | (go_simp; done) | (go_simp; rfl)); intro gb969 hg w14 hbox hb; have n0_ := xA.mk (Kd.xZ (qh HO961.out) hb); have n1_ := xA.mk (xN (g := gb965) (o := .cells #[.int .i64 t962, .int .i64 t963] 37 (0, 0)) (qn BK965.out) hb); have n2_ := xA.mk (xE (qo GE965.out) hb); have n3_ := xA.mk (hbox); have n4_ := xA.mk ((by rw [hg]; exact (xC (qo GE965.out)) : w.heap.size ≤ gb969)); have n5_ := xA.mk ((by rw [hg]; exact (xC (qo GE965.out)) : w.heap.size ≤ gb969)); have n6_ := xA.mk ((by rw [hg]; exact Nat.ne_of_lt (blk_lt (g := gb965) (o := .cells #[.int .i64 t962, .int .i64 t963] 37 (0, 0)) (qn BK965.out)) : gb965 ≠ gb969)); have n7_ := xA.mk ((by rw [hg]; exact Nat.ne_of_gt (blk_lt (g := gb965) (o := .cells #[.int .i64 t962, .int .i64 t963] 37 (0, 0)) (qn BK965.out)) : gb969 ≠ gb965)); clear HO961; clear BK965; clear HB; have HO961 := n0_; have BK965 := n1_; have HB := n2_; have BK969 := n3_; have GW969 := n4_; have GE969 := n5_; have NB965_969 := n6_; have NB969_965 := n7_; clear n0_ n1_ n2_ n3_ n4_ n5_ n6_ n7_; clear hb hbox hg; have hnb15 := NB969_965.out; have hnc15 := NB965_969.out; have hcz16_0 : w14.cell? ⟨gb969, 0, none⟩ = some (.int .i64 0) := (xB BK969.out 0).trans rfl; have hcz16_1 : w14.cell? ⟨gb969, 1, none⟩ = some (.int .i64 0) := (xB BK969.out 1).trans rfl; have hfz16_0 := xD BK969.out 0; have hfz16_1 := xD BK969.out 1))
  (try simp only [Act.put, qy, qz, ja])
  go_cut [33] (fun v33 wc => ∃ (kq : Nat) (x33_6 : Bool), v33 = .bool x33_6 ∧ xA (l5LineSpeeds.j0 kq l0 t959 x33_6 = some r) ∧ xA (kq ≤ k) ∧ xA (Kd.S (Kd.slice 3 (Kd.int .i64)) 26 wc w.heap.size (fun _ => True) (.slice Ao9 t959.length co9) t959) ∧ xA (wc.heap[gb965]? = some (.cells #[.int .i64 t962, .int .i64 t963] 37 (0, 0))) ∧ xA (wc.heap[gb969]? = some (.cells #[.int .i64 t966, .int .i64 t967] 37 (0, 0))) ∧ xA (Below w.heap.size w wc))
  case first =>
   have H := HC7.out
   clear HC7
   by_cases c17 : (!(t962 == t966) || (!(t963 == t967))) = true
   ·
    rw [if_pos c17] at H
    have c17b0 : (!(t962 == t966) || (!(t963 == t967))) = true := c17
    clear c17
    (first | rw [c17b0] | (simp only [i64_w, i32_w]; rw [c17b0]) | skip)
    have H' := xA.mk H
    clear H
    have hnb18 := NB965_969.out
    have hnc18 := NB969_965.out
    have hcz19_0 : w14.cell? ⟨gb965, 0, none⟩ = some (.int .i64 t962) := (xB BK965.out 0).trans rfl
    have hcz19_1 : w14.cell? ⟨gb965, 1, none⟩ = some (.int .i64 t963) := (xB BK965.out 1).trans rfl
    have hfz19_0 := xD BK965.out 0
    have hfz19_1 := xD BK965.out 1
    have hcz20_0 : w14.cell? ⟨gb969, 0, none⟩ = some (.int .i64 0) := (xB BK969.out 0).trans rfl
    have hcz20_1 : w14.cell? ⟨gb969, 1, none⟩ = some (.int .i64 0) := (xB BK969.out 1).trans rfl
    have hfz20_0 := xD BK969.out 0
    have hfz20_1 := xD BK969.out 1
    go_wp2
    go_meet
    case rel => exact ⟨_, (true), qf, H', ⟨by first | omega | exact Nat.le_refl _⟩, ⟨by (with_reducible repeat (first | apply Kd.S_alloc | apply Kd.S_drewN | apply Kd.S_drew)); exact Kd.xU (Kd.S_far (p := ⟨gb969, 1, none⟩) (Kd.S_far (p := ⟨gb969, 0, none⟩) (Kd.S_types HO961.out BK969.out (by decide)) (fun _ hk => hk.2) (.int .i64 t966)) (fun _ hk => hk.2) (.int .i64 t967)) (fun _ hk => trivial)⟩, ⟨by (with_reducible repeat (first | refine xJ ?_ _ | refine xI ?_ | refine xH ?_ _)); refine blk_far ?_ NB965_969.out _; (with_reducible repeat (first | refine xJ ?_ _ | refine xI ?_ | refine xH ?_ _)); refine blk_far ?_ NB965_969.out _; (with_reducible repeat (first | refine xJ ?_ _ | refine xI ?_ | refine xH ?_ _)); exact BK965.out⟩, ⟨by (with_reducible repeat (first | refine xJ ?_ _ | refine xI ?_ | refine xH ?_ _)); refine xT (cs := #[.int .i64 t966, .int .i64 0]) ?_ 1 _ rfl; (with_reducible repeat (first | refine xJ ?_ _ | refine xI ?_ | refine xH ?_ _)); refine xT (cs := #[.int .i64 0, .int .i64 0]) ?_ 0 _ rfl; (with_reducible repeat (first | refine xJ ?_ _ | refine xI ?_ | refine xH ?_ _)); exact BK969.out⟩, ⟨by repeat (first | (with_reducible first | exact HB.out | apply xS | apply xO | apply xP | refine xL ?_ GE965.out | refine xL ?_ GE969.out) | exact HB.out)⟩⟩
   ·
    rw [if_neg c17] at H
    have c17b0 : (!(t962 == t966) || (!(t963 == t967))) = false := by simpa using c17
    clear c17
    (first | rw [c17b0] | (simp only [i64_w, i32_w]; rw [c17b0]) | skip)
    have H' := xA.mk H
    clear H
    have hnb21 := NB965_969.out
    have hnc21 := NB969_965.out
    have hcz22_0 : w14.cell? ⟨gb965, 0, none⟩ = some (.int .i64 t962) := (xB BK965.out 0).trans rfl
    have hcz22_1 : w14.cell? ⟨gb965, 1, none⟩ = some (.int .i64 t963) := (xB BK965.out 1).trans rfl
    have hfz22_0 := xD BK965.out 0
    have hfz22_1 := xD BK965.out 1
    have hcz23_0 : w14.cell? ⟨gb969, 0, none⟩ = some (.int .i64 0) := (xB BK969.out 0).trans rfl
    have hcz23_1 : w14.cell? ⟨gb969, 1, none⟩ = some (.int .i64 0) := (xB BK969.out 1).trans rfl
    have hfz23_0 := xD BK969.out 0
    have hfz23_1 := xD BK969.out 1
    go_wp2
    go_meet
    case rel => exact ⟨_, ((t964 != t968)), qf, H', ⟨by first | omega | exact Nat.le_refl _⟩, ⟨by (with_reducible repeat (first | apply Kd.S_alloc | apply Kd.S_drewN | apply Kd.S_drew)); exact Kd.xU (Kd.S_far (p := ⟨gb969, 1, none⟩) (Kd.S_far (p := ⟨gb969, 0, none⟩) (Kd.S_types HO961.out BK969.out (by decide)) (fun _ hk => hk.2) (.int .i64 t966)) (fun _ hk => hk.2) (.int .i64 t967)) (fun _ hk => trivial)⟩, ⟨by (with_reducible repeat (first | refine xJ ?_ _ | refine xI ?_ | refine xH ?_ _)); refine blk_far ?_ NB965_969.out _; (with_reducible repeat (first | refine xJ ?_ _ | refine xI ?_ | refine xH ?_ _)); refine blk_far ?_ NB965_969.out _; (with_reducible repeat (first | refine xJ ?_ _ | refine xI ?_ | refine xH ?_ _)); exact BK965.out⟩, ⟨by (with_reducible repeat (first | refine xJ ?_ _ | refine xI ?_ | refine xH ?_ _)); refine xT (cs := #[.int .i64 t966, .int .i64 0]) ?_ 1 _ rfl; (with_reducible repeat (first | refine xJ ?_ _ | refine xI ?_ | refine xH ?_ _)); refine xT (cs := #[.int .i64 0, .int .i64 0]) ?_ 0 _ rfl; (with_reducible repeat (first | refine xJ ?_ _ | refine xI ?_ | refine xH ?_ _)); exact BK969.out⟩, ⟨by repeat (first | (with_reducible first | exact HB.out | apply xS | apply xO | apply xP | refine xL ?_ GE965.out | refine xL ?_ GE969.out) | exact HB.out)⟩⟩
  case rest =>
   clear HC7
   try clear c1
   try clear c2
   try clear p2
   try clear c3
   try clear c8
   try clear c12
   try clear c14
   try clear c15
   try clear c17
   try clear c17b0
   try clear c18
   try clear c21
   try clear c22
   try clear hcz12_0
   try clear hcz12_1
   try clear hcz16_0
   try clear hcz16_1
   try clear hcz19_0
   try clear hcz19_1
   try clear hcz20_0
   try clear hcz20_1
   try clear hcz22_0
   try clear hcz22_1
   try clear hcz23_0
   try clear hcz23_1
   try clear hfz12_0
   try clear hfz12_1
   try clear hfz16_0
   try clear hfz16_1
   try clear hfz19_0
   try clear hfz19_1
   try clear hfz20_0
   try clear hfz20_1
   try clear hfz22_0
   try clear hfz22_1
   try clear hfz23_0
   try clear hfz23_1
   obtain ⟨kq, x33_6, rfl, HA, HJ6, HO_3, BK965, BK969, HB⟩ := hcut
   cases kq with
   | zero => exact absurd HA.out (by simp [l5LineSpeeds.j0])
   | succ kj6 =>
    have H := HA.out
    clear HA
    simp only [l5LineSpeeds.j0] at H
    by_cases c24 : x33_6 = true
    ·
     subst c24
     have H1 : (some false) = some r := by rw [if_pos rfl] at H; exact H
     clear H
     have H := H1
     clear H1
     exact absurd (H.trans (congrArg some hr_.out)) (by simp)
    ·
     replace c24 := Bool.eq_false_iff.mpr c24
     subst c24
     have H1 : ((line_Cycle.f kj6 t959).bind fun bt970 => ((r5Cycle.f kj6 l0).bind fun bt974 => (if bt970.2 = bt974.2 then ((l5same.f kj6 bt970.1 bt974.1).bind fun t978 => (l5LineSpeeds.j1 kj6 l0 t959 (!t978))) else (l5LineSpeeds.j1 kj6 l0 t959 true)))) = some r := by rw [if_neg (show ¬ (false = true) by decide)] at H; exact H
     clear H
     have H := H1
     clear H1
     replace H := qw H
     obtain ⟨⟨t970, t971⟩, A250, H⟩ := H
     replace H : ((r5Cycle.f kj6 l0).bind fun bt974 => (if t971 = bt974.2 then ((l5same.f kj6 t970 bt974.1).bind fun t978 => (l5LineSpeeds.j1 kj6 l0 t959 (!t978))) else (l5LineSpeeds.j1 kj6 l0 t959 true))) = some r := H
     have A25 := xA.mk A250
     clear A250
     replace H := qw H
     obtain ⟨⟨t974, t977⟩, A260, H⟩ := H
     replace H : (if t971 = t977 then ((l5same.f kj6 t970 t974).bind fun t978 => (l5LineSpeeds.j1 kj6 l0 t959 (!t978))) else (l5LineSpeeds.j1 kj6 l0 t959 true)) = some r := H
     have A26 := xA.mk A260
     clear A260
     have HC27 := xA.mk H
     clear H
     go_upto_region 10 with (first | ((with_reducible refine xF (f := 33) rfl ?_); refine xM (some 36) rfl rfl Try.func33 jk rfl #[.slice Ao9 t959.length co9] rfl qc ?_; (with_reducible refine (line_Cycle.calls kj6 _ _ t959 t970 t971 _ ?side1 ?side2 A25.out).mono ?_); (case side1 => exact qm (Kd.xG HO_3.out).2.2); (case side2 => exact (Kd.xG HO_3.out).2.1); rintro e w28 ⟨v972, rfl, ho0, hb⟩; refine ⟨_, rfl, ?_⟩; replace HO_3 := xA.mk (Kd.S_elder' (qh HO_3.out) (Kd.R_base ho0) hb); have HO973 := xA.mk (Kd.R_lower ho0 (xC (by repeat (first | (with_reducible first | exact HB.out | apply xS | apply xO | apply xP | refine xL ?_ GE965.out | refine xL ?_ GE969.out) | exact HB.out)))); replace BK965 := xA.mk (xN (g := gb965) (o := .cells #[.int .i64 t962, .int .i64 t963] 37 (0, 0)) (qn BK965.out) hb); replace BK969 := xA.mk (xN (g := gb969) (o := .cells #[.int .i64 t966, .int .i64 t967] 37 (0, 0)) (qn BK969.out) hb); replace HB := xA.mk (xE (by repeat (first | (with_reducible first | exact HB.out | apply xS | apply xO | apply xP | refine xL ?_ GE965.out | refine xL ?_ GE969.out) | exact HB.out)) hb); (try clear hb); (try clear hb2); (try clear hk); (try clear hi); (try clear ho0)) | ((with_reducible refine xF (f := 34) rfl ?_); refine xM (some 41) rfl rfl Try.func34 jk rfl #[.slice A0 l0.length c0] rfl qc ?_; (with_reducible refine (r5Cycle.calls kj6 _ _ l0 t974 t977 _ ?side1 ?side2 A26.out).mono ?_); (case side1 => exact qm (Kd.xR HR0.out HB.out)); (case side2 => exact HC0.out); rintro e w29 ⟨v975, rfl, ho0, hb⟩; refine ⟨_, rfl, ?_⟩; have HO976 := xA.mk (Kd.V_lower (Kd.V_mono (ok' := fun k_ => some k_ ≠ (.slice Ao9 t959.length co9 : Value).ownBlock ∧ some k_ ≠ (v972 : Value).ownBlock ∧ k_ ≠ gb965 ∧ k_ ≠ gb969) ho0 (fun k_ hk_ => ⟨(Kd.fresh' (Kd.S_lt (qh HO_3.out)) k_ hk_), (Kd.fresh' (Kd.R_lt (qi HO973.out)) k_ hk_), (Kd.freshB (g := gb965) (o := .cells #[.int .i64 t962, .int .i64 t963] 37 (0, 0)) (qn BK965.out) k_ hk_), (Kd.freshB (g := gb969) (o := .cells #[.int .i64 t966, .int .i64 t967] 37 (0, 0)) (qn BK969.out) k_ hk_)⟩)) (xC (by repeat (first | (with_reducible first | exact HB.out | apply xS | apply xO | apply xP | refine xL ?_ GE965.out | refine xL ?_ GE969.out) | exact HB.out)))); replace HO_3 := xA.mk (Kd.xZ (qh HO_3.out) hb); replace HO973 := xA.mk (Kd.R_below (qi HO973.out) hb); replace BK965 := xA.mk (xN (g := gb965) (o := .cells #[.int .i64 t962, .int .i64 t963] 37 (0, 0)) (qn BK965.out) hb); replace BK969 := xA.mk (xN (g := gb969) (o := .cells #[.int .i64 t966, .int .i64 t967] 37 (0, 0)) (qn BK969.out) hb); replace HB := xA.mk (xE (by repeat (first | (with_reducible first | exact HB.out | apply xS | apply xO | apply xP | refine xL ?_ GE965.out | refine xL ?_ GE969.out) | exact HB.out)) hb); (try clear hb); (try clear hb2); (try clear hk); (try clear hi); (try clear ho0)))
     (try simp only [Act.put, qy, qz, ja])
     go_cut [52] (fun v52 wc => ∃ (kq : Nat) (x52_26 : Bool), v52 = .bool x52_26 ∧ xA (l5LineSpeeds.j1 kq l0 t959 x52_26 = some r) ∧ xA (kq ≤ kj6) ∧ xA (Kd.S (Kd.slice 3 (Kd.int .i64)) 26 wc w.heap.size (fun _ => True) (.slice Ao9 t959.length co9) t959) ∧ xA (wc.heap[gb965]? = some (.cells #[.int .i64 t962, .int .i64 t963] 37 (0, 0))) ∧ xA (wc.heap[gb969]? = some (.cells #[.int .i64 t966, .int .i64 t967] 37 (0, 0))) ∧ xA (Below w.heap.size w wc))
     case first =>
      have H := HC27.out
      clear HC27
      by_cases c30 : t971 = t977
      ·
       rw [if_pos c30] at H
       have c30b0 : (t971 == t977) = true := beq_iff_eq.mpr c30
       have c30b1 : (t971 != t977) = false := bne_eq_false_iff_eq.mpr c30
       clear c30
       (first | rw [c30b0] | (simp only [i64_w, i32_w]; rw [c30b0]) | skip)
       replace H := qw H
       obtain ⟨t978, A310, H⟩ := H
       replace H : (l5LineSpeeds.j1 kj6 l0 t959 (!t978)) = some r := H
       have A31 := xA.mk A310
       clear A310
       have H' := xA.mk H
       clear H
       obtain ⟨Ao32, co32, eo32⟩ := Kd.R_slice HO973.out
       subst eo32
       obtain ⟨Ao33, co33, eo33⟩ := Kd.V_slice HO976.out
       subst eo33
       go_wp2_with (first | (go_at_call 17; (with_reducible refine (l5same.calls kj6 _ _ t970 _ _ t974 t978 _ ?side1 ?side2 ?side3 ?side4 A31.out).mono ?_); (case side1 => exact qm (Kd.yA HO973.out).2.2); (case side2 => exact (Kd.yA HO973.out).2.1); (case side3 => exact qm (Kd.xV HO976.out).2.2); (case side4 => exact (Kd.xV HO976.out).2.1); rintro e w' ⟨rfl, ⟨nd, rfl⟩⟩))
       go_meet
       case rel => exact ⟨_, (!t978), qf, H', ⟨by have := HJ6.out; first | omega | exact Nat.le_refl _⟩, ⟨by (with_reducible repeat (first | apply Kd.S_alloc | apply Kd.S_drewN | apply Kd.S_drew)); exact Kd.xU HO_3.out (fun _ hk => trivial)⟩, ⟨qn BK965.out⟩, ⟨qn BK969.out⟩, ⟨by repeat (first | (with_reducible first | exact HB.out | apply xS | apply xO | apply xP | refine xL ?_ GE965.out | refine xL ?_ GE969.out) | exact HB.out)⟩⟩
      ·
       rw [if_neg c30] at H
       have c30b0 : (t971 == t977) = false := jg c30
       have c30b1 : (t971 != t977) = true := bne_iff_ne.mpr c30
       (first | rw [c30b0] | (simp only [i64_w, i32_w]; rw [c30b0]) | skip)
       have H' := xA.mk H
       clear H
       go_wp2
       go_meet
       case rel => exact ⟨_, (true), qf, H', ⟨by have := HJ6.out; first | omega | exact Nat.le_refl _⟩, ⟨by (with_reducible repeat (first | apply Kd.S_alloc | apply Kd.S_drewN | apply Kd.S_drew)); exact Kd.xU HO_3.out (fun _ hk => trivial)⟩, ⟨qn BK965.out⟩, ⟨qn BK969.out⟩, ⟨by repeat (first | (with_reducible first | exact HB.out | apply xS | apply xO | apply xP | refine xL ?_ GE965.out | refine xL ?_ GE969.out) | exact HB.out)⟩⟩
     case rest =>
      clear HC27
      try clear c1
      try clear c2
      try clear p2
      try clear c3
      try clear c8
      try clear c12
      try clear c14
      try clear c15
      try clear c17
      try clear c17b0
      try clear c18
      try clear c21
      try clear c22
      try clear c24
      try clear c30
      try clear c30b0
      try clear c30b1
      try clear c32
      try clear c33
      try clear hcz12_0
      try clear hcz12_1
      try clear hcz16_0
      try clear hcz16_1
      try clear hcz19_0
      try clear hcz19_1
      try clear hcz20_0
      try clear hcz20_1
      try clear hcz22_0
      try clear hcz22_1
      try clear hcz23_0
      try clear hcz23_1
      try clear hfz12_0
      try clear hfz12_1
      try clear hfz16_0
      try clear hfz16_1
      try clear hfz19_0
      try clear hfz19_1
      try clear hfz20_0
      try clear hfz20_1
      try clear hfz22_0
      try clear hfz22_1
      try clear hfz23_0
      try clear hfz23_1
      try clear p2
      obtain ⟨kq, x52_26, rfl, HA, HJ26, HO_3, BK965, BK969, HB⟩ := hcut
      cases kq with
      | zero => exact absurd HA.out (by simp [l5LineSpeeds.j1])
      | succ kj26 =>
       have H := HA.out
       clear HA
       simp only [l5LineSpeeds.j1] at H
       by_cases c34 : x52_26 = true
       ·
        subst c34
        have H1 : (some false) = some r := by rw [if_pos rfl] at H; exact H
        clear H
        have H := H1
        clear H1
        exact absurd (H.trans (congrArg some hr_.out)) (by simp)
       ·
        replace c34 := Bool.eq_false_iff.mpr c34
        subst c34
        have H1 : ((line_Critical.f kj26 t959).bind fun bt979 => ((r5Critical.f kj26 l0).bind fun bt983 => (if bt979.2 = bt983.2 then ((l5same.f kj26 bt979.1 bt983.1).bind fun t987 => (if t987 = true then ((l5rows.f kj26 t959 l0).bind fun t988 => (if t988 = true then ((l5alive.f kj26).bind fun t989 => (some t989)) else (some false))) else (some false))) else (some false)))) = some r := by rw [if_neg (show ¬ (false = true) by decide)] at H; exact H
        clear H
        have H := H1
        clear H1
        replace H := qw H
        obtain ⟨⟨t979, t980⟩, A350, H⟩ := H
        replace H : ((r5Critical.f kj26 l0).bind fun bt983 => (if t980 = bt983.2 then ((l5same.f kj26 t979 bt983.1).bind fun t987 => (if t987 = true then ((l5rows.f kj26 t959 l0).bind fun t988 => (if t988 = true then ((l5alive.f kj26).bind fun t989 => (some t989)) else (some false))) else (some false))) else (some false))) = some r := H
        have A35 := xA.mk A350
        clear A350
        replace H := qw H
        obtain ⟨⟨t983, t984⟩, A360, H⟩ := H
        replace H : (if t980 = t984 then ((l5same.f kj26 t979 t983).bind fun t987 => (if t987 = true then ((l5rows.f kj26 t959 l0).bind fun t988 => (if t988 = true then ((l5alive.f kj26).bind fun t989 => (some t989)) else (some false))) else (some false))) else (some false)) = some r := H
        have A36 := xA.mk A360
        clear A360
        by_cases c37 : t980 = t984
        ·
         rw [if_pos c37] at H
         have c37b0 : (t980 == t984) = true := beq_iff_eq.mpr c37
         have c37b1 : (t980 != t984) = false := bne_eq_false_iff_eq.mpr c37
         clear c37
         replace H := qw H
         obtain ⟨t987, A380, H⟩ := H
         replace H : (if t987 = true then ((l5rows.f kj26 t959 l0).bind fun t988 => (if t988 = true then ((l5alive.f kj26).bind fun t989 => (some t989)) else (some false))) else (some false)) = some r := H
         have A38 := xA.mk A380
         clear A380
         by_cases c39 : t987 = true
         ·
          subst c39
          have H1 : ((l5rows.f kj26 t959 l0).bind fun t988 => (if t988 = true then ((l5alive.f kj26).bind fun t989 => (some t989)) else (some false))) = some r := by rw [if_pos rfl] at H; exact H
          clear H
          have H := H1
          clear H1
          replace H := qw H
          obtain ⟨t988, A400, H⟩ := H
          replace H : (if t988 = true then ((l5alive.f kj26).bind fun t989 => (some t989)) else (some false)) = some r := H
          have A40 := xA.mk A400
          clear A400
          by_cases c41 : t988 = true
          ·
           subst c41
           have H1 : ((l5alive.f kj26).bind fun t989 => (some t989)) = some r := by rw [if_pos rfl] at H; exact H
           clear H
           have H := H1
           clear H1
           replace H := qw H
           obtain ⟨t989, A420, H⟩ := H
           replace H : (some t989) = some r := H
           have A42 := xA.mk A420
           clear A420
           obtain rfl := qx H
           go_wp2_with (first | ((with_reducible refine xF (f := 35) rfl ?_); refine xM (some 55) rfl rfl Try.func35 jk rfl #[.slice Ao9 t959.length co9] rfl qc ?_; (with_reducible refine (line_Critical.calls kj26 _ _ t959 t979 t980 _ ?side1 ?side2 A35.out).mono ?_); (case side1 => exact qm (Kd.xG HO_3.out).2.2); (case side2 => exact (Kd.xG HO_3.out).2.1); rintro e w43 ⟨v981, rfl, ho0, hb⟩; refine ⟨_, rfl, ?_⟩; replace HO_3 := xA.mk (Kd.S_elder' (qh HO_3.out) (Kd.R_base ho0) hb); have HO982 := xA.mk (Kd.R_lower ho0 (xC (by repeat (first | (with_reducible first | exact HB.out | apply xS | apply xO | apply xP | refine xL ?_ GE965.out | refine xL ?_ GE969.out) | exact HB.out)))); replace BK965 := xA.mk (xN (g := gb965) (o := .cells #[.int .i64 t962, .int .i64 t963] 37 (0, 0)) (qn BK965.out) hb); replace BK969 := xA.mk (xN (g := gb969) (o := .cells #[.int .i64 t966, .int .i64 t967] 37 (0, 0)) (qn BK969.out) hb); replace HB := xA.mk (xE (by repeat (first | (with_reducible first | exact HB.out | apply xS | apply xO | apply xP | refine xL ?_ GE965.out | refine xL ?_ GE969.out) | exact HB.out)) hb); (try clear hb); (try clear hb2); (try clear hk); (try clear hi); (try clear ho0)) | ((with_reducible refine xF (f := 36) rfl ?_); refine xM (some 60) rfl rfl Try.func36 jk rfl #[.slice A0 l0.length c0] rfl qc ?_; (with_reducible refine (r5Critical.calls kj26 _ _ l0 t983 t984 _ ?side1 ?side2 A36.out).mono ?_); (case side1 => exact qm (Kd.xR HR0.out HB.out)); (case side2 => exact HC0.out); rintro e w44 ⟨v985, rfl, ho0, hb⟩; refine ⟨_, rfl, ?_⟩; replace HO_3 := xA.mk (Kd.S_elder' (qh HO_3.out) (Kd.R_base ho0) hb); have HO986 := xA.mk (Kd.R_lower (Kd.R_new' ho0 (Kd.R_lt (qi HO982.out))) (xC (by repeat (first | (with_reducible first | exact HB.out | apply xS | apply xO | apply xP | refine xL ?_ GE965.out | refine xL ?_ GE969.out) | exact HB.out)))); replace HO982 := xA.mk (Kd.R_elder' (qi HO982.out) (Kd.R_base ho0) hb); replace BK965 := xA.mk (xN (g := gb965) (o := .cells #[.int .i64 t962, .int .i64 t963] 37 (0, 0)) (qn BK965.out) hb); replace BK969 := xA.mk (xN (g := gb969) (o := .cells #[.int .i64 t966, .int .i64 t967] 37 (0, 0)) (qn BK969.out) hb); replace HB := xA.mk (xE (by repeat (first | (with_reducible first | exact HB.out | apply xS | apply xO | apply xP | refine xL ?_ GE965.out | refine xL ?_ GE969.out) | exact HB.out)) hb); (try clear hb); (try clear hb2); (try clear hk); (try clear hi); (try clear ho0); obtain ⟨Ao45, co45, eo45⟩ := Kd.R_slice HO982.out; subst eo45; obtain ⟨Ao46, co46, eo46⟩ := Kd.R_slice HO986.out; subst eo46) | (go_at_call 17; (with_reducible refine (l5same.calls kj26 _ _ t979 _ _ t983 true _ ?side1 ?side2 ?side3 ?side4 A38.out).mono ?_); (case side1 => exact qm (Kd.yA HO982.out).2.2); (case side2 => exact (Kd.yA HO982.out).2.1); (case side3 => exact qm (Kd.yA HO986.out).2.2); (case side4 => exact (Kd.yA HO986.out).2.1); rintro e w' ⟨rfl, ⟨nd, rfl⟩⟩) | (go_at_call 20; (with_reducible refine (l5rows.calls kj26 _ _ t959 _ _ l0 true _ ?side1 ?side2 ?side3 ?side4 A40.out).mono ?_); (case side1 => exact qm (Kd.xG HO_3.out).2.2); (case side2 => exact (Kd.xG HO_3.out).2.1); (case side3 => repeat (first | exact (Kd.xR HR0.out (by repeat (first | (with_reducible first | exact HB.out | apply xS | apply xO | apply xP | refine xL ?_ GE965.out | refine xL ?_ GE969.out) | exact HB.out))) | (with_reducible refine Kd.C_alloc ?_ _) | (with_reducible refine Kd.C_drewN ?_ _) | (with_reducible refine Kd.C_drew ?_))); (case side4 => exact HC0.out); rintro e w' ⟨rfl, ⟨nd, rfl⟩⟩) | (go_at_call 13; (with_reducible refine (l5alive.calls kj26  t989 _ A42.out).mono ?_); rintro e w47 ⟨rfl, hb⟩; replace HO_3 := xA.mk (Kd.xZ (qh HO_3.out) hb); replace HO982 := xA.mk (Kd.R_below (qi HO982.out) hb); replace HO986 := xA.mk (Kd.R_below (qi HO986.out) hb); replace BK965 := xA.mk (xN (g := gb965) (o := .cells #[.int .i64 t962, .int .i64 t963] 37 (0, 0)) (qn BK965.out) hb); replace BK969 := xA.mk (xN (g := gb969) (o := .cells #[.int .i64 t966, .int .i64 t967] 37 (0, 0)) (qn BK969.out) hb); replace HB := xA.mk (xE (by repeat (first | (with_reducible first | exact HB.out | apply xS | apply xO | apply xP | refine xL ?_ GE965.out | refine xL ?_ GE969.out) | exact HB.out)) hb); (try clear hb); (try clear hb2); (try clear hk); (try clear hi)))
           go_ret
           exact ⟨qg, by repeat (first | (with_reducible first | exact HB.out | apply xS | apply xO | apply xP | refine xL ?_ GE965.out | refine xL ?_ GE969.out) | exact HB.out)⟩
          ·
           replace c41 := Bool.eq_false_iff.mpr c41
           subst c41
           have H1 : (some false) = some r := by rw [if_neg (show ¬ (false = true) by decide)] at H; exact H
           clear H
           have H := H1
           clear H1
           exact absurd (H.trans (congrArg some hr_.out)) (by simp)
         ·
          replace c39 := Bool.eq_false_iff.mpr c39
          subst c39
          have H1 : (some false) = some r := by rw [if_neg (show ¬ (false = true) by decide)] at H; exact H
          clear H
          have H := H1
          clear H1
          exact absurd (H.trans (congrArg some hr_.out)) (by simp)
        ·
         rw [if_neg c37] at H
         have c37b0 : (t980 == t984) = false := jg c37
         have c37b1 : (t980 != t984) = true := bne_iff_ne.mpr c37
         exact absurd (H.trans (congrArg some hr_.out)) (by simp)
 ·
  replace c3 := Bool.eq_false_iff.mpr c3
  subst c3
  have H1 : ((l5alive.f k).bind fun t958 => (some t958)) = some r := by rw [if_neg (show ¬ (false = true) by decide)] at H; exact H
  clear H
  have H := H1
  clear H1
  replace H := qw H
  obtain ⟨t958, A580, H⟩ := H
  replace H : (some t958) = some r := H
  have A58 := xA.mk A580
  clear A580
  obtain rfl := qx H
  go_enter Try.func8, Try.ntmps8
  go_wp2_with (first | ((with_reducible refine xF (f := 12) rfl ?_); refine xM (some 11) rfl rfl Try.func12 jk rfl #[.slice A0 l0.length c0] rfl qc ?_; (with_reducible refine (l5few.calls k _ _ l0 false _ ?side1 ?side2 A2.out).mono ?_); (case side1 => exact qm HR0.out); (case side2 => exact HC0.out); rintro e w' ⟨rfl, ⟨nd, rfl⟩⟩; refine ⟨_, rfl, ?_⟩) | ((with_reducible refine xF (f := 13) rfl ?_); refine xM (some 13) rfl rfl Try.func13 jk rfl #[] rfl qc ?_; (with_reducible refine (l5alive.calls k  t958 _ A58.out).mono ?_); rintro e w59 ⟨rfl, hb⟩; refine ⟨_, rfl, ?_⟩; replace HB := xA.mk (xE qa hb); (try clear hb); (try clear hb2); (try clear hk); (try clear hi)))
  go_ret
  exact ⟨qg, qa⟩
end
def line_Multiply.f (k : Nat) (l0 : List (List Int)) (l1 : List (List Int)) : Option ((List (List Int)) × Int) := (line_of.f k l0).bind fun bt987 => ((line_of.f k l1).bind fun bt991 => (if bt987.2 = true then (if bt991.2 = true then (if (l0.length : Int) = (l1.length : Int) then ((lgtimes.f k bt987.1 bt991.1).bind fun t995 => (some (t995, 0))) else (some (([] : List (List Int)), 2))) else (some (([] : List (List Int)), 2))) else (some (([] : List (List Int)), 2))))
def line_steps.f (a0 : Int) : Option (Bool) := if a0 ≥ 0 then (some (decide (a0 ≤ 1048576))) else (some false)
def line_Power.f (k : Nat) (l0 : List (List Int)) (a1 : Int) : Option ((List (List Int)) × Int) := (line_of.f k l0).bind fun bt707 => (if bt707.2 = true then ((line_steps.f a1).bind fun t711 => (if t711 = true then ((lgpower.f k bt707.1 a1).bind fun t712 => (some (t712, 0))) else (some (([] : List (List Int)), 2)))) else (some (([] : List (List Int)), 2)))
mutual
def lgon.l0 : Nat → List (List Int) → List Int → List Int → Int → Int → Option (List Int)
 | 0, _, _, _, _, _ => none
 | k + 1, x0, x1, x5, x13, x14 => if x14 < x13 then ((line_never_int.f).bind fun t758 => (lgon.l1 k x0 x1 x5 x14 t758 x13 x14 (x0.length : Int) 0)) else (some x5)
def lgon.l1 : Nat → List (List Int) → List Int → List Int → Int → Int → Int → Int → Int → Int → Option (List Int)
 | 0, _, _, _, _, _, _, _, _, _ => none
 | k + 1, x0, x1, x5, x6, x7, x13, x14, x19, x20 => if x20 < x19 then (if 0 ≤ x6 then (if x6 < (x0.length : Int) then (if 0 ≤ x20 then (if x20 < ((rd_L1 x0 x6).length : Int) then (if x20 < (x1.length : Int) then ((line_both_int.f (rd (rd_L1 x0 x6) x20) (rd x1 x20)).bind fun t762 => (lgon.l1 k x0 x1 x5 x6 (mx x7 t762) x13 x14 x19 (wrap64 (x20 + 1)))) else (none)) else (none)) else (none)) else (none)) else (none)) else (if 0 ≤ x6 then (if x6 < (x5.length : Int) then (lgon.l0 k x0 x1 (x5.set (x6 : Int).toNat x7) x13 (wrap64 (x14 + 1))) else (none)) else (none))
end
def lgon.f (k : Nat) (l0 : List (List Int)) (l1 : List Int) : Option (List Int) := if 0 ≤ (l0.length : Int) then (if ((l0.length : Int) : Int).toNat ≤ 35184372088832 then (lgon.l0 k l0 l1 (List.replicate ((l0.length : Int) : Int).toNat 0) (l0.length : Int) 0) else (none)) else (none)
def line_Run_1.f (a0 : Int) : Option (Bool) := if a0 = (-1152921504606846976) then (some false) else (if a0 < (-1125899906842624) then (some true) else (some (decide (a0 > 562949953421312))))
def sifRun_1.l0 : Nat → List Int → Int → Int → Option (Int)
 | 0, _, _, _ => none
 | k + 1, x0, x7, x8 => if x8 < x7 then (if 0 ≤ x8 then (if x8 < (x0.length : Int) then ((line_Run_1.f (rd x0 x8)).bind fun t765 => (if t765 = true then (some x8) else (sifRun_1.l0 k x0 x7 (wrap64 (x8 + 1))))) else (none)) else (none)) else (some (-1))
def sifRun_1.f (k : Nat) (l0 : List Int) (a1 : Int) : Option (Int) := sifRun_1.l0 k l0 (l0.length : Int) 0
def scfRun_1.f (k : Nat) (l0 : List Int) (a1 : Int) : Option (Bool) := (sifRun_1.f k l0 a1).bind fun t766 => (some (decide (t766 ≥ 0)))
def line_Run_2.f (a0 : Int) : Option (Bool) := if a0 = (-1152921504606846976) then (some false) else (if a0 < (-1125899906842624) then (some true) else (some (decide (a0 > 1125899906842624))))
def sifRun_2.l0 : Nat → List Int → Int → Int → Option (Int)
 | 0, _, _, _ => none
 | k + 1, x0, x7, x8 => if x8 < x7 then (if 0 ≤ x8 then (if x8 < (x0.length : Int) then ((line_Run_2.f (rd x0 x8)).bind fun t768 => (if t768 = true then (some x8) else (sifRun_2.l0 k x0 x7 (wrap64 (x8 + 1))))) else (none)) else (none)) else (some (-1))
def sifRun_2.f (k : Nat) (l0 : List Int) (a1 : Int) : Option (Int) := sifRun_2.l0 k l0 (l0.length : Int) 0
def scfRun_2.f (k : Nat) (l0 : List Int) (a1 : Int) : Option (Bool) := (sifRun_2.f k l0 a1).bind fun t769 => (some (decide (t769 ≥ 0)))
def line_Run.j0 : Nat → List Int → Int → List (List Int) → Bool → Option (List Int × Int)
 | 0, _, _, _, _ => none
 | k + 1, x1, x2, x8, x33 => if x33 = true then (some (([] : List Int), 2)) else ((lgpower.f k x8 x2).bind fun t776 => ((lgon.f k t776 x1).bind fun t779 => ((scfRun_2.f k t779 0).bind fun t782 => (if t782 = true then (some (([] : List Int), 4)) else (some (t779, 0))))))
def line_Run.f (k : Nat) (l0 : List (List Int)) (l1 : List Int) (a2 : Int) : Option (List Int × Int) := (line_of.f k l0).bind fun bt770 => (if bt770.2 = true then ((line_steps.f a2).bind fun t774 => (if t774 = true then (if (l1.length : Int) = (l0.length : Int) then ((scfRun_1.f k l1 0).bind fun t775 => (line_Run.j0 k l1 a2 bt770.1 t775)) else (line_Run.j0 k l1 a2 bt770.1 true)) else (line_Run.j0 k l1 a2 bt770.1 true))) else (line_Run.j0 k l1 a2 bt770.1 true))
mutual
def l5within.l0 : Nat → List (List Int) → Int → Option (Bool)
 | 0, _, _ => none
 | k + 1, x0, x3 => if x3 < (x0.length : Int) then (l5within.l1 k x0 x3 0) else (some true)
def l5within.l1 : Nat → List (List Int) → Int → Int → Option (Bool)
 | 0, _, _, _ => none
 | k + 1, x0, x3, x4 => if 0 ≤ x3 then (if x3 < (x0.length : Int) then (if x4 < ((rd_L1 x0 x3).length : Int) then (if 0 ≤ x4 then (if (rd (rd_L1 x0 x3) x4) = (-1152921504606846976) then (l5within.l1 k x0 x3 (wrap64 (x4 + 1))) else (if (rd (rd_L1 x0 x3) x4) < (-1000) then (some false) else (if (rd (rd_L1 x0 x3) x4) > 1000 then (some false) else (l5within.l1 k x0 x3 (wrap64 (x4 + 1)))))) else (none)) else (l5within.l0 k x0 (wrap64 (x3 + 1)))) else (none)) else (none)
end
def l5within.f (k : Nat) (l0 : List (List Int)) : Option (Bool) := l5within.l0 k l0 0
def l5square.l0 : Nat → List (List Int) → Int → Int → Option (Bool)
 | 0, _, _, _ => none
 | k + 1, x0, x1, x5 => if x5 < (x0.length : Int) then (if 0 ≤ x5 then (if ((rd_L1 x0 x5).length : Int) = x1 then (l5square.l0 k x0 x1 (wrap64 (x5 + 1))) else (some false)) else (none)) else (some ((x0.length : Int) == x1))
def l5square.f (k : Nat) (l0 : List (List Int)) (a1 : Int) : Option (Bool) := l5square.l0 k l0 a1 0
def l5plus.f (a0 : Int) (a1 : Int) : Option (Int) := if a0 = (-1152921504606846976) then (some (-1152921504606846976)) else (if a1 = (-1152921504606846976) then (some (-1152921504606846976)) else (some (wrap64 (a0 + a1))))
end Go.Proofs.Ythjmfbmffchicaa.V
