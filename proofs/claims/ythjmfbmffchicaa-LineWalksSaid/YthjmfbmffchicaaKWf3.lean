/- Walks of functions that the law LineWalks reaches: each theorem '.calls' says that the call comes to what its printed plain function says, under the conditions that stand in it. -/
import Derived.Test.YthjmfbmffchicaaKWHub
import Derived.Test.YthjmfbmffchicaaKWf0
import Derived.Test.YthjmfbmffchicaaKWf1
namespace Go.Proofs.Ythjmfbmffchicaa.V
open Go.RowKit Go.Proofs.YthjmfbmffchicaaW.PrintWords Go.Proofs.YthjmfbmffchicaaW.PrintLast Go.Proofs.YthjmfbmffchicaaW.PrintMore
attribute [local go_sem] max2_int min2_int max_two min_two max_three min_three max_four min_four
set_option linter.unusedVariables false
set_option linter.unusedSimpArgs false
def line_Star.f (k : Nat) (l0 : List (List Int)) : Option ((List (List Int)) × Int) := (line_of.f k l0).bind fun bt649 => (if bt649.2 = true then ((lgpace.f k bt649.1).bind fun bt653 => (if bt653.2.2 = true then (if bt653.1 > 0 then (some (([] : List (List Int)), 11)) else ((lgclosed.f k bt649.1).bind fun t657 => (some (t657, 0)))) else ((lgclosed.f k bt649.1).bind fun t660 => (some (t660, 0))))) else (some (([] : List (List Int)), 2)))
set_option maxHeartbeats 8000000 in
set_option maxRecDepth 100000 in
theorem line_Star.calls (k : Nat) (A0 : Option Addr) (c0 : Nat) (l0 : List (List Int)) (r1 : List (List Int)) (r2 : Int) (w : World) (hr0 : Kd.C (Kd.slice 3 (Kd.int .i64)) w A0 l0.length l0) (hc0 : l0.length ≤ c0) (h : line_Star.f k l0 = some (r1, r2)) :
  Calls Try.prog 21 #[.slice A0 l0.length c0] w fun e w' => ∃ v0_ : Value, e = .returned (.tuple #[v0_, .int .i64 r2]) ∧ Kd.S (Kd.slice 3 (Kd.int .i64)) 26 w' w.heap.size (fun _ => True) v0_ r1 ∧ Below w.heap.size w w' := by
 have hu37 := Try.underlying37
 have HR0 := xA.mk hr0
 have HC0 := xA.mk hc0
 clear hr0 hc0
 have HB := xA.mk (Below.refl w.heap.size w)
 have H : ((line_of.f k l0).bind fun bt649 => (if bt649.2 = true then ((lgpace.f k bt649.1).bind fun bt653 => (if bt653.2.2 = true then (if bt653.1 > 0 then (some (([] : List (List Int)), 11)) else ((lgclosed.f k bt649.1).bind fun t657 => (some (t657, 0)))) else ((lgclosed.f k bt649.1).bind fun t660 => (some (t660, 0))))) else (some (([] : List (List Int)), 2)))) = some (r1, r2) := h
 clear h
 replace H := qq H
 obtain ⟨⟨t649, t652⟩, A20, H⟩ := H
 replace H : (if t652 = true then ((lgpace.f k t649).bind fun bt653 => (if bt653.2.2 = true then (if bt653.1 > 0 then (some (([] : List (List Int)), 11)) else ((lgclosed.f k t649).bind fun t657 => (some (t657, 0)))) else ((lgclosed.f k t649).bind fun t660 => (some (t660, 0))))) else (some (([] : List (List Int)), 2))) = some (r1, r2) := H
 have A2 := xA.mk A20
 clear A20
 by_cases c3 : t652 = true
 rotate_left
 ·
  replace c3 := Bool.eq_false_iff.mpr c3
  subst c3
  have H1 : (some (([] : List (List Int)), 2)) = some (r1, r2) := by rw [if_neg (show ¬ (false = true) by decide)] at H; exact H
  clear H
  have H := H1
  clear H1
  simp only [Option.some.injEq, Prod.mk.injEq] at H
  obtain ⟨rfl, rfl⟩ := H
  go_enter Try.func21, Try.ntmps21
  go_wp2_with (first | ((with_reducible refine xG (f := 64) rfl ?_); refine xP (some 10) rfl rfl Try.func64 (by kernel_rfl) rfl #[.slice A0 l0.length c0] rfl qd ?_; (with_reducible refine (line_of.calls k (fun k_ => k_ < w.heap.size) _ _ l0 t649 false _ ?side1 A2.out).mono ?_); (case side1 => exact Kd.V_mk HC0.out (Kd.F_below (Kd.C_F (Kd.heap_slice 3 (Kd.heap_int .i64)) HR0.out) (HB.out))); rintro e w26 ⟨v650, rfl, ho0, hb⟩; refine ⟨_, rfl, ?_⟩; have HO651 := xA.mk (Kd.V_lower (Kd.xY (ok' := fun k_ => True) ho0 (fun k_ hk_ => trivial)) (xB (HB.out))); replace HB := xA.mk (xE (HB.out) hb)))
  go_ret2
  exact ⟨_, rfl, by first | exact Kd.S_nil _ _ _ _ _ | exact Kd.N_nil _ _ _ _ _ | exact Kd.V_nil _ _ _ _ _ | exact Kd.Q_nil _ _ _ _ _ | exact Kd.R_nil _ _ _ _ _, HB.out⟩
 subst c3
 have H1 : ((lgpace.f k t649).bind fun bt653 => (if bt653.2.2 = true then (if bt653.1 > 0 then (some (([] : List (List Int)), 11)) else ((lgclosed.f k t649).bind fun t657 => (some (t657, 0)))) else ((lgclosed.f k t649).bind fun t660 => (some (t660, 0))))) = some (r1, r2) := by rw [if_pos rfl] at H; exact H
 clear H
 have H := H1
 clear H1
 replace H := qq H
 obtain ⟨⟨t653, t654, t655⟩, A40, H⟩ := H
 replace H : (if t655 = true then (if t653 > 0 then (some (([] : List (List Int)), 11)) else ((lgclosed.f k t649).bind fun t657 => (some (t657, 0)))) else ((lgclosed.f k t649).bind fun t660 => (some (t660, 0)))) = some (r1, r2) := H
 have A4 := xA.mk A40
 clear A40
 by_cases c5 : t655 = true
 rotate_left
 ·
  replace c5 := Bool.eq_false_iff.mpr c5
  subst c5
  have H1 : ((lgclosed.f k t649).bind fun t660 => (some (t660, 0))) = some (r1, r2) := by rw [if_neg (show ¬ (false = true) by decide)] at H; exact H
  clear H
  have H := H1
  clear H1
  replace H := qq H
  obtain ⟨t660, A190, H⟩ := H
  replace H : (some (t660, 0)) = some (r1, r2) := H
  have A19 := xA.mk A190
  clear A190
  simp only [Option.some.injEq, Prod.mk.injEq] at H
  obtain ⟨rfl, rfl⟩ := H
  go_enter Try.func21, Try.ntmps21
  go_wp2_with (first | ((with_reducible refine xG (f := 64) rfl ?_); refine xP (some 10) rfl rfl Try.func64 (by kernel_rfl) rfl #[.slice A0 l0.length c0] rfl qc ?_; (with_reducible refine (line_of.calls k (fun k_ => k_ < w.heap.size) _ _ l0 t649 true _ ?side1 A2.out).mono ?_); (case side1 => exact Kd.V_mk HC0.out (Kd.F_below (Kd.C_F (Kd.heap_slice 3 (Kd.heap_int .i64)) HR0.out) qa)); rintro e w20 ⟨v650, rfl, ho0, hb⟩; refine ⟨_, rfl, ?_⟩; have HO651 := xA.mk (Kd.V_lower (Kd.xY (ok' := fun k_ => True) ho0 (fun k_ hk_ => trivial)) (xB qa)); replace HB := xA.mk (xE qa hb); (try clear hb); (try clear hb2); (try clear hk); (try clear hi); (try clear ho0); obtain ⟨Ao21, co21, eo21⟩ := Kd.V_slice HO651.out; subst eo21) | ((with_reducible refine xG (f := 65) rfl ?_); refine xP (some 17) rfl rfl Try.func65 (by kernel_rfl) rfl #[.slice Ao21 t649.length co21] rfl qc ?_; (with_reducible refine (lgpace.calls k _ _ t649 t653 t654 false _ ?side1 ?side2 A4.out).mono ?_); (case side1 => exact qm (Kd.xS HO651.out).2.2); (case side2 => exact (Kd.xS HO651.out).2.1); rintro e w22 ⟨rfl, hb⟩; refine ⟨_, rfl, ?_⟩; replace HO651 := xA.mk (Kd.V_below (qj HO651.out) hb); replace HB := xA.mk (xE qa hb); (try clear hb); (try clear hb2); (try clear hk); (try clear hi)) | ((with_reducible refine xX (N := 6) rfl ?_); refine yC ?hg (N := 6) ?hd (cs := #[.int .i64 0, .int .i64 0]) (t := 37) ?hr ?_; (case hd => rfl); (case hg => rfl); (case hr => first | (go_simp; done) | (go_simp; rfl)); intro gb656 hg w23 hbox hb; have n0_ := xA.mk (Kd.V_below (Kd.V_elderB (qj HO651.out) gb656 (Nat.le_of_eq hg.symm)) hb); have n1_ := xA.mk (xE qa hb); have n2_ := xA.mk (hbox); have n3_ := xA.mk ((by rw [hg]; exact (xB qa) : w.heap.size ≤ gb656)); have n4_ := xA.mk ((by rw [hg]; exact (xB qa) : w.heap.size ≤ gb656)); clear HO651; clear HB; have HO651 := n0_; have HB := n1_; have BK656 := n2_; have GW656 := n3_; have GE656 := n4_; clear n0_ n1_ n2_ n3_ n4_; clear hb hbox hg; have hcz24_0 : w23.cell? ⟨gb656, 0, none⟩ = some (.int .i64 0) := (xF BK656.out 0).trans rfl; have hcz24_1 : w23.cell? ⟨gb656, 1, none⟩ = some (.int .i64 0) := (xF BK656.out 1).trans rfl; have hfz24_0 := xC BK656.out 0; have hfz24_1 := xC BK656.out 1) | ((with_reducible refine xG (f := 66) rfl ?_); refine xP (some 27) rfl rfl Try.func66 (by kernel_rfl) rfl #[.slice Ao21 t649.length co21] rfl qc ?_; (with_reducible refine (lgclosed.calls k _ _ t649 t660 _ ?side1 ?side2 A19.out).mono ?_); (case side1 => refine (Kd.xS (e := 26) (base := w.heap.size) (ok := fun k_ => (True ∧ k_ ≠ gb656)) (n := t649.length) (c := co21) ?_).2.2; exact (by (with_reducible repeat (first | apply Kd.V_alloc | apply Kd.V_drewN | apply Kd.V_drew)); exact (Kd.xY (Kd.V_far (p := ⟨gb656, 1, none⟩) (Kd.V_far (p := ⟨gb656, 0, none⟩) (Kd.xY HO651.out (fun k_ hk => (⟨hk, hk.2⟩ : _ ∧ k_ ≠ gb656))) (fun _ hk => hk.2) (.int .i64 t653)) (fun _ hk => hk.2) (.int .i64 t654)) (fun _ h_ => h_.1)))); (case side2 => exact (Kd.xS HO651.out).2.1); rintro e w25 ⟨v661, rfl, ho0, hb⟩; refine ⟨_, rfl, ?_⟩; have n0_ := xA.mk (Kd.V_elder' (by (with_reducible repeat (first | apply Kd.V_alloc | apply Kd.V_drewN | apply Kd.V_drew)); exact (Kd.xY (Kd.V_far (p := ⟨gb656, 1, none⟩) (Kd.V_far (p := ⟨gb656, 0, none⟩) (Kd.xY HO651.out (fun k_ hk => (⟨hk, hk.2⟩ : _ ∧ k_ ≠ gb656))) (fun _ hk => hk.2) (.int .i64 t653)) (fun _ hk => hk.2) (.int .i64 t654)) (fun _ h_ => h_.1))) (Kd.S_base ho0) hb); have n1_ := xA.mk (Kd.xZ ho0 (xB (by repeat (first | (with_reducible first | exact HB.out | apply xL | apply xD | apply xH | refine xM ?_ GE656.out) | exact HB.out)))); have n2_ := xA.mk (xT (g := gb656) (o := .cells #[.int .i64 t653, .int .i64 t654] 37 (0, 0)) (by (with_reducible repeat (first | refine xJ ?_ _ | refine xK ?_ | refine xI ?_ _)); refine xV (cs := #[.int .i64 t653, .int .i64 0]) ?_ 1 _ rfl; (with_reducible repeat (first | refine xJ ?_ _ | refine xK ?_ | refine xI ?_ _)); refine xV (cs := #[.int .i64 0, .int .i64 0]) ?_ 0 _ rfl; (with_reducible repeat (first | refine xJ ?_ _ | refine xK ?_ | refine xI ?_ _)); exact BK656.out) hb); have n3_ := xA.mk (xE (by repeat (first | (with_reducible first | exact HB.out | apply xL | apply xD | apply xH | refine xM ?_ GE656.out) | exact HB.out)) hb); clear HO651; clear BK656; clear HB; have HO651 := n0_; have HO662 := n1_; have BK656 := n2_; have HB := n3_; clear n0_ n1_ n2_ n3_; (try clear hb); (try clear hb2); (try clear hk); (try clear hi); (try clear ho0)))
  go_ret2
  exact ⟨_, qg, qh HO662.out, by repeat (first | (with_reducible first | exact HB.out | apply xL | apply xD | apply xH | refine xM ?_ GE656.out) | exact HB.out)⟩
 subst c5
 have H1 : (if t653 > 0 then (some (([] : List (List Int)), 11)) else ((lgclosed.f k t649).bind fun t657 => (some (t657, 0)))) = some (r1, r2) := by rw [if_pos rfl] at H; exact H
 clear H
 have H := H1
 clear H1
 by_cases c6 : t653 > 0
 ·
  rw [if_pos c6] at H
  have c6b0 : decide (0 < t653) = true := qo c6
  clear c6
  simp only [Option.some.injEq, Prod.mk.injEq] at H
  obtain ⟨rfl, rfl⟩ := H
  go_enter Try.func21, Try.ntmps21
  go_wp2_with (first | ((with_reducible refine xG (f := 64) rfl ?_); refine xP (some 10) rfl rfl Try.func64 (by kernel_rfl) rfl #[.slice A0 l0.length c0] rfl qc ?_; (with_reducible refine (line_of.calls k (fun k_ => k_ < w.heap.size) _ _ l0 t649 true _ ?side1 A2.out).mono ?_); (case side1 => exact Kd.V_mk HC0.out (Kd.F_below (Kd.C_F (Kd.heap_slice 3 (Kd.heap_int .i64)) HR0.out) qa)); rintro e w7 ⟨v650, rfl, ho0, hb⟩; refine ⟨_, rfl, ?_⟩; have HO651 := xA.mk (Kd.V_lower (Kd.xY (ok' := fun k_ => True) ho0 (fun k_ hk_ => trivial)) (xB qa)); replace HB := xA.mk (xE qa hb); (try clear hb); (try clear hb2); (try clear hk); (try clear hi); (try clear ho0); obtain ⟨Ao8, co8, eo8⟩ := Kd.V_slice HO651.out; subst eo8) | ((with_reducible refine xG (f := 65) rfl ?_); refine xP (some 17) rfl rfl Try.func65 (by kernel_rfl) rfl #[.slice Ao8 t649.length co8] rfl qc ?_; (with_reducible refine (lgpace.calls k _ _ t649 t653 t654 true _ ?side1 ?side2 A4.out).mono ?_); (case side1 => exact qm (Kd.xS HO651.out).2.2); (case side2 => exact (Kd.xS HO651.out).2.1); rintro e w9 ⟨rfl, hb⟩; refine ⟨_, rfl, ?_⟩; replace HO651 := xA.mk (Kd.V_below (qj HO651.out) hb); replace HB := xA.mk (xE qa hb); (try clear hb); (try clear hb2); (try clear hk); (try clear hi)) | ((with_reducible refine xX (N := 6) rfl ?_); refine yC ?hg (N := 6) ?hd (cs := #[.int .i64 0, .int .i64 0]) (t := 37) ?hr ?_; (case hd => rfl); (case hg => rfl); (case hr => first | (go_simp; done) | (go_simp; rfl)); intro gb656 hg w10 hbox hb; have n0_ := xA.mk (Kd.V_below (Kd.V_elderB (qj HO651.out) gb656 (Nat.le_of_eq hg.symm)) hb); have n1_ := xA.mk (xE qa hb); have n2_ := xA.mk (hbox); have n3_ := xA.mk ((by rw [hg]; exact (xB qa) : w.heap.size ≤ gb656)); have n4_ := xA.mk ((by rw [hg]; exact (xB qa) : w.heap.size ≤ gb656)); clear HO651; clear HB; have HO651 := n0_; have HB := n1_; have BK656 := n2_; have GW656 := n3_; have GE656 := n4_; clear n0_ n1_ n2_ n3_ n4_; clear hb hbox hg; have hcz11_0 : w10.cell? ⟨gb656, 0, none⟩ = some (.int .i64 0) := (xF BK656.out 0).trans rfl; have hcz11_1 : w10.cell? ⟨gb656, 1, none⟩ = some (.int .i64 0) := (xF BK656.out 1).trans rfl; have hfz11_0 := xC BK656.out 0; have hfz11_1 := xC BK656.out 1))
  go_ret2
  exact ⟨_, qg, by first | exact Kd.S_nil _ _ _ _ _ | exact Kd.N_nil _ _ _ _ _ | exact Kd.V_nil _ _ _ _ _ | exact Kd.Q_nil _ _ _ _ _ | exact Kd.R_nil _ _ _ _ _, by repeat (first | (with_reducible first | exact HB.out | apply xL | apply xD | apply xH | refine xM ?_ GE656.out) | exact HB.out)⟩
 rw [if_neg c6] at H
 have c6b0 : decide (0 < t653) = false := qp c6
 clear c6
 replace H := qq H
 obtain ⟨t657, A120, H⟩ := H
 replace H : (some (t657, 0)) = some (r1, r2) := H
 have A12 := xA.mk A120
 clear A120
 simp only [Option.some.injEq, Prod.mk.injEq] at H
 obtain ⟨rfl, rfl⟩ := H
 go_enter Try.func21, Try.ntmps21
 go_wp2_with (first | ((with_reducible refine xG (f := 64) rfl ?_); refine xP (some 10) rfl rfl Try.func64 (by kernel_rfl) rfl #[.slice A0 l0.length c0] rfl qc ?_; (with_reducible refine (line_of.calls k (fun k_ => k_ < w.heap.size) _ _ l0 t649 true _ ?side1 A2.out).mono ?_); (case side1 => exact Kd.V_mk HC0.out (Kd.F_below (Kd.C_F (Kd.heap_slice 3 (Kd.heap_int .i64)) HR0.out) qa)); rintro e w13 ⟨v650, rfl, ho0, hb⟩; refine ⟨_, rfl, ?_⟩; have HO651 := xA.mk (Kd.V_lower (Kd.xY (ok' := fun k_ => True) ho0 (fun k_ hk_ => trivial)) (xB qa)); replace HB := xA.mk (xE qa hb); (try clear hb); (try clear hb2); (try clear hk); (try clear hi); (try clear ho0); obtain ⟨Ao14, co14, eo14⟩ := Kd.V_slice HO651.out; subst eo14) | ((with_reducible refine xG (f := 65) rfl ?_); refine xP (some 17) rfl rfl Try.func65 (by kernel_rfl) rfl #[.slice Ao14 t649.length co14] rfl qc ?_; (with_reducible refine (lgpace.calls k _ _ t649 t653 t654 true _ ?side1 ?side2 A4.out).mono ?_); (case side1 => exact qm (Kd.xS HO651.out).2.2); (case side2 => exact (Kd.xS HO651.out).2.1); rintro e w15 ⟨rfl, hb⟩; refine ⟨_, rfl, ?_⟩; replace HO651 := xA.mk (Kd.V_below (qj HO651.out) hb); replace HB := xA.mk (xE qa hb); (try clear hb); (try clear hb2); (try clear hk); (try clear hi)) | ((with_reducible refine xX (N := 6) rfl ?_); refine yC ?hg (N := 6) ?hd (cs := #[.int .i64 0, .int .i64 0]) (t := 37) ?hr ?_; (case hd => rfl); (case hg => rfl); (case hr => first | (go_simp; done) | (go_simp; rfl)); intro gb656 hg w16 hbox hb; have n0_ := xA.mk (Kd.V_below (Kd.V_elderB (qj HO651.out) gb656 (Nat.le_of_eq hg.symm)) hb); have n1_ := xA.mk (xE qa hb); have n2_ := xA.mk (hbox); have n3_ := xA.mk ((by rw [hg]; exact (xB qa) : w.heap.size ≤ gb656)); have n4_ := xA.mk ((by rw [hg]; exact (xB qa) : w.heap.size ≤ gb656)); clear HO651; clear HB; have HO651 := n0_; have HB := n1_; have BK656 := n2_; have GW656 := n3_; have GE656 := n4_; clear n0_ n1_ n2_ n3_ n4_; clear hb hbox hg; have hcz17_0 : w16.cell? ⟨gb656, 0, none⟩ = some (.int .i64 0) := (xF BK656.out 0).trans rfl; have hcz17_1 : w16.cell? ⟨gb656, 1, none⟩ = some (.int .i64 0) := (xF BK656.out 1).trans rfl; have hfz17_0 := xC BK656.out 0; have hfz17_1 := xC BK656.out 1) | ((with_reducible refine xG (f := 66) rfl ?_); refine xP (some 27) rfl rfl Try.func66 (by kernel_rfl) rfl #[.slice Ao14 t649.length co14] rfl qc ?_; (with_reducible refine (lgclosed.calls k _ _ t649 t657 _ ?side1 ?side2 A12.out).mono ?_); (case side1 => refine (Kd.xS (e := 26) (base := w.heap.size) (ok := fun k_ => (True ∧ k_ ≠ gb656)) (n := t649.length) (c := co14) ?_).2.2; exact (by (with_reducible repeat (first | apply Kd.V_alloc | apply Kd.V_drewN | apply Kd.V_drew)); exact (Kd.xY (Kd.V_far (p := ⟨gb656, 1, none⟩) (Kd.V_far (p := ⟨gb656, 0, none⟩) (Kd.xY HO651.out (fun k_ hk => (⟨hk, hk.2⟩ : _ ∧ k_ ≠ gb656))) (fun _ hk => hk.2) (.int .i64 t653)) (fun _ hk => hk.2) (.int .i64 t654)) (fun _ h_ => h_.1)))); (case side2 => exact (Kd.xS HO651.out).2.1); rintro e w18 ⟨v658, rfl, ho0, hb⟩; refine ⟨_, rfl, ?_⟩; have n0_ := xA.mk (Kd.V_elder' (by (with_reducible repeat (first | apply Kd.V_alloc | apply Kd.V_drewN | apply Kd.V_drew)); exact (Kd.xY (Kd.V_far (p := ⟨gb656, 1, none⟩) (Kd.V_far (p := ⟨gb656, 0, none⟩) (Kd.xY HO651.out (fun k_ hk => (⟨hk, hk.2⟩ : _ ∧ k_ ≠ gb656))) (fun _ hk => hk.2) (.int .i64 t653)) (fun _ hk => hk.2) (.int .i64 t654)) (fun _ h_ => h_.1))) (Kd.S_base ho0) hb); have n1_ := xA.mk (Kd.xZ ho0 (xB (by repeat (first | (with_reducible first | exact HB.out | apply xL | apply xD | apply xH | refine xM ?_ GE656.out) | exact HB.out)))); have n2_ := xA.mk (xT (g := gb656) (o := .cells #[.int .i64 t653, .int .i64 t654] 37 (0, 0)) (by (with_reducible repeat (first | refine xJ ?_ _ | refine xK ?_ | refine xI ?_ _)); refine xV (cs := #[.int .i64 t653, .int .i64 0]) ?_ 1 _ rfl; (with_reducible repeat (first | refine xJ ?_ _ | refine xK ?_ | refine xI ?_ _)); refine xV (cs := #[.int .i64 0, .int .i64 0]) ?_ 0 _ rfl; (with_reducible repeat (first | refine xJ ?_ _ | refine xK ?_ | refine xI ?_ _)); exact BK656.out) hb); have n3_ := xA.mk (xE (by repeat (first | (with_reducible first | exact HB.out | apply xL | apply xD | apply xH | refine xM ?_ GE656.out) | exact HB.out)) hb); clear HO651; clear BK656; clear HB; have HO651 := n0_; have HO659 := n1_; have BK656 := n2_; have HB := n3_; clear n0_ n1_ n2_ n3_; (try clear hb); (try clear hb2); (try clear hk); (try clear hi); (try clear ho0)))
 go_ret2
 exact ⟨_, qg, qh HO659.out, by repeat (first | (with_reducible first | exact HB.out | apply xL | apply xD | apply xH | refine xM ?_ GE656.out) | exact HB.out)⟩
def line_Connected.f (k : Nat) (l0 : List (List Int)) : Option (Bool × Int) := (line_of.f k l0).bind fun bt702 => (if bt702.2 = true then ((lgconnected.f k bt702.1).bind fun t706 => (some (t706, 0))) else (some (false, 2)))
set_option maxHeartbeats 8000000 in
set_option maxRecDepth 100000 in
theorem line_Connected.calls (k : Nat) (A0 : Option Addr) (c0 : Nat) (l0 : List (List Int)) (r1 : Bool) (r2 : Int) (w : World) (hr0 : Kd.C (Kd.slice 3 (Kd.int .i64)) w A0 l0.length l0) (hc0 : l0.length ≤ c0) (h : line_Connected.f k l0 = some (r1, r2)) :
  Calls Try.prog 25 #[.slice A0 l0.length c0] w fun e w' => e = .returned (.tuple #[.bool r1, .int .i64 r2]) ∧ Below w.heap.size w w' := by
 have HR0 := xA.mk hr0
 have HC0 := xA.mk hc0
 clear hr0 hc0
 have HB := xA.mk (Below.refl w.heap.size w)
 have H : ((line_of.f k l0).bind fun bt702 => (if bt702.2 = true then ((lgconnected.f k bt702.1).bind fun t706 => (some (t706, 0))) else (some (false, 2)))) = some (r1, r2) := h
 clear h
 replace H := qq H
 obtain ⟨⟨t702, t705⟩, A20, H⟩ := H
 replace H : (if t705 = true then ((lgconnected.f k t702).bind fun t706 => (some (t706, 0))) else (some (false, 2))) = some (r1, r2) := H
 have A2 := xA.mk A20
 clear A20
 by_cases c3 : t705 = true
 rotate_left
 ·
  replace c3 := Bool.eq_false_iff.mpr c3
  subst c3
  have H1 : (some (false, 2)) = some (r1, r2) := by rw [if_neg (show ¬ (false = true) by decide)] at H; exact H
  clear H
  have H := H1
  clear H1
  simp only [Option.some.injEq, Prod.mk.injEq] at H
  obtain ⟨rfl, rfl⟩ := H
  go_enter Try.func25, Try.ntmps25
  go_wp2_with (first | ((with_reducible refine xG (f := 64) rfl ?_); refine xP (some 8) rfl rfl Try.func64 (by kernel_rfl) rfl #[.slice A0 l0.length c0] rfl qc ?_; (with_reducible refine (line_of.calls k (fun k_ => k_ < w.heap.size) _ _ l0 t702 false _ ?side1 A2.out).mono ?_); (case side1 => exact Kd.V_mk HC0.out (Kd.F_below (Kd.C_F (Kd.heap_slice 3 (Kd.heap_int .i64)) HR0.out) qa)); rintro e w8 ⟨v703, rfl, ho0, hb⟩; refine ⟨_, rfl, ?_⟩; have HO704 := xA.mk (Kd.V_lower (Kd.xY (ok' := fun k_ => True) ho0 (fun k_ hk_ => trivial)) (xB qa)); replace HB := xA.mk (xE qa hb); (try clear hb); (try clear hb2); (try clear hk); (try clear hi); (try clear ho0)))
  go_ret2
  exact ⟨qg, qa⟩
 subst c3
 have H1 : ((lgconnected.f k t702).bind fun t706 => (some (t706, 0))) = some (r1, r2) := by rw [if_pos rfl] at H; exact H
 clear H
 have H := H1
 clear H1
 replace H := qq H
 obtain ⟨t706, A40, H⟩ := H
 replace H : (some (t706, 0)) = some (r1, r2) := H
 have A4 := xA.mk A40
 clear A40
 simp only [Option.some.injEq, Prod.mk.injEq] at H
 obtain ⟨rfl, rfl⟩ := H
 go_enter Try.func25, Try.ntmps25
 go_wp2_with (first | ((with_reducible refine xG (f := 64) rfl ?_); refine xP (some 8) rfl rfl Try.func64 (by kernel_rfl) rfl #[.slice A0 l0.length c0] rfl qc ?_; (with_reducible refine (line_of.calls k (fun k_ => k_ < w.heap.size) _ _ l0 t702 true _ ?side1 A2.out).mono ?_); (case side1 => exact Kd.V_mk HC0.out (Kd.F_below (Kd.C_F (Kd.heap_slice 3 (Kd.heap_int .i64)) HR0.out) qa)); rintro e w5 ⟨v703, rfl, ho0, hb⟩; refine ⟨_, rfl, ?_⟩; have HO704 := xA.mk (Kd.V_lower (Kd.xY (ok' := fun k_ => True) ho0 (fun k_ hk_ => trivial)) (xB qa)); replace HB := xA.mk (xE qa hb); (try clear hb); (try clear hb2); (try clear hk); (try clear hi); (try clear ho0); obtain ⟨Ao6, co6, eo6⟩ := Kd.V_slice HO704.out; subst eo6) | ((with_reducible refine xG (f := 46) rfl ?_); refine xP (some 14) rfl rfl Try.func46 (by kernel_rfl) rfl #[.slice Ao6 t702.length co6] rfl qc ?_; (with_reducible refine (lgconnected.calls k _ _ t702 t706 _ ?side1 ?side2 A4.out).mono ?_); (case side1 => exact qm (Kd.xS HO704.out).2.2); (case side2 => exact (Kd.xS HO704.out).2.1); rintro e w7 ⟨rfl, hb⟩; refine ⟨_, rfl, ?_⟩; replace HO704 := xA.mk (Kd.V_below (qj HO704.out) hb); replace HB := xA.mk (xE qa hb); (try clear hb); (try clear hb2); (try clear hk); (try clear hi)))
 go_ret2
 exact ⟨qg, qa⟩
mutual
def lgon.l0 : Nat → List (List Int) → List Int → List Int → Int → Int → Option (List Int)
 | 0, _, _, _, _, _ => none
 | k + 1, x0, x1, x5, x13, x14 => if x14 < x13 then ((line_never_int.f).bind fun t758 => (lgon.l1 k x0 x1 x5 x14 t758 x13 x14 (x0.length : Int) 0)) else (some x5)
def lgon.l1 : Nat → List (List Int) → List Int → List Int → Int → Int → Int → Int → Int → Int → Option (List Int)
 | 0, _, _, _, _, _, _, _, _, _ => none
 | k + 1, x0, x1, x5, x6, x7, x13, x14, x19, x20 => if x20 < x19 then (if 0 ≤ x6 then (if x6 < (x0.length : Int) then (if 0 ≤ x20 then (if x20 < ((rd_L1 x0 x6).length : Int) then (if x20 < (x1.length : Int) then ((line_both_int.f (rd (rd_L1 x0 x6) x20) (rd x1 x20)).bind fun t762 => (lgon.l1 k x0 x1 x5 x6 (mx x7 t762) x13 x14 x19 (wrap64 (x20 + 1)))) else (none)) else (none)) else (none)) else (none)) else (none)) else (if 0 ≤ x6 then (if x6 < (x5.length : Int) then (lgon.l0 k x0 x1 (x5.set (x6 : Int).toNat x7) x13 (wrap64 (x14 + 1))) else (none)) else (none))
end
def lgon.f (k : Nat) (l0 : List (List Int)) (l1 : List Int) : Option (List Int) := if 0 ≤ (l0.length : Int) then (if ((l0.length : Int) : Int).toNat ≤ 35184372088832 then (lgon.l0 k l0 l1 (List.replicate ((l0.length : Int) : Int).toNat 0) (l0.length : Int) 0) else (none)) else (none)
set_option maxHeartbeats 8000000 in
set_option maxRecDepth 100000 in
theorem lgon.calls (k : Nat) (A0 : Option Addr) (c0 : Nat) (l0 : List (List Int)) (A1 : Option Addr) (c1 : Nat) (l1 : List Int) (r : List Int) (w : World) (hr0 : Kd.C (Kd.slice 3 (Kd.int .i64)) w A0 l0.length l0) (hc0 : l0.length ≤ c0) (hr1 : Kd.C (Kd.int .i64) w A1 l1.length l1) (hc1 : l1.length ≤ c1) (h : lgon.f k l0 l1 = some r) :
  Calls Try.prog 70 #[.slice A0 l0.length c0, .slice A1 l1.length c1] w fun e w' => ∃ v0_ : Value, e = .returned (v0_) ∧ Kd.R (Kd.int .i64) 3 w' w.heap.size (fun _ => True) v0_ r ∧ Below w.heap.size w w' := by
 have HR0 := xA.mk hr0
 have HC0 := xA.mk hc0
 clear hr0 hc0
 have HR1 := xA.mk hr1
 have HC1 := xA.mk hc1
 clear hr1 hc1
 have HB := xA.mk (Below.refl w.heap.size w)
 have H : (if 0 ≤ (l0.length : Int) then (if ((l0.length : Int) : Int).toNat ≤ 35184372088832 then (lgon.l0 k l0 l1 (List.replicate ((l0.length : Int) : Int).toNat 0) (l0.length : Int) 0) else (none)) else (none)) = some r := h
 clear h
 obtain ⟨c3, H⟩ := yD H
 have c3b0 := eq_true c3
 have c3b1 : decide (0 ≤ (l0.length : Int)) = true := qo c3
 clear c3
 obtain ⟨c4, H⟩ := yD H
 have c4b0 := eq_true c4
 have c4b1 : decide (((l0.length : Int) : Int).toNat ≤ 35184372088832) = true := qo c4
 clear c4
 obtain ⟨y755, hy755⟩ : ∃ y_ : List Int, y_ = (List.replicate ((l0.length : Int) : Int).toNat 0) := ⟨_, rfl⟩
 replace H : (lgon.l0 k l0 l1 y755 (l0.length : Int) 0) = some r := by first | (rw [hy755]; with_reducible exact H) | (have H2_ := (Option.bind_some _ _).symm.trans H; rw [hy755]; with_reducible exact H2_) | (have H2_ := (Option.bind_some _ _).symm.trans H; with_reducible exact H2_) | with_reducible exact H | (rw [hy755]; exact H) | exact H
 have Ny755 := xA.mk hy755
 clear hy755
 have H' := xA.mk H
 clear H
 go_enter Try.func70, Try.ntmps70
 go_wp2_with (first | ((with_reducible refine xX (N := 11) rfl ?_); refine Kd.R_make (Kd.int .i64) _ 3 rfl (N := 11) rfl 26 _ _ rfl (l0.length : Int) rfl rfl Try.underlying26 (.int .i64 0) 8 info3 rfl (by decide) (by omega) 0 (ok := fun _ => True) (okp := fun _ => True) rfl (fun _ hk => hk) trivial (qn (by first | (with_reducible assumption) | assumption)) (Nat.le_trans (Nat.mul_le_mul_right _ (qn (by first | (with_reducible assumption) | assumption) : (l0.length : Int).toNat ≤ 35184372088832)) (by omega)) (Below.refl _ _) (Nat.le_refl _) ?_; intro v756 w5 ho6 hb hg_ hnew_; clear hg_ hnew_; (first | rw [← Ny755.out] at ho6 | (simp only [Int.reduceToNat] at ho6; rw [← Ny755.out] at ho6)); have HO757 := xA.mk (Kd.R_lower ho6 (xB qa)); replace HB := xA.mk (xE qa hb); clear hb ho6))
 repeat (go_quiet (first | ((with_reducible refine xX (N := 11) rfl ?_); refine Kd.R_make (Kd.int .i64) _ 3 rfl (N := 11) rfl 26 _ _ rfl (l0.length : Int) rfl rfl Try.underlying26 (.int .i64 0) 8 info3 rfl (by decide) (by omega) 0 (ok := fun _ => True) (okp := fun _ => True) rfl (fun _ hk => hk) trivial (qn (by first | (with_reducible assumption) | assumption)) (Nat.le_trans (Nat.mul_le_mul_right _ (qn (by first | (with_reducible assumption) | assumption) : (l0.length : Int).toNat ≤ 35184372088832)) (by omega)) (Below.refl _ _) (Nat.le_refl _) ?_; intro v756 w5 ho6 hb hg_ hnew_; clear hg_ hnew_; (first | rw [← Ny755.out] at ho6 | (simp only [Int.reduceToNat] at ho6; rw [← Ny755.out] at ho6)); have HO757 := xA.mk (Kd.R_lower ho6 (xB qa)); replace HB := xA.mk (xE qa hb); clear hb ho6)); try go_wp2_with (first | ((with_reducible refine xX (N := 11) rfl ?_); refine Kd.R_make (Kd.int .i64) _ 3 rfl (N := 11) rfl 26 _ _ rfl (l0.length : Int) rfl rfl Try.underlying26 (.int .i64 0) 8 info3 rfl (by decide) (by omega) 0 (ok := fun _ => True) (okp := fun _ => True) rfl (fun _ hk => hk) trivial (qn (by first | (with_reducible assumption) | assumption)) (Nat.le_trans (Nat.mul_le_mul_right _ (qn (by first | (with_reducible assumption) | assumption) : (l0.length : Int).toNat ≤ 35184372088832)) (by omega)) (Below.refl _ _) (Nat.le_refl _) ?_; intro v756 w5 ho6 hb hg_ hnew_; clear hg_ hnew_; (first | rw [← Ny755.out] at ho6 | (simp only [Int.reduceToNat] at ho6; rw [← Ny755.out] at ho6)); have HO757 := xA.mk (Kd.R_lower ho6 (xB qa)); replace HB := xA.mk (xE qa hb); clear hb ho6)))
 go_loopg [14] k (fun kq v14 w' => ∃ (x5_1 : List Int) (x14_1 : Int), v14 = .int .i64 x14_1 ∧ xA (lgon.l0 kq l0 l1 x5_1 (l0.length : Int) x14_1 = some r) ∧ xA (kq ≤ k) ∧ xA (Kd.R (Kd.int .i64) 3 w' w.heap.size (fun _ => True) v756 x5_1) ∧ xA (Below w.heap.size w w'))
 case atStart => exact ⟨(y755), (0), qf, H', ⟨Nat.le_refl _⟩, ⟨qi HO757.out⟩, ⟨qa⟩⟩
 case round =>
  clear H'
  try clear c1
  try clear p2
  try clear c3
  try clear c3b0
  try clear c3b1
  try clear c4
  try clear c4b0
  try clear c4b1
  obtain ⟨x5_1, x14_1, rfl, HA, HK1, HO_5, HB⟩ := hrel
  obtain _ | k1 := gk
  · exact absurd HA.out (by simp [lgon.l0])
  have H := HA.out
  clear HA
  simp only [lgon.l0] at H
  by_cases c7 : x14_1 < (l0.length : Int)
  rotate_left
  ·
   rw [if_neg c7] at H
   have c7b0 : decide (x14_1 < (l0.length : Int)) = false := qp c7
   clear c7
   obtain rfl := qr H
   go_wp2
   go_ret
   exact ⟨_, rfl, by exact HO_5.out, HB.out⟩
  rw [if_pos c7] at H
  have c7b0 : decide (x14_1 < (l0.length : Int)) = true := qo c7
  clear c7
  replace H := qq H
  obtain ⟨t758, A80, H⟩ := H
  replace H : (lgon.l1 k1 l0 l1 x5_1 x14_1 t758 (l0.length : Int) x14_1 (l0.length : Int) 0) = some r := H
  have A8 := xA.mk A80
  clear A80
  have H' := xA.mk H
  clear H
  go_wp2_with (first | (go_at_call 83; (with_reducible refine (line_never_int.calls  t758 _ A8.out).mono ?_); rintro e w' ⟨rfl, ⟨nd, rfl⟩⟩; (try first | exact ⟨rfl, _, World.drewN_drewN _ _ _⟩ | exact ⟨rfl, _, Eq.trans (World.drewN_drewN _ _ _) (congrArg (World.drewN _) (Nat.add_assoc _ _ _))⟩)))
  go_loopg [7, 20] k1 (fun kq v7 v20 w' => ∃ (x7_2 : Int) (x20_2 : Int), v7 = .int .i64 x7_2 ∧ v20 = .int .i64 x20_2 ∧ xA (lgon.l1 kq l0 l1 x5_1 x14_1 x7_2 (l0.length : Int) x14_1 (l0.length : Int) x20_2 = some r) ∧ xA (kq ≤ k1) ∧ xA (Kd.R (Kd.int .i64) 3 w' w.heap.size (fun _ => True) v756 x5_1) ∧ xA (Below w.heap.size w w'))
  case atStart => exact ⟨(t758), (0), rfl, rfl, H', ⟨Nat.le_refl _⟩, ⟨by exact HO_5.out⟩, ⟨qb⟩⟩
  case round =>
   clear H'
   obtain ⟨x7_2, x20_2, rfl, rfl, HA, HK2, HO_5, HB⟩ := hrel
   obtain _ | k2 := gk
   · exact absurd HA.out (by simp [lgon.l1])
   have H := HA.out
   clear HA
   simp only [lgon.l1] at H
   by_cases c9 : x20_2 < (l0.length : Int)
   rotate_left
   ·
    rw [if_neg c9] at H
    have c9b0 : decide (x20_2 < (l0.length : Int)) = false := qp c9
    clear c9
    obtain ⟨c17b0, H⟩ := xO H
    obtain ⟨c18b0, H⟩ := xO H
    obtain ⟨y763, hy763⟩ : ∃ y_ : List Int, y_ = (x5_1.set (x14_1 : Int).toNat x7_2) := ⟨_, rfl⟩
    replace H : (lgon.l0 k2 l0 l1 y763 (l0.length : Int) (wrap64 (x14_1 + 1))) = some r := by rw [hy763]; exact H
    have Ny763 := xA.mk hy763
    clear hy763
    have H' := xA.mk H
    clear H
    have p19 : 0 ≤ (x14_1 : Int) := qn (by assumption)
    have q19 : (x14_1 : Int) < ((x5_1.length : Int) : Int) := qn (by assumption)
    obtain ⟨go19, co19, eo19, gb19, gl19, cl19, HG19⟩ := Kd.R_form HO_5.out (by omega)
    (first | cases eo19 | (injection eo19 with ea_ en_ ec_; (first | subst ea_ | (injection ea_ with ea_; subst ea_)); subst ec_; clear en_))
    have GB19 := xA.mk gb19
    have GG19 := xA.mk HG19
    clear gb19 gl19 HG19
    obtain ⟨hx19_0, hf19_0⟩ := Kd.R_celln 0 HO_5.out (x14_1 : Int) p19 q19
    replace p19 := eq_true p19
    replace q19 := eq_true q19
    have HP20 := Kd.R_putg HO_5.out (x14_1 : Int) x7_2
    go_wp2_with (first | ((with_reducible refine gate_store (t := 3) (p := 41) rfl ?_); (try (rw [drewN_self wr]; generalize hq_ : World.drewN wr _ = wr; have n0_ := xA.mk (Kd.R_at hq_ HO_5.out); have n1_ := xA.mk (below_at hq_ HB.out); clear hq_ HO_5 HB; have HO_5 := n0_; have HB := n1_; clear n0_ n1_; (try (have HP20 := Kd.R_putg HO_5.out (x14_1 : Int) x7_2)))); refine store_event (t := 3) (p := 41) (v := ?vo_w21) (w1 := (wr.setCell ⟨go19, (x14_1 : Int).toNat, none⟩ (.int .i64 x7_2))) ?hg ?ho ?hn ?hr ?_; (case ho => rfl); (case hg => rfl); (case hn => rfl); (case hr => go_simp); intro w21 hw; have hg : wr.grownBy w21 (some go19) := (by rw [hw]; exact HP20.2); have hp_ : Kd.R (Kd.int .i64) 3 w21 w.heap.size (fun _ => True) (.slice (some ⟨go19, 0, none⟩) x5_1.length co19) y763 := (by rw [hw, Ny763.out]; exact HP20.1); clear HP20; have n0_ := xA.mk (hp_); have n1_ := xA.mk ((by rw [hw]; exact xM (HB.out) GB19.out : Below w.heap.size w w21)); clear HO_5; clear HB; have HO_5 := n0_; have HB := n1_; clear n0_ n1_; clear hg hw hp_))
    go_roundg k2
    case measure => have := HK1.out; have := HK2.out; omega
    case rel => exact ⟨(y763), (wrap64 (x14_1 + 1)), rfl, H', ⟨by have := HK1.out; have := HK2.out; omega⟩, ⟨by exact HO_5.out⟩, ⟨HB.out⟩⟩
   rw [if_pos c9] at H
   have c9b0 : decide (x20_2 < (l0.length : Int)) = true := qo c9
   clear c9
   obtain ⟨c10b0, H⟩ := xO H
   obtain ⟨c11b0, H⟩ := xO H
   obtain ⟨c12b0, H⟩ := xO H
   obtain ⟨c13b0, H⟩ := xO H
   obtain ⟨c14b0, H⟩ := xO H
   replace H := qq H
   obtain ⟨t762, A150, H⟩ := H
   replace H : (lgon.l1 k2 l0 l1 x5_1 x14_1 (mx x7_2 t762) (l0.length : Int) x14_1 (l0.length : Int) (wrap64 (x20_2 + 1))) = some r := H
   have A15 := xA.mk A150
   clear A150
   obtain ⟨ji16, hji16⟩ : ∃ j_ : Int, (mx x7_2 t762) = j_ := ⟨_, rfl⟩
   replace H : (lgon.l1 k2 l0 l1 x5_1 x14_1 ji16 (l0.length : Int) x14_1 (l0.length : Int) (wrap64 (x20_2 + 1))) = some r := by first | (rw [hji16] at H; exact H) | (simp only [hji16] at H ⊢; exact H)
   (try rw [hji16] at A15)
   have hji16_ : (if x7_2 < t762 then t762 else x7_2) = ji16 := hji16
   have H' := xA.mk H
   clear H
   have p759 : 0 ≤ (x14_1 : Int) := qn (by assumption)
   have q759 : x14_1 < (l0.length : Int) := qn (by assumption)
   obtain ⟨ad759, A759_0, c759_0, e759, hx759_0, hl759_0, hi759_0⟩ := at_L1 HR0.out x14_1 p759 q759
   cases e759
   replace hx759_0 := (HB.out.cell (World.block_lt_of_cell? w _ hx759_0)).trans hx759_0
   have HR759_0 := xA.mk hi759_0
   have HC759_0 := xA.mk hl759_0
   clear hi759_0 hl759_0
   replace p759 := eq_true p759
   replace q759 := eq_true q759
   have p760 : 0 ≤ (x20_2 : Int) := qn (by assumption)
   have q760 : x20_2 < ((rd_L1 l0 x14_1).length : Int) := qn (by assumption)
   obtain ⟨ad760, e760, hx760_0⟩ := Kd.xU HR759_0.out x20_2 p760 q760
   cases e760
   replace hx760_0 := (HB.out.cell (World.block_lt_of_cell? w _ hx760_0)).trans hx760_0
   replace p760 := eq_true p760
   replace q760 := eq_true q760
   have p761 : 0 ≤ (x20_2 : Int) := qn (by assumption)
   have q761 : x20_2 < (l1.length : Int) := qn (by assumption)
   obtain ⟨ad761, e761, hx761_0⟩ := Kd.xU HR1.out x20_2 p761 q761
   cases e761
   replace hx761_0 := (HB.out.cell (World.block_lt_of_cell? w _ hx761_0)).trans hx761_0
   replace p761 := eq_true p761
   replace q761 := eq_true q761
   go_wp2_with (first | (go_at_call 91; (with_reducible refine (line_both_int.calls (rd (rd_L1 l0 x14_1) x20_2) (rd l1 x20_2) t762 _ A15.out).mono ?_); rintro e w' ⟨rfl, ⟨nd, rfl⟩⟩; (try first | exact ⟨rfl, _, World.drewN_drewN _ _ _⟩ | exact ⟨rfl, _, Eq.trans (World.drewN_drewN _ _ _) (congrArg (World.drewN _) (Nat.add_assoc _ _ _))⟩)))
   repeat (go_quiet (first | (go_at_call 91; (with_reducible refine (line_both_int.calls (rd (rd_L1 l0 x14_1) x20_2) (rd l1 x20_2) t762 _ A15.out).mono ?_); rintro e w' ⟨rfl, ⟨nd, rfl⟩⟩; (try first | exact ⟨rfl, _, World.drewN_drewN _ _ _⟩ | exact ⟨rfl, _, Eq.trans (World.drewN_drewN _ _ _) (congrArg (World.drewN _) (Nat.add_assoc _ _ _))⟩))); try go_wp2_with (first | (go_at_call 91; (with_reducible refine (line_both_int.calls (rd (rd_L1 l0 x14_1) x20_2) (rd l1 x20_2) t762 _ A15.out).mono ?_); rintro e w' ⟨rfl, ⟨nd, rfl⟩⟩; (try first | exact ⟨rfl, _, World.drewN_drewN _ _ _⟩ | exact ⟨rfl, _, Eq.trans (World.drewN_drewN _ _ _) (congrArg (World.drewN _) (Nat.add_assoc _ _ _))⟩))))
   go_roundg k2
   case measure => have := HK1.out; have := HK2.out; omega
   case rel => exact ⟨(ji16), (wrap64 (x20_2 + 1)), (by first | rfl | (simp; done) | (simp only [← hji16] <;> (first | rfl | simp)) | (simp [*]; done)), rfl, H', ⟨by have := HK1.out; have := HK2.out; omega⟩, ⟨by exact HO_5.out⟩, ⟨qb⟩⟩
def line_Potential.f (k : Nat) (l0 : List (List Int)) : Option (List Int × Int) := (line_looked.f k l0).bind fun bt817 => (if bt817.2.2.2.2.2 = 0 then (if 0 ≤ (l0.length : Int) then (if ((l0.length : Int) : Int).toNat ≤ 35184372088832 then ((lgon.f k bt817.2.2.2.2.1 (List.replicate ((l0.length : Int) : Int).toNat 0)).bind fun t833 => (some (t833, 0))) else (none)) else (none)) else (some (([] : List Int), bt817.2.2.2.2.2)))
def line_Potential.T4 : Bool × List (List Nat × List Nat) := (true, [([], []), ([0], [0]), ([], []), ([2], [2]), ([3, 3], [3]), ([1, 4], [1, 4]), ([5, 5, 0, 1, 2, 3, 4, 5], [5]), ([6, 0, 1, 2, 3, 4, 5, 6], [])])
def line_Potential.B4 : List Nat := [0, 1, 0, 4, 12, 31, 63, 127]
theorem line_Potential.tab4 : rtab .any (opsOf Try.f28 4) = line_Potential.T4 := by kernel_rfl
theorem line_Potential.bits4 : waitsOk line_Potential.T4.2 line_Potential.B4 = true := by kernel_rfl
set_option maxHeartbeats 8000000 in
set_option maxRecDepth 100000 in
theorem line_Potential.calls (k : Nat) (A0 : Option Addr) (c0 : Nat) (l0 : List (List Int)) (r1 : List Int) (r2 : Int) (w : World) (hr0 : Kd.C (Kd.slice 3 (Kd.int .i64)) w A0 l0.length l0) (hc0 : l0.length ≤ c0) (h : line_Potential.f k l0 = some (r1, r2)) :
  Calls Try.prog 28 #[.slice A0 l0.length c0] w fun e w' => ∃ v0_ : Value, e = .returned (.tuple #[v0_, .int .i64 r2]) ∧ Kd.R (Kd.int .i64) 3 w' w.heap.size (fun _ => True) v0_ r1 ∧ Below w.heap.size w w' := by
 have hu58 := Try.underlying58
 have HR0 := xA.mk hr0
 have HC0 := xA.mk hc0
 clear hr0 hc0
 have HB := xA.mk (Below.refl w.heap.size w)
 have H : ((line_looked.f k l0).bind fun bt817 => (if bt817.2.2.2.2.2 = 0 then (if 0 ≤ (l0.length : Int) then (if ((l0.length : Int) : Int).toNat ≤ 35184372088832 then ((lgon.f k bt817.2.2.2.2.1 (List.replicate ((l0.length : Int) : Int).toNat 0)).bind fun t833 => (some (t833, 0))) else (none)) else (none)) else (some (([] : List Int), bt817.2.2.2.2.2)))) = some (r1, r2) := h
 clear h
 replace H := qq H
 obtain ⟨⟨t817, t820, t821, t822, t825, t828⟩, A20, H⟩ := H
 replace H : (if t828 = 0 then (if 0 ≤ (l0.length : Int) then (if ((l0.length : Int) : Int).toNat ≤ 35184372088832 then ((lgon.f k t825 (List.replicate ((l0.length : Int) : Int).toNat 0)).bind fun t833 => (some (t833, 0))) else (none)) else (none)) else (some (([] : List Int), t828))) = some (r1, r2) := H
 have A2 := xA.mk A20
 clear A20
 by_cases c3 : t828 = 0
 rotate_left
 ·
  rw [if_neg c3] at H
  have c3b0 : (t828 == 0) = false := jb c3
  simp only [Option.some.injEq, Prod.mk.injEq] at H
  obtain ⟨rfl, rfl⟩ := H
  go_enter Try.func28, Try.ntmps28
  go_wp2_with (first | ((with_reducible refine xG (f := 45) rfl ?_); refine xP (some 8) rfl rfl Try.func45 (by kernel_rfl) rfl #[.slice A0 l0.length c0] rfl qd ?_; (with_reducible refine (line_looked.calls k (fun k_ => k_ < w.heap.size) _ _ l0 t817 t820 t821 t822 t825 t828 _ ?side1 A2.out).mono ?_); (case side1 => exact Kd.V_mk HC0.out (Kd.F_below (Kd.C_F (Kd.heap_slice 3 (Kd.heap_int .i64)) HR0.out) (HB.out))); rintro e w19 ⟨v818, v823, v826, rfl, ho0, ho1, ho2, hb⟩; refine ⟨_, rfl, ?_⟩; have n0_ := xA.mk (Kd.V_lower (Kd.xY (ok' := fun k_ => some k_ ≠ (v823 : Value).ownBlock ∧ some k_ ≠ (v826 : Value).ownBlock) ho0 (fun k_ hk_ => ⟨hk_.2.1, hk_.2.2⟩)) (xB (HB.out))); have n1_ := xA.mk (Kd.xZ (Kd.xR (ok' := fun k_ => some k_ ≠ (v826 : Value).ownBlock) ho1 (fun _ hk_ => hk_.2)) (xB (HB.out))); have n2_ := xA.mk (Kd.xZ (Kd.xR (ok' := fun k_ => some k_ ≠ (v823 : Value).ownBlock) ho2 (fun _ hk_ => hk_.2)) (xB (HB.out))); have n3_ := xA.mk (xE (HB.out) hb); clear HB; have HO819 := n0_; have HO824 := n1_; have HO827 := n2_; have HB := n3_; clear n0_ n1_ n2_ n3_) | ((with_reducible refine xX (N := 4) rfl ?_); refine yC ?hg (N := 4) ?hd (cs := #[.slice none 0 0, .int .i64 0, .int .i64 0, .slice none 0 0, .slice none 0 0]) (t := 58) ?hr ?_; (case hd => rfl); (case hg => rfl); (case hr => go_simp); intro gb829 hg w20 hbox hb; have n0_ := xA.mk (Kd.V_below (Kd.V_elderB (by exact HO819.out) gb829 (Nat.le_of_eq hg.symm)) hb); have n1_ := xA.mk (Kd.S_below (by exact HO824.out) hb); have n2_ := xA.mk (Kd.S_below (by exact HO827.out) hb); have n3_ := xA.mk (xE (HB.out) hb); have n4_ := xA.mk (hbox); have n5_ := xA.mk ((by rw [hg]; exact (xB (HB.out)) : w.heap.size ≤ gb829)); have n6_ := xA.mk ((by rw [hg]; exact (xB (HB.out)) : w.heap.size ≤ gb829)); clear HO819; clear HO824; clear HO827; clear HB; have HO819 := n0_; have HO824 := n1_; have HO827 := n2_; have HB := n3_; have BK829 := n4_; have GW829 := n5_; have GE829 := n6_; clear n0_ n1_ n2_ n3_ n4_ n5_ n6_; clear hb hbox hg; obtain ⟨Ao21, co21, eo21⟩ := Kd.V_slice HO819.out; subst eo21; have hcz22_0 : w20.cell? ⟨gb829, 0, none⟩ = some (.slice none 0 0) := (xF BK829.out 0).trans rfl; have hcz22_1 : w20.cell? ⟨gb829, 1, none⟩ = some (.int .i64 0) := (xF BK829.out 1).trans rfl; have hcz22_2 : w20.cell? ⟨gb829, 2, none⟩ = some (.int .i64 0) := (xF BK829.out 2).trans rfl; have hcz22_3 : w20.cell? ⟨gb829, 3, none⟩ = some (.slice none 0 0) := (xF BK829.out 3).trans rfl; have hcz22_4 : w20.cell? ⟨gb829, 4, none⟩ = some (.slice none 0 0) := (xF BK829.out 4).trans rfl; have hfz22_0 := xC BK829.out 0; have hfz22_1 := xC BK829.out 1; have hfz22_2 := xC BK829.out 2; have hfz22_3 := xC BK829.out 3; have hfz22_4 := xC BK829.out 4; obtain ⟨Ao23, co23, eo23⟩ := Kd.yA HO824.out; subst eo23; obtain ⟨Ao24, co24, eo24⟩ := Kd.yA HO827.out; subst eo24))
  go_ret2
  exact ⟨_, rfl, by first | exact Kd.R_nil _ _ _ _ _ | exact Kd.N_nil _ _ _ _ _ | exact Kd.V_nil _ _ _ _ _ | exact Kd.Q_nil _ _ _ _ _ | exact Kd.S_nil _ _ _ _ _, by repeat (first | exact HB.out | apply xL | apply xD | apply xH | refine xM ?_ GE829.out)⟩
 rw [if_pos c3] at H
 have c3b0 : (t828 == 0) = true := beq_iff_eq.mpr c3
 have c3b1 : (t828 != 0) = false := bne_eq_false_iff_eq.mpr c3
 clear c3
 obtain ⟨c4, H⟩ := yD H
 have c4b0 := eq_true c4
 have c4b1 : decide (0 ≤ (l0.length : Int)) = true := qo c4
 clear c4
 obtain ⟨c5, H⟩ := yD H
 have c5b0 := eq_true c5
 have c5b1 : decide (((l0.length : Int) : Int).toNat ≤ 35184372088832) = true := qo c5
 clear c5
 obtain ⟨y830, hy830⟩ : ∃ y_ : List Int, y_ = (List.replicate ((l0.length : Int) : Int).toNat 0) := ⟨_, rfl⟩
 replace H : ((lgon.f k t825 y830).bind fun t833 => (some (t833, 0))) = some (r1, r2) := by first | (rw [hy830]; with_reducible exact H) | (have H2_ := (Option.bind_some _ _).symm.trans H; rw [hy830]; with_reducible exact H2_) | (have H2_ := (Option.bind_some _ _).symm.trans H; with_reducible exact H2_) | with_reducible exact H | (rw [hy830]; exact H) | exact H
 have Ny830 := xA.mk hy830
 clear hy830
 replace H := qq H
 obtain ⟨t833, A60, H⟩ := H
 replace H : (some (t833, 0)) = some (r1, r2) := H
 have A6 := xA.mk A60
 clear A60
 simp only [Option.some.injEq, Prod.mk.injEq] at H
 obtain ⟨rfl, rfl⟩ := H
 go_enter Try.func28, Try.ntmps28
 try go_wp2_with (first | ((with_reducible refine xG (f := 45) rfl ?_); refine xP (some 8) rfl rfl Try.func45 (by kernel_rfl) rfl #[.slice A0 l0.length c0] rfl qc ?_; (with_reducible refine (line_looked.calls k (fun k_ => k_ < w.heap.size) _ _ l0 t817 t820 t821 t822 t825 t828 _ ?side1 A2.out).mono ?_); (case side1 => exact Kd.V_mk HC0.out (Kd.F_below (Kd.C_F (Kd.heap_slice 3 (Kd.heap_int .i64)) HR0.out) qa)); rintro e w7 ⟨v818, v823, v826, rfl, ho0, ho1, ho2, hb⟩; refine ⟨_, rfl, ?_⟩; have HO819 := xA.mk (Kd.V_lower (Kd.xY (ok' := fun k_ => some k_ ≠ (v823 : Value).ownBlock ∧ some k_ ≠ (v826 : Value).ownBlock) ho0 (fun k_ hk_ => ⟨hk_.2.1, hk_.2.2⟩)) (xB qa)); have HO824 := xA.mk (Kd.xZ (Kd.xR (ok' := fun k_ => some k_ ≠ (v826 : Value).ownBlock) ho1 (fun _ hk_ => hk_.2)) (xB qa)); have HO827 := xA.mk (Kd.xZ (Kd.xR (ok' := fun k_ => some k_ ≠ (v823 : Value).ownBlock) ho2 (fun _ hk_ => hk_.2)) (xB qa)); replace HB := xA.mk (xE qa hb); (try clear hb); (try clear hb2); (try clear hk); (try clear hi); (try clear ho0); (try clear ho1); (try clear ho2)) | ((with_reducible refine xX (N := 4) rfl ?_); refine yC ?hg (N := 4) ?hd (cs := #[.slice none 0 0, .int .i64 0, .int .i64 0, .slice none 0 0, .slice none 0 0]) (t := 58) ?hr ?_; (case hd => rfl); (case hg => rfl); (case hr => first | (go_simp; done) | (go_simp; rfl)); intro gb829 hg w8 hbox hb; have n0_ := xA.mk (Kd.V_below (Kd.V_elderB (qj HO819.out) gb829 (Nat.le_of_eq hg.symm)) hb); have n1_ := xA.mk (Kd.S_below (qh HO824.out) hb); have n2_ := xA.mk (Kd.S_below (qh HO827.out) hb); have n3_ := xA.mk (xE qa hb); have n4_ := xA.mk (hbox); have n5_ := xA.mk ((by rw [hg]; exact (xB qa) : w.heap.size ≤ gb829)); have n6_ := xA.mk ((by rw [hg]; exact (xB qa) : w.heap.size ≤ gb829)); clear HO819; clear HO824; clear HO827; clear HB; have HO819 := n0_; have HO824 := n1_; have HO827 := n2_; have HB := n3_; have BK829 := n4_; have GW829 := n5_; have GE829 := n6_; clear n0_ n1_ n2_ n3_ n4_ n5_ n6_; clear hb hbox hg; obtain ⟨Ao9, co9, eo9⟩ := Kd.V_slice HO819.out; subst eo9; have hcz10_0 : w8.cell? ⟨gb829, 0, none⟩ = some (.slice none 0 0) := (xF BK829.out 0).trans rfl; have hcz10_1 : w8.cell? ⟨gb829, 1, none⟩ = some (.int .i64 0) := (xF BK829.out 1).trans rfl; have hcz10_2 : w8.cell? ⟨gb829, 2, none⟩ = some (.int .i64 0) := (xF BK829.out 2).trans rfl; have hcz10_3 : w8.cell? ⟨gb829, 3, none⟩ = some (.slice none 0 0) := (xF BK829.out 3).trans rfl; have hcz10_4 : w8.cell? ⟨gb829, 4, none⟩ = some (.slice none 0 0) := (xF BK829.out 4).trans rfl; have hfz10_0 := xC BK829.out 0; have hfz10_1 := xC BK829.out 1; have hfz10_2 := xC BK829.out 2; have hfz10_3 := xC BK829.out 3; have hfz10_4 := xC BK829.out 4; obtain ⟨Ao11, co11, eo11⟩ := Kd.yA HO824.out; subst eo11; obtain ⟨Ao12, co12, eo12⟩ := Kd.yA HO827.out; subst eo12))
 have n0_ : xA (Kd.V (Kd.slice 3 (Kd.int .i64)) 26 (((((w8.setCell ⟨gb829, 0, none⟩ (.slice Ao9 t817.length co9)).setCell ⟨gb829, 1, none⟩ (.int .i64 t820)).setCell ⟨gb829, 2, none⟩ (.int .i64 t821)).setCell ⟨gb829, 3, none⟩ (.slice Ao11 t822.length co11)).setCell ⟨gb829, 4, none⟩ (.slice Ao12 t825.length co12)) w.heap.size (fun k_ => some k_ ≠ (.slice Ao11 t822.length co11 : Value).ownBlock ∧ some k_ ≠ (.slice Ao12 t825.length co12 : Value).ownBlock ∧ k_ ≠ gb829) (.slice Ao9 t817.length co9) t817) := ⟨by (with_reducible repeat (first | apply Kd.V_alloc | apply Kd.V_drewN | apply Kd.V_drew)); exact Kd.xY (Kd.V_far (p := ⟨gb829, 4, none⟩) (Kd.V_far (p := ⟨gb829, 3, none⟩) (Kd.V_far (p := ⟨gb829, 2, none⟩) (Kd.V_far (p := ⟨gb829, 1, none⟩) (Kd.V_far (p := ⟨gb829, 0, none⟩) (Kd.xY HO819.out (fun k_ hk => (⟨hk, hk.2⟩ : _ ∧ k_ ≠ gb829))) (fun _ hk => hk.2) (.slice Ao9 t817.length co9)) (fun _ hk => hk.2) (.int .i64 t820)) (fun _ hk => hk.2) (.int .i64 t821)) (fun _ hk => hk.2) (.slice Ao11 t822.length co11)) (fun _ hk => hk.2) (.slice Ao12 t825.length co12)) (fun _ hk => ⟨hk.1.1.1, ⟨hk.1.1.2, hk.1.2⟩⟩)⟩
 have n1_ : xA (Kd.S (Kd.slice 3 (Kd.int .i64)) 26 (((((w8.setCell ⟨gb829, 0, none⟩ (.slice Ao9 t817.length co9)).setCell ⟨gb829, 1, none⟩ (.int .i64 t820)).setCell ⟨gb829, 2, none⟩ (.int .i64 t821)).setCell ⟨gb829, 3, none⟩ (.slice Ao11 t822.length co11)).setCell ⟨gb829, 4, none⟩ (.slice Ao12 t825.length co12)) w.heap.size (fun k_ => some k_ ≠ (.slice Ao12 t825.length co12 : Value).ownBlock) (.slice Ao11 t822.length co11) t822) := ⟨by (with_reducible repeat (first | apply Kd.S_alloc | apply Kd.S_drewN | apply Kd.S_drew)); exact Kd.xR (Kd.S_far (p := ⟨gb829, 4, none⟩) (Kd.S_far (p := ⟨gb829, 3, none⟩) (Kd.S_far (p := ⟨gb829, 2, none⟩) (Kd.S_far (p := ⟨gb829, 1, none⟩) (Kd.S_far (p := ⟨gb829, 0, none⟩) (Kd.S_types HO824.out BK829.out (by decide)) (fun _ hk => hk.2) (.slice Ao9 t817.length co9)) (fun _ hk => hk.2) (.int .i64 t820)) (fun _ hk => hk.2) (.int .i64 t821)) (fun _ hk => hk.2) (.slice Ao11 t822.length co11)) (fun _ hk => hk.2) (.slice Ao12 t825.length co12)) (fun _ hk => hk.1)⟩
 have n2_ : xA (Kd.S (Kd.slice 3 (Kd.int .i64)) 26 (((((w8.setCell ⟨gb829, 0, none⟩ (.slice Ao9 t817.length co9)).setCell ⟨gb829, 1, none⟩ (.int .i64 t820)).setCell ⟨gb829, 2, none⟩ (.int .i64 t821)).setCell ⟨gb829, 3, none⟩ (.slice Ao11 t822.length co11)).setCell ⟨gb829, 4, none⟩ (.slice Ao12 t825.length co12)) w.heap.size (fun k_ => some k_ ≠ (.slice Ao11 t822.length co11 : Value).ownBlock) (.slice Ao12 t825.length co12) t825) := ⟨by (with_reducible repeat (first | apply Kd.S_alloc | apply Kd.S_drewN | apply Kd.S_drew)); exact Kd.xR (Kd.S_far (p := ⟨gb829, 4, none⟩) (Kd.S_far (p := ⟨gb829, 3, none⟩) (Kd.S_far (p := ⟨gb829, 2, none⟩) (Kd.S_far (p := ⟨gb829, 1, none⟩) (Kd.S_far (p := ⟨gb829, 0, none⟩) (Kd.S_types HO827.out BK829.out (by decide)) (fun _ hk => hk.2) (.slice Ao9 t817.length co9)) (fun _ hk => hk.2) (.int .i64 t820)) (fun _ hk => hk.2) (.int .i64 t821)) (fun _ hk => hk.2) (.slice Ao11 t822.length co11)) (fun _ hk => hk.2) (.slice Ao12 t825.length co12)) (fun _ hk => hk.1)⟩
 have n3_ : xA ((((((w8.setCell ⟨gb829, 0, none⟩ (.slice Ao9 t817.length co9)).setCell ⟨gb829, 1, none⟩ (.int .i64 t820)).setCell ⟨gb829, 2, none⟩ (.int .i64 t821)).setCell ⟨gb829, 3, none⟩ (.slice Ao11 t822.length co11)).setCell ⟨gb829, 4, none⟩ (.slice Ao12 t825.length co12)).heap[gb829]? = some (.cells #[.slice Ao9 t817.length co9, .int .i64 t820, .int .i64 t821, .slice Ao11 t822.length co11, .slice Ao12 t825.length co12] 58 (0, 0))) := ⟨by (with_reducible repeat (first | refine xJ ?_ _ | refine xK ?_ | refine xI ?_ _)); refine xV (cs := #[.slice Ao9 t817.length co9, .int .i64 t820, .int .i64 t821, .slice Ao11 t822.length co11, .slice none 0 0]) ?_ 4 _ rfl; (with_reducible repeat (first | refine xJ ?_ _ | refine xK ?_ | refine xI ?_ _)); refine xV (cs := #[.slice Ao9 t817.length co9, .int .i64 t820, .int .i64 t821, .slice none 0 0, .slice none 0 0]) ?_ 3 _ rfl; (with_reducible repeat (first | refine xJ ?_ _ | refine xK ?_ | refine xI ?_ _)); refine xV (cs := #[.slice Ao9 t817.length co9, .int .i64 t820, .int .i64 0, .slice none 0 0, .slice none 0 0]) ?_ 2 _ rfl; (with_reducible repeat (first | refine xJ ?_ _ | refine xK ?_ | refine xI ?_ _)); refine xV (cs := #[.slice Ao9 t817.length co9, .int .i64 0, .int .i64 0, .slice none 0 0, .slice none 0 0]) ?_ 1 _ rfl; (with_reducible repeat (first | refine xJ ?_ _ | refine xK ?_ | refine xI ?_ _)); refine xV (cs := #[.slice none 0 0, .int .i64 0, .int .i64 0, .slice none 0 0, .slice none 0 0]) ?_ 0 _ rfl; (with_reducible repeat (first | refine xJ ?_ _ | refine xK ?_ | refine xI ?_ _)); exact BK829.out⟩
 have n4_ : xA (Below w.heap.size w (((((w8.setCell ⟨gb829, 0, none⟩ (.slice Ao9 t817.length co9)).setCell ⟨gb829, 1, none⟩ (.int .i64 t820)).setCell ⟨gb829, 2, none⟩ (.int .i64 t821)).setCell ⟨gb829, 3, none⟩ (.slice Ao11 t822.length co11)).setCell ⟨gb829, 4, none⟩ (.slice Ao12 t825.length co12))) := ⟨by repeat (first | (with_reducible first | exact HB.out | apply xL | apply xD | apply xH | refine xM ?_ GE829.out) | exact HB.out)⟩
 (try clear HO819)
 (try clear HO824)
 (try clear HO827)
 (try clear BK829)
 (try clear HB)
 generalize (((((w8.setCell ⟨gb829, 0, none⟩ (.slice Ao9 t817.length co9)).setCell ⟨gb829, 1, none⟩ (.int .i64 t820)).setCell ⟨gb829, 2, none⟩ (.int .i64 t821)).setCell ⟨gb829, 3, none⟩ (.slice Ao11 t822.length co11)).setCell ⟨gb829, 4, none⟩ (.slice Ao12 t825.length co12)) = w13 at n0_ n1_ n2_ n3_ n4_ ⊢
 have HO819 := n0_
 have HO824 := n1_
 have HO827 := n2_
 have BK829 := n3_
 have HB := n4_
 clear n0_ n1_ n2_ n3_ n4_
 have n0_ := xA.mk (Kd.V_drew HO819.out)
 have n1_ := xA.mk (Kd.S_drew HO824.out)
 have n2_ := xA.mk (Kd.S_drew HO827.out)
 have n3_ := xA.mk (xK BK829.out)
 have n4_ := xA.mk (xH HB.out)
 clear HO819
 clear HO824
 clear HO827
 clear BK829
 clear HB
 have HO819 := n0_
 have HO824 := n1_
 have HO827 := n2_
 have BK829 := n3_
 have HB := n4_
 clear n0_ n1_ n2_ n3_ n4_
 refine start_ (n := 8) (S := fun w' => w'.cell? ⟨gb829, 0, none⟩ = some (.slice Ao9 t817.length co9) ∧ w'.cell? ⟨gb829, 1, none⟩ = some (.int .i64 t820) ∧ w'.cell? ⟨gb829, 2, none⟩ = some (.int .i64 t821) ∧ w'.cell? ⟨gb829, 3, none⟩ = some (.slice Ao11 t822.length co11) ∧ w'.cell? ⟨gb829, 4, none⟩ = some (.slice Ao12 t825.length co12)) (ds := []) #[false, false, false, false, false, false, false, false] (by kernel_rfl) rfl rfl ⟨(xF BK829.out 0).trans rfl, (xF BK829.out 1).trans rfl, (xF BK829.out 2).trans rfl, (xF BK829.out 3).trans rfl, (xF BK829.out 4).trans rfl⟩ (fun hHeld => ?_); refine with_tabW line_Potential.tab4 line_Potential.bits4 (fun HT_ HW_ => ?_)
 generalize w13.drew = w14 at HO819 HO824 HO827 BK829 HB hHeld ⊢
 refine pure_ (i := 0) (N := some 14) (v := ?_) (a' := ?_) #[true, false, false, false, false, false, false, false] rfl rfl (xQ HT_.out (by kernel_rfl)) (fun _ _ _ h => h) (Or.inl ⟨by rfl, ?_⟩) ?_ ?_
 rotate_left
 ·
  intro w'
  go_simp
  with_reducible rfl
 rotate_left
 ·
  simp only [Act.put, qt, qu, qv, i64_w, i32_w]
  rfl
 refine pure_ (i := 2) (N := some 16) (v := ?_) (a' := ?_) #[true, false, true, false, false, false, false, false] rfl rfl (xQ HT_.out (by kernel_rfl)) (fun _ _ _ h => h) (Or.inl ⟨by rfl, ?_⟩) ?_ ?_
 rotate_left
 ·
  intro w'
  go_simp
  with_reducible rfl
 rotate_left
 ·
  simp only [Act.put, qt, qu, qv, i64_w, i32_w]
  rfl
 refine pure_ (i := 3) (N := some 17) (v := ?_) (a' := ?_) #[true, false, true, true, false, false, false, false] rfl rfl (xQ HT_.out (by kernel_rfl)) (fun _ _ _ h => h) (Or.inl ⟨by rfl, ?_⟩) ?_ ?_
 rotate_left
 ·
  intro w'
  go_simp
  with_reducible rfl
 rotate_left
 ·
  simp only [Act.put, qt, qu, qv, i64_w, i32_w]
  rfl
 refine take_ (i := 1) (N := some 15) (v := ?_) (a' := ?_) #[true, true, true, true, false, false, false, false] rfl rfl (take_ofW HT_.out HW_.out (by kernel_rfl)) (fun _ _ _ h => h) (Or.inl ⟨by rfl, ?_⟩) hHeld ?_ ?_
 rotate_left
 ·
  rintro w' ⟨s0, s1, s2, s3, s4⟩
  go_simp
  with_reducible rfl
 rotate_left
 ·
  simp only [Act.put, qt, qu, qv, i64_w, i32_w]
  rfl
 refine one_ (i := 4) (N := some 18) #[true, true, true, true, true, false, false, false] rfl rfl (one_of HT_.out (by kernel_rfl)) (by decide) (fun K hK => ?_)
 refine Kd.R_make_step (Kd.int .i64) _ 3 (by rfl) (N := 18) rfl 26 _ _ rfl (l0.length : Int) rfl rfl Try.underlying26 (.int .i64 0) 8 info3 rfl (by decide) (by omega) 0 (ok := fun _ => True) (okp := fun _ => True) rfl (fun _ hk => hk) trivial (qn (by first | (with_reducible assumption) | assumption)) (Nat.le_trans (Nat.mul_le_mul_right _ (qn (by first | (with_reducible assumption) | assumption) : (l0.length : Int).toNat ≤ 35184372088832)) (by omega)) (Below.refl _ _) (Nat.le_refl _) ?_
 intro v831 w15 ho16 hb hg_ hnew_
 clear hg_ hnew_
 (first | rw [← Ny830.out] at ho16 | (simp only [Int.reduceToNat] at ho16; rw [← Ny830.out] at ho16))
 have n0_ := xA.mk (Kd.V_elder' (qj HO819.out) (Kd.R_base ho16) hb)
 have n1_ := xA.mk (Kd.yB (qh HO824.out) (Kd.R_base ho16) hb)
 have n2_ := xA.mk (Kd.yB (qh HO827.out) (Kd.R_base ho16) hb)
 have n3_ := xA.mk (Kd.R_lower ho16 (xB (by repeat (first | (with_reducible first | exact HB.out | apply xL | apply xD | apply xH | refine xM ?_ GE829.out) | exact HB.out))))
 have n4_ := xA.mk (xT (g := gb829) (o := .cells #[.slice Ao9 t817.length co9, .int .i64 t820, .int .i64 t821, .slice Ao11 t822.length co11, .slice Ao12 t825.length co12] 58 (0, 0)) (by (with_reducible repeat (first | refine xJ ?_ _ | refine xK ?_ | refine xI ?_ _)); exact BK829.out) hb)
 have n5_ := xA.mk (xE (by repeat (first | (with_reducible first | exact HB.out | apply xL | apply xD | apply xH | refine xM ?_ GE829.out) | exact HB.out)) hb)
 clear HO819
 clear HO824
 clear HO827
 clear BK829
 clear HB
 have HO819 := n0_
 have HO824 := n1_
 have HO827 := n2_
 have HO832 := n3_
 have BK829 := n4_
 have HB := n5_
 clear n0_ n1_ n2_ n3_ n4_ n5_
 clear hb ho16
 obtain ⟨Ao17, co17, eo17⟩ := Kd.R_slice HO832.out
 (first | subst eo17 | (injection eo17 with f1_ f2_ f3_; have f4_ := f1_.symm; have f5_ := f3_.symm; clear f1_ f2_ f3_; subst f4_; subst f5_))
 refine hK.out _ _ ⟨(xF BK829.out 0).trans rfl, (xF BK829.out 1).trans rfl, (xF BK829.out 2).trans rfl, (xF BK829.out 3).trans rfl, (xF BK829.out 4).trans rfl⟩ (fun hHeld => ?_)
 clear hK K
 refine norm_ (a' := ?_) ?_ ?_
 rotate_left
 ·
  show Act.put _ (some 18) _ = _
  simp only [Act.put, qt, qu, qv, i64_w, i32_w]
  rfl
 refine one_ (i := 5) (N := some 19) #[true, true, true, true, true, true, false, false] rfl rfl (one_of HT_.out (by kernel_rfl)) (by decide) (fun K hK => ?_)
 refine goes_ Try.func70 (by kernel_rfl) rfl #[.slice Ao12 t825.length co12, .slice Ao17 y830.length co17] (by rfl) rfl rfl qd ?_
 with_reducible refine (lgon.calls k _ _ t825 _ _ y830 t833 _ ?side1 ?side2 ?side3 ?side4 A6.out).mono ?_
 (case side1 => repeat (first | exact (Kd.xN HO827.out).2.2))
 (case side2 => exact (Kd.xN HO827.out).2.1)
 (case side3 => repeat (first | exact (Kd.R_reads' HO832.out).2.2))
 (case side4 => exact (Kd.R_reads' HO832.out).2.1)
 rintro e w18 ⟨v834, rfl, ho0, hb⟩
 refine ⟨_, rfl, ?_⟩
 have n0_ := xA.mk (Kd.V_elder' (by exact HO819.out) (Kd.R_base ho0) hb)
 have n1_ := xA.mk (Kd.yB (by exact HO824.out) (Kd.R_base ho0) hb)
 have n2_ := xA.mk (Kd.yB (by exact HO827.out) (Kd.R_base ho0) hb)
 have n3_ := xA.mk (Kd.R_elder' (by exact HO832.out) (Kd.R_base ho0) hb)
 have n4_ := xA.mk (Kd.R_lower (Kd.R_new' ho0 (Kd.R_lt (by exact HO832.out))) (xB (HB.out)))
 have n5_ := xA.mk (xT (g := gb829) (o := .cells #[.slice Ao9 t817.length co9, .int .i64 t820, .int .i64 t821, .slice Ao11 t822.length co11, .slice Ao12 t825.length co12] 58 (0, 0)) (by exact BK829.out) hb)
 have n6_ := xA.mk (xE (HB.out) hb)
 clear HO819
 clear HO824
 clear HO827
 clear HO832
 clear BK829
 clear HB
 have HO819 := n0_
 have HO824 := n1_
 have HO827 := n2_
 have HO832 := n3_
 have HO835 := n4_
 have BK829 := n5_
 have HB := n6_
 clear n0_ n1_ n2_ n3_ n4_ n5_ n6_
 (try clear hb)
 (try clear hb2)
 (try clear hk)
 (try clear hi)
 (try clear ho0)
 refine hK.out _ _ ⟨(xF BK829.out 0).trans rfl, (xF BK829.out 1).trans rfl, (xF BK829.out 2).trans rfl, (xF BK829.out 3).trans rfl, (xF BK829.out 4).trans rfl⟩ (fun hHeld => ?_)
 clear hK K
 refine norm_ (a' := ?_) ?_ ?_
 rotate_left
 ·
  show Act.put _ (some 19) _ = _
  simp only [Act.put, qt, qu, qv, i64_w, i32_w]
  rfl
 refine pure_ (i := 6) (N := some 2) (v := ?_) (a' := ?_) #[true, true, true, true, true, true, true, false] rfl rfl (xQ HT_.out (by kernel_rfl)) (fun _ _ _ h => h) (Or.inl ⟨by rfl, ?_⟩) ?_ ?_
 rotate_left
 ·
  intro w'
  go_simp
  with_reducible rfl
 rotate_left
 ·
  simp only [Act.put, qt, qu, qv, i64_w, i32_w]
  rfl
 refine pure_ (i := 7) (N := some 3) (v := ?_) (a' := ?_) #[true, true, true, true, true, true, true, true] rfl rfl (xQ HT_.out (by kernel_rfl)) (fun _ _ _ h => h) (Or.inl ⟨by rfl, ?_⟩) ?_ ?_
 rotate_left
 ·
  intro w'
  go_simp
  with_reducible rfl
 rotate_left
 ·
  simp only [Act.put, qt, qu, qv, i64_w, i32_w]
  rfl
 refine done_ (done_of HT_.out (by kernel_rfl)) ?_
 try go_wp2
 go_ret2
 exact ⟨_, rfl, by exact Kd.R_mono HO835.out (fun _ hk => trivial), HB.out⟩
mutual
def r5Matrix.j0 : Nat → List (List Int) → Int → Bool → Option (Bool)
 | 0, _, _, _ => none
 | k + 1, x0, x3, x13 => if x13 = true then (some false) else (r5Matrix.l0 k x0 x3 0)
def r5Matrix.l0 : Nat → List (List Int) → Int → Int → Option (Bool)
 | 0, _, _, _ => none
 | k + 1, x0, x3, x4 => if x4 < x3 then (if 0 ≤ x4 then (if x4 < (x0.length : Int) then (if ((rd_L1 x0 x4).length : Int) = x3 then (r5Matrix.l1 k x0 x3 x4 0) else (some false)) else (none)) else (none)) else (some true)
def r5Matrix.l1 : Nat → List (List Int) → Int → Int → Int → Option (Bool)
 | 0, _, _, _, _ => none
 | k + 1, x0, x3, x4, x5 => if x5 < x3 then (if 0 ≤ x4 then (if x4 < (x0.length : Int) then (if 0 ≤ x5 then (if x5 < ((rd_L1 x0 x4).length : Int) then (if (rd (rd_L1 x0 x4) x5) = (-1152921504606846976) then (r5Matrix.l1 k x0 x3 x4 (wrap64 (x5 + 1))) else (if (rd (rd_L1 x0 x4) x5) < (-1000) then (some false) else (if (rd (rd_L1 x0 x4) x5) > 1000 then (some false) else (r5Matrix.l1 k x0 x3 x4 (wrap64 (x5 + 1)))))) else (none)) else (none)) else (none)) else (none)) else (r5Matrix.l0 k x0 x3 (wrap64 (x4 + 1)))
end
def r5Matrix.f (k : Nat) (l0 : List (List Int)) : Option (Bool) := if (l0.length : Int) < 1 then (r5Matrix.j0 k l0 (l0.length : Int) true) else (r5Matrix.j0 k l0 (l0.length : Int) (decide ((l0.length : Int) > 6)))
set_option maxHeartbeats 8000000 in
set_option maxRecDepth 100000 in
theorem r5Matrix.calls (k : Nat) (A0 : Option Addr) (c0 : Nat) (l0 : List (List Int)) (r : Bool) (w : World) (hr0 : Kd.C (Kd.slice 3 (Kd.int .i64)) w A0 l0.length l0) (hc0 : l0.length ≤ c0) (h : r5Matrix.f k l0 = some r) :
  Calls Try.prog 49 #[.slice A0 l0.length c0] w fun e w' => e = .returned (.bool r) ∧ Drawn0 w w' := by
 have HR0 := xA.mk hr0
 have HC0 := xA.mk hc0
 clear hr0 hc0
 have H : (if (l0.length : Int) < 1 then (r5Matrix.j0 k l0 (l0.length : Int) true) else (r5Matrix.j0 k l0 (l0.length : Int) (decide ((l0.length : Int) > 6)))) = some r := h
 clear h
 have HC2 := xA.mk H
 clear H
 go_enter Try.func49, Try.ntmps49
 go_upto_region 2 with (fail)
 go_cut [13] (fun v13 wc => ∃ (kq : Nat) (x13_1 : Bool), v13 = .bool x13_1 ∧ xA (r5Matrix.j0 kq l0 (l0.length : Int) x13_1 = some r) ∧ xA (kq ≤ k) ∧ Drawn0 w wc)
 case first =>
  have H := HC2.out
  clear HC2
  by_cases c3 : (l0.length : Int) < 1
  rotate_left
  ·
   rw [if_neg c3] at H
   have c3b0 : decide ((l0.length : Int) < 1) = false := qp c3
   clear c3
   (first | rw [c3b0] | skip)
   have H' := xA.mk H
   clear H
   go_wp2
   go_meet
   case rel => exact ⟨_, (decide ((l0.length : Int) > 6)), rfl, H', ⟨by first | omega | exact Nat.le_refl _⟩, qe⟩
  rw [if_pos c3] at H
  have c3b0 : decide ((l0.length : Int) < 1) = true := qo c3
  clear c3
  (first | rw [c3b0] | skip)
  have H' := xA.mk H
  clear H
  go_wp2
  go_meet
  case rel => exact ⟨_, (true), rfl, H', ⟨by first | omega | exact Nat.le_refl _⟩, qe⟩
 case rest =>
  clear HC2
  obtain ⟨kq, x13_1, rfl, HA, HJ1, ⟨mc1, rfl⟩⟩ := hcut
  obtain _ | kj1 := kq
  · exact absurd HA.out (by simp [r5Matrix.j0])
  have H := HA.out
  clear HA
  simp only [r5Matrix.j0] at H
  by_cases c4 : x13_1 = true
  ·
   subst c4
   have H1 : (some false) = some r := by rw [if_pos rfl] at H; exact H
   clear H
   have H := H1
   clear H1
   obtain rfl := qr H
   go_wp2
   go_ret
   exact ⟨qf, qe⟩
  replace c4 := Bool.eq_false_iff.mpr c4
  subst c4
  have H1 : (r5Matrix.l0 kj1 l0 (l0.length : Int) 0) = some r := by rw [if_neg (show ¬ (false = true) by decide)] at H; exact H
  clear H
  have H := H1
  clear H1
  have H' := xA.mk H
  clear H
  go_wp2
  go_loopg [4] kj1 (fun kq v4 w' => ∃ (x4_2 : Int), v4 = .int .i64 x4_2 ∧ xA (r5Matrix.l0 kq l0 (l0.length : Int) x4_2 = some r) ∧ xA (kq ≤ kj1) ∧ Drawn0 w w')
  case atStart => exact ⟨(0), rfl, H', ⟨Nat.le_refl _⟩, qe⟩
  case round =>
   clear H'
   obtain ⟨x4_2, rfl, HA, HK2, ⟨m2, rfl⟩⟩ := hrel
   obtain _ | k2 := gk
   · exact absurd HA.out (by simp [r5Matrix.l0])
   have H := HA.out
   clear HA
   simp only [r5Matrix.l0] at H
   by_cases c5 : x4_2 < (l0.length : Int)
   rotate_left
   ·
    rw [if_neg c5] at H
    have c5b0 : decide (x4_2 < (l0.length : Int)) = false := qp c5
    clear c5
    obtain rfl := qr H
    go_wp2
    go_ret
    exact ⟨qf, qe⟩
   rw [if_pos c5] at H
   have c5b0 : decide (x4_2 < (l0.length : Int)) = true := qo c5
   clear c5
   obtain ⟨c6b0, H⟩ := xO H
   obtain ⟨c7b0, H⟩ := xO H
   by_cases c8 : ((rd_L1 l0 x4_2).length : Int) = (l0.length : Int)
   rotate_left
   ·
    rw [if_neg c8] at H
    have c8b0 : (((rd_L1 l0 x4_2).length : Int) == (l0.length : Int)) = false := jb c8
    have c8b2 : ((rd_L1 l0 x4_2).length == l0.length) = false := by first | simpa using c8 | (simp at c8 ⊢; omega)
    obtain rfl := qr H
    have p427 : 0 ≤ (x4_2 : Int) := qn (by assumption)
    have q427 : x4_2 < (l0.length : Int) := qn (by assumption)
    obtain ⟨ad427, A427_0, c427_0, e427, hx427_0, hl427_0, hi427_0⟩ := at_L1 HR0.out x4_2 p427 q427
    cases e427
    have HR427_0 := xA.mk hi427_0
    have HC427_0 := xA.mk hl427_0
    clear hi427_0 hl427_0
    replace p427 := eq_true p427
    replace q427 := eq_true q427
    go_wp2
    go_ret
    exact ⟨qf, qe⟩
   rw [if_pos c8] at H
   have c8b0 : (((rd_L1 l0 x4_2).length : Int) == (l0.length : Int)) = true := beq_iff_eq.mpr c8
   have c8b1 : (((rd_L1 l0 x4_2).length : Int) != (l0.length : Int)) = false := bne_eq_false_iff_eq.mpr c8
   have c8b2 : ((rd_L1 l0 x4_2).length == l0.length) = true := by first | simpa using c8 | (simp at c8 ⊢; omega)
   clear c8
   have H' := xA.mk H
   clear H
   have p427 : 0 ≤ (x4_2 : Int) := qn (by first | (with_reducible assumption) | assumption)
   have q427 : x4_2 < (l0.length : Int) := qn (by first | (with_reducible assumption) | assumption)
   obtain ⟨ad427, A427_0, c427_0, e427, hx427_0, hl427_0, hi427_0⟩ := at_L1 HR0.out x4_2 p427 q427
   cases e427
   have HR427_0 := xA.mk hi427_0
   have HC427_0 := xA.mk hl427_0
   clear hi427_0 hl427_0
   replace p427 := eq_true p427
   replace q427 := eq_true q427
   go_wp2
   go_loopg [5] k2 (fun kq v5 w' => ∃ (x5_3 : Int), v5 = .int .i64 x5_3 ∧ xA (r5Matrix.l1 kq l0 (l0.length : Int) x4_2 x5_3 = some r) ∧ xA (kq ≤ k2) ∧ Drawn0 w w')
   case atStart => exact ⟨(0), qf, H', ⟨Nat.le_refl _⟩, qe⟩
   case round =>
    clear H'
    try clear c1
    try clear p2
    try clear c3
    try clear c3b0
    try clear c3b1
    try clear c4
    try clear p4
    try clear q4
    try clear hx4
    try clear c5
    try clear c5b0
    try clear c6
    try clear c6b0
    try clear c7
    try clear c7b0
    try clear c8
    try clear c8b0
    try clear c8b1
    try clear c8b2
    try clear hx427_0
    try clear p2
    try clear p427
    try clear q427
    obtain ⟨x5_3, rfl, HA, HK3, ⟨m3, rfl⟩⟩ := hrel
    obtain _ | k3 := gk
    · exact absurd HA.out (by simp [r5Matrix.l1])
    have H := HA.out
    clear HA
    simp only [r5Matrix.l1] at H
    by_cases c9 : x5_3 < (l0.length : Int)
    rotate_left
    ·
     rw [if_neg c9] at H
     have c9b0 : decide (x5_3 < (l0.length : Int)) = false := qp c9
     clear c9
     have H' := xA.mk H
     clear H
     go_wp2
     go_roundg k3
     case measure => have := HJ1.out; have := HK2.out; have := HK3.out; omega
     case rel => exact ⟨(wrap64 (x4_2 + 1)), rfl, H', ⟨by have := HJ1.out; have := HK2.out; have := HK3.out; omega⟩, qe⟩
    rw [if_pos c9] at H
    have c9b0 : decide (x5_3 < (l0.length : Int)) = true := qo c9
    clear c9
    obtain ⟨c10b0, H⟩ := xO H
    obtain ⟨c11b0, H⟩ := xO H
    obtain ⟨c12b0, H⟩ := xO H
    obtain ⟨c13b0, H⟩ := xO H
    by_cases c14 : (rd (rd_L1 l0 x4_2) x5_3) = (-1152921504606846976)
    ·
     rw [if_pos c14] at H
     have c14b0 : ((rd (rd_L1 l0 x4_2) x5_3) == (-1152921504606846976)) = true := beq_iff_eq.mpr c14
     have c14b1 : ((rd (rd_L1 l0 x4_2) x5_3) != (-1152921504606846976)) = false := bne_eq_false_iff_eq.mpr c14
     clear c14
     have H' := xA.mk H
     clear H
     have p428 : 0 ≤ (x4_2 : Int) := qn (by first | (with_reducible assumption) | assumption)
     have q428 : x4_2 < (l0.length : Int) := qn (by first | (with_reducible assumption) | assumption)
     obtain ⟨ad428, A428_0, c428_0, e428, hx428_0, hl428_0, hi428_0⟩ := at_L1 HR0.out x4_2 p428 q428
     obtain rfl : ad427 = ad428 := (by injection e428)
     have HR428_0 := xA.mk hi428_0
     have HC428_0 := xA.mk hl428_0
     clear hi428_0 hl428_0
     replace p428 := eq_true p428
     replace q428 := eq_true q428
     have p429 : 0 ≤ (x5_3 : Int) := qn (by first | (with_reducible assumption) | assumption)
     have q429 : x5_3 < ((rd_L1 l0 x4_2).length : Int) := qn (by first | (with_reducible assumption) | assumption)
     obtain ⟨ad429, e429, hx429_0⟩ := Kd.xU HR428_0.out x5_3 p429 q429
     cases e429
     replace p429 := eq_true p429
     replace q429 := eq_true q429
     go_wp2
     go_roundg k3
     case measure => have := HJ1.out; have := HK2.out; have := HK3.out; omega
     case rel => exact ⟨(wrap64 (x5_3 + 1)), qf, H', ⟨by have := HJ1.out; have := HK2.out; have := HK3.out; omega⟩, qe⟩
    rw [if_neg c14] at H
    have c14b0 : ((rd (rd_L1 l0 x4_2) x5_3) == (-1152921504606846976)) = false := jb c14
    have c14b1 : ((rd (rd_L1 l0 x4_2) x5_3) != (-1152921504606846976)) = true := bne_iff_ne.mpr c14
    by_cases c15 : (rd (rd_L1 l0 x4_2) x5_3) < (-1000)
    ·
     rw [if_pos c15] at H
     have c15b0 : decide ((rd (rd_L1 l0 x4_2) x5_3) < (-1000)) = true := qo c15
     clear c15
     obtain rfl := qr H
     have p428 : 0 ≤ (x4_2 : Int) := qn (by first | (with_reducible assumption) | assumption)
     have q428 : x4_2 < (l0.length : Int) := qn (by first | (with_reducible assumption) | assumption)
     obtain ⟨ad428, A428_0, c428_0, e428, hx428_0, hl428_0, hi428_0⟩ := at_L1 HR0.out x4_2 p428 q428
     obtain rfl : ad427 = ad428 := (by injection e428)
     have HR428_0 := xA.mk hi428_0
     have HC428_0 := xA.mk hl428_0
     clear hi428_0 hl428_0
     replace p428 := eq_true p428
     replace q428 := eq_true q428
     have p429 : 0 ≤ (x5_3 : Int) := qn (by first | (with_reducible assumption) | assumption)
     have q429 : x5_3 < ((rd_L1 l0 x4_2).length : Int) := qn (by first | (with_reducible assumption) | assumption)
     obtain ⟨ad429, e429, hx429_0⟩ := Kd.xU HR428_0.out x5_3 p429 q429
     cases e429
     replace p429 := eq_true p429
     replace q429 := eq_true q429
     have p430 : 0 ≤ (x4_2 : Int) := qn (by first | (with_reducible assumption) | assumption)
     have q430 : x4_2 < (l0.length : Int) := qn (by first | (with_reducible assumption) | assumption)
     obtain ⟨ad430, A430_0, c430_0, e430, hx430_0, hl430_0, hi430_0⟩ := at_L1 HR0.out x4_2 p430 q430
     obtain rfl : ad427 = ad430 := (by injection e430)
     have HR430_0 := xA.mk hi430_0
     have HC430_0 := xA.mk hl430_0
     clear hi430_0 hl430_0
     replace p430 := eq_true p430
     replace q430 := eq_true q430
     have ea_ := qr (hx428_0.symm.trans hx430_0)
     injection ea_ with ea_ en_ ec_
     subst ea_
     subst ec_
     clear en_
     have p431 : 0 ≤ (x5_3 : Int) := qn (by first | (with_reducible assumption) | assumption)
     have q431 : x5_3 < ((rd_L1 l0 x4_2).length : Int) := qn (by first | (with_reducible assumption) | assumption)
     obtain ⟨ad431, e431, hx431_0⟩ := Kd.xU HR430_0.out x5_3 p431 q431
     cases e431
     replace p431 := eq_true p431
     replace q431 := eq_true q431
     go_wp2
     go_ret
     exact ⟨qf, qe⟩
    rw [if_neg c15] at H
    have c15b0 : decide ((rd (rd_L1 l0 x4_2) x5_3) < (-1000)) = false := qp c15
    clear c15
    by_cases c16 : (rd (rd_L1 l0 x4_2) x5_3) > 1000
    ·
     rw [if_pos c16] at H
     have c16b0 : decide (1000 < (rd (rd_L1 l0 x4_2) x5_3)) = true := qo c16
     clear c16
     obtain rfl := qr H
     have p428 : 0 ≤ (x4_2 : Int) := qn (by first | (with_reducible assumption) | assumption)
     have q428 : x4_2 < (l0.length : Int) := qn (by first | (with_reducible assumption) | assumption)
     obtain ⟨ad428, A428_0, c428_0, e428, hx428_0, hl428_0, hi428_0⟩ := at_L1 HR0.out x4_2 p428 q428
     obtain rfl : ad427 = ad428 := (by injection e428)
     have HR428_0 := xA.mk hi428_0
     have HC428_0 := xA.mk hl428_0
     clear hi428_0 hl428_0
     replace p428 := eq_true p428
     replace q428 := eq_true q428
     have p429 : 0 ≤ (x5_3 : Int) := qn (by first | (with_reducible assumption) | assumption)
     have q429 : x5_3 < ((rd_L1 l0 x4_2).length : Int) := qn (by first | (with_reducible assumption) | assumption)
     obtain ⟨ad429, e429, hx429_0⟩ := Kd.xU HR428_0.out x5_3 p429 q429
     cases e429
     replace p429 := eq_true p429
     replace q429 := eq_true q429
     have p430 : 0 ≤ (x4_2 : Int) := qn (by first | (with_reducible assumption) | assumption)
     have q430 : x4_2 < (l0.length : Int) := qn (by first | (with_reducible assumption) | assumption)
     obtain ⟨ad430, A430_0, c430_0, e430, hx430_0, hl430_0, hi430_0⟩ := at_L1 HR0.out x4_2 p430 q430
     obtain rfl : ad427 = ad430 := (by injection e430)
     have HR430_0 := xA.mk hi430_0
     have HC430_0 := xA.mk hl430_0
     clear hi430_0 hl430_0
     replace p430 := eq_true p430
     replace q430 := eq_true q430
     have ea_ := qr (hx428_0.symm.trans hx430_0)
     injection ea_ with ea_ en_ ec_
     subst ea_
     subst ec_
     clear en_
     have p431 : 0 ≤ (x5_3 : Int) := qn (by first | (with_reducible assumption) | assumption)
     have q431 : x5_3 < ((rd_L1 l0 x4_2).length : Int) := qn (by first | (with_reducible assumption) | assumption)
     obtain ⟨ad431, e431, hx431_0⟩ := Kd.xU HR430_0.out x5_3 p431 q431
     cases e431
     replace p431 := eq_true p431
     replace q431 := eq_true q431
     have p432 : 0 ≤ (x4_2 : Int) := qn (by first | (with_reducible assumption) | assumption)
     have q432 : x4_2 < (l0.length : Int) := qn (by first | (with_reducible assumption) | assumption)
     obtain ⟨ad432, A432_0, c432_0, e432, hx432_0, hl432_0, hi432_0⟩ := at_L1 HR0.out x4_2 p432 q432
     obtain rfl : ad427 = ad432 := (by injection e432)
     have HR432_0 := xA.mk hi432_0
     have HC432_0 := xA.mk hl432_0
     clear hi432_0 hl432_0
     replace p432 := eq_true p432
     replace q432 := eq_true q432
     have ea_ := qr (hx428_0.symm.trans hx432_0)
     injection ea_ with ea_ en_ ec_
     subst ea_
     subst ec_
     clear en_
     have p433 : 0 ≤ (x5_3 : Int) := qn (by first | (with_reducible assumption) | assumption)
     have q433 : x5_3 < ((rd_L1 l0 x4_2).length : Int) := qn (by first | (with_reducible assumption) | assumption)
     obtain ⟨ad433, e433, hx433_0⟩ := Kd.xU HR432_0.out x5_3 p433 q433
     cases e433
     replace p433 := eq_true p433
     replace q433 := eq_true q433
     go_wp2
     go_ret
     exact ⟨qf, qe⟩
    rw [if_neg c16] at H
    have c16b0 : decide (1000 < (rd (rd_L1 l0 x4_2) x5_3)) = false := qp c16
    clear c16
    have H' := xA.mk H
    clear H
    have p428 : 0 ≤ (x4_2 : Int) := qn (by first | (with_reducible assumption) | assumption)
    have q428 : x4_2 < (l0.length : Int) := qn (by first | (with_reducible assumption) | assumption)
    obtain ⟨ad428, A428_0, c428_0, e428, hx428_0, hl428_0, hi428_0⟩ := at_L1 HR0.out x4_2 p428 q428
    obtain rfl : ad427 = ad428 := (by injection e428)
    have HR428_0 := xA.mk hi428_0
    have HC428_0 := xA.mk hl428_0
    clear hi428_0 hl428_0
    replace p428 := eq_true p428
    replace q428 := eq_true q428
    have p429 : 0 ≤ (x5_3 : Int) := qn (by first | (with_reducible assumption) | assumption)
    have q429 : x5_3 < ((rd_L1 l0 x4_2).length : Int) := qn (by first | (with_reducible assumption) | assumption)
    obtain ⟨ad429, e429, hx429_0⟩ := Kd.xU HR428_0.out x5_3 p429 q429
    cases e429
    replace p429 := eq_true p429
    replace q429 := eq_true q429
    have p430 : 0 ≤ (x4_2 : Int) := qn (by first | (with_reducible assumption) | assumption)
    have q430 : x4_2 < (l0.length : Int) := qn (by first | (with_reducible assumption) | assumption)
    obtain ⟨ad430, A430_0, c430_0, e430, hx430_0, hl430_0, hi430_0⟩ := at_L1 HR0.out x4_2 p430 q430
    obtain rfl : ad427 = ad430 := (by injection e430)
    have HR430_0 := xA.mk hi430_0
    have HC430_0 := xA.mk hl430_0
    clear hi430_0 hl430_0
    replace p430 := eq_true p430
    replace q430 := eq_true q430
    have ea_ := qr (hx428_0.symm.trans hx430_0)
    injection ea_ with ea_ en_ ec_
    subst ea_
    subst ec_
    clear en_
    have p431 : 0 ≤ (x5_3 : Int) := qn (by first | (with_reducible assumption) | assumption)
    have q431 : x5_3 < ((rd_L1 l0 x4_2).length : Int) := qn (by first | (with_reducible assumption) | assumption)
    obtain ⟨ad431, e431, hx431_0⟩ := Kd.xU HR430_0.out x5_3 p431 q431
    cases e431
    replace p431 := eq_true p431
    replace q431 := eq_true q431
    have p432 : 0 ≤ (x4_2 : Int) := qn (by first | (with_reducible assumption) | assumption)
    have q432 : x4_2 < (l0.length : Int) := qn (by first | (with_reducible assumption) | assumption)
    obtain ⟨ad432, A432_0, c432_0, e432, hx432_0, hl432_0, hi432_0⟩ := at_L1 HR0.out x4_2 p432 q432
    obtain rfl : ad427 = ad432 := (by injection e432)
    have HR432_0 := xA.mk hi432_0
    have HC432_0 := xA.mk hl432_0
    clear hi432_0 hl432_0
    replace p432 := eq_true p432
    replace q432 := eq_true q432
    have ea_ := qr (hx428_0.symm.trans hx432_0)
    injection ea_ with ea_ en_ ec_
    subst ea_
    subst ec_
    clear en_
    have p433 : 0 ≤ (x5_3 : Int) := qn (by first | (with_reducible assumption) | assumption)
    have q433 : x5_3 < ((rd_L1 l0 x4_2).length : Int) := qn (by first | (with_reducible assumption) | assumption)
    obtain ⟨ad433, e433, hx433_0⟩ := Kd.xU HR432_0.out x5_3 p433 q433
    cases e433
    replace p433 := eq_true p433
    replace q433 := eq_true q433
    go_wp2
    go_roundg k3
    case measure => have := HJ1.out; have := HK2.out; have := HK3.out; omega
    case rel => exact ⟨(wrap64 (x5_3 + 1)), qf, H', ⟨by have := HJ1.out; have := HK2.out; have := HK3.out; omega⟩, qe⟩
def r5has.l0 : Nat → List Int → Int → Int → Option (Bool)
 | 0, _, _, _ => none
 | k + 1, x0, x1, x5 => if x5 < (x0.length : Int) then (if 0 ≤ x5 then (if (rd x0 x5) = x1 then (some true) else (r5has.l0 k x0 x1 (wrap64 (x5 + 1)))) else (none)) else (some false)
def r5has.f (k : Nat) (l0 : List Int) (a1 : Int) : Option (Bool) := r5has.l0 k l0 a1 0
set_option maxHeartbeats 8000000 in
set_option maxRecDepth 100000 in
theorem r5has.calls (k : Nat) (A0 : Option Addr) (c0 : Nat) (l0 : List Int) (a1 : Int) (r : Bool) (w : World) (hr0 : Kd.C (Kd.int .i64) w A0 l0.length l0) (hc0 : l0.length ≤ c0) (h : r5has.f k l0 a1 = some r) :
  Calls Try.prog 85 #[.slice A0 l0.length c0, .int .i64 a1] w fun e w' => e = .returned (.bool r) ∧ Drawn0 w w' := by
 have HR0 := xA.mk hr0
 have HC0 := xA.mk hc0
 clear hr0 hc0
 have H : (r5has.l0 k l0 a1 0) = some r := h
 clear h
 have H' := xA.mk H
 clear H
 go_enter Try.func85, Try.ntmps85
 go_wp2
 go_loopg [5] k (fun kq v5 w' => ∃ (x5_1 : Int), v5 = .int .i64 x5_1 ∧ xA (r5has.l0 kq l0 a1 x5_1 = some r) ∧ xA (kq ≤ k) ∧ Drawn0 w w')
 case atStart => exact ⟨(0), rfl, H', ⟨Nat.le_refl _⟩, qe⟩
 case round =>
  clear H'
  obtain ⟨x5_1, rfl, HA, HK1, ⟨m1, rfl⟩⟩ := hrel
  obtain _ | k1 := gk
  · exact absurd HA.out (by simp [r5has.l0])
  have H := HA.out
  clear HA
  simp only [r5has.l0] at H
  by_cases c3 : x5_1 < (l0.length : Int)
  rotate_left
  ·
   rw [if_neg c3] at H
   have c3b0 : decide (x5_1 < (l0.length : Int)) = false := qp c3
   clear c3
   obtain rfl := qr H
   go_wp2
   go_ret
   exact ⟨qf, qe⟩
  rw [if_pos c3] at H
  have c3b0 : decide (x5_1 < (l0.length : Int)) = true := qo c3
  clear c3
  obtain ⟨c4b0, H⟩ := xO H
  by_cases c5 : (rd l0 x5_1) = a1
  ·
   rw [if_pos c5] at H
   have c5b0 : ((rd l0 x5_1) == a1) = true := beq_iff_eq.mpr c5
   clear c5
   obtain rfl := qr H
   have p438 : 0 ≤ (x5_1 : Int) := qn (by assumption)
   have q438 : x5_1 < (l0.length : Int) := qn (by assumption)
   obtain ⟨ad438, e438, hx438_0⟩ := Kd.xU HR0.out x5_1 p438 q438
   cases e438
   replace p438 := eq_true p438
   replace q438 := eq_true q438
   go_wp2
   go_ret
   exact ⟨qf, qe⟩
  rw [if_neg c5] at H
  have c5b0 : ((rd l0 x5_1) == a1) = false := jb c5
  have H' := xA.mk H
  clear H
  have p438 : 0 ≤ (x5_1 : Int) := qn (by assumption)
  have q438 : x5_1 < (l0.length : Int) := qn (by assumption)
  obtain ⟨ad438, e438, hx438_0⟩ := Kd.xU HR0.out x5_1 p438 q438
  cases e438
  replace p438 := eq_true p438
  replace q438 := eq_true q438
  go_wp2
  go_roundg k1
  case measure => have := HK1.out; omega
  case rel => exact ⟨(wrap64 (x5_1 + 1)), rfl, H', ⟨by have := HK1.out; omega⟩, qe⟩
mutual
def r5cyclesFrom.l0 : Nat → List (List Int) → List Int → List (List Int) → Int → Int → Option ((List (List Int)))
 | 0, _, _, _, _, _ => none
 | k + 1, x0, x1, x5, x6, x7 => if x7 < (x0.length : Int) then (if 0 ≤ x7 then (if 0 ≤ x6 then (if x6 < ((rd_L1 x0 x7).length : Int) then (if (rd (rd_L1 x0 x7) x6) = (-1152921504606846976) then (r5cyclesFrom.l0 k x0 x1 x5 x6 (wrap64 (x7 + 1))) else (if ([] : List Int).length + x1.length < 17592186044416 then ((some (([] : List Int) ++ x1 : List Int)).bind fun y443 => (if 0 < (x1.length : Int) then (if x7 = (rd x1 0) then (if x5.length < 5864062014805 then (r5cyclesFrom.l0 k x0 x1 (x5 ++ [y443]) x6 (wrap64 (x7 + 1))) else (none)) else ((r5has.f k x1 x7).bind fun t450 => (if t450 = true then (r5cyclesFrom.l0 k x0 x1 x5 x6 (wrap64 (x7 + 1))) else (if y443.length < 17592186044416 then ((r5cyclesFrom.f k x0 (y443 ++ [x7])).bind fun t454 => (if x5.length + t454.length < 5864062014805 then (r5cyclesFrom.l0 k x0 x1 (x5 ++ t454) x6 (wrap64 (x7 + 1))) else (none))) else (none))))) else (none))) else (none))) else (none)) else (none)) else (none)) else (some x5)
def r5cyclesFrom.f : Nat → List (List Int) → List Int → Option ((List (List Int)))
 | 0, _, _ => none
 | k + 1, l0, l1 => if 0 ≤ (wrap64 ((l1.length : Int) - 1)) then (if (wrap64 ((l1.length : Int) - 1)) < (l1.length : Int) then (if 0 < (l1.length : Int) then (r5cyclesFrom.l0 k l0 l1 ([] : List (List Int)) (rd l1 (wrap64 ((l1.length : Int) - 1))) (rd l1 0)) else (none)) else (none)) else (none)
end
set_option maxHeartbeats 8000000 in
set_option maxRecDepth 100000 in
theorem r5cyclesFrom.calls (k : Nat) : ∀ (A0 : Option Addr) (c0 : Nat) (l0 : List (List Int)) (A1 : Option Addr) (c1 : Nat) (l1 : List Int) (r : List (List Int)) (w : World) (hr0 : Kd.C (Kd.slice 3 (Kd.int .i64)) w A0 l0.length l0) (hc0 : l0.length ≤ c0) (hr1 : Kd.C (Kd.int .i64) w A1 l1.length l1) (hc1 : l1.length ≤ c1) (h : r5cyclesFrom.f k l0 l1 = some r),
  Calls Try.prog 100 #[.slice A0 l0.length c0, .slice A1 l1.length c1] w fun e w' => ∃ v0_ : Value, e = .returned (v0_) ∧ Kd.N (Kd.slice 3 (Kd.int .i64)) 26 w' w.heap.size (fun k_ => (w.heap.size ≤ k_)) v0_ r ∧ Below w.heap.size w w' := by
 induction k using Nat.strongRecOn with
 | _ k ih =>
 intro A0 c0 l0 A1 c1 l1 r w hr0 hc0 hr1 hc1 h
 cases k with
 | zero => exact absurd h (by simp [r5cyclesFrom.f])
 | succ k =>
 simp only [r5cyclesFrom.f] at h
 have HR0 := xA.mk hr0
 have HC0 := xA.mk hc0
 clear hr0 hc0
 have HR1 := xA.mk hr1
 have HC1 := xA.mk hc1
 clear hr1 hc1
 have HB := xA.mk (Below.refl w.heap.size w)
 have H : (if 0 ≤ (wrap64 ((l1.length : Int) - 1)) then (if (wrap64 ((l1.length : Int) - 1)) < (l1.length : Int) then (if 0 < (l1.length : Int) then (r5cyclesFrom.l0 k l0 l1 ([] : List (List Int)) (rd l1 (wrap64 ((l1.length : Int) - 1))) (rd l1 0)) else (none)) else (none)) else (none)) = some r := h
 clear h
 obtain ⟨ji3, hji3⟩ : ∃ j_ : Int, (wrap64 ((l1.length : Int) - 1)) = j_ := ⟨_, rfl⟩
 replace H : (if 0 ≤ (ji3) then (if (ji3) < (l1.length : Int) then (if 0 < (l1.length : Int) then (r5cyclesFrom.l0 k l0 l1 ([] : List (List Int)) (rd l1 (ji3)) (rd l1 0)) else (none)) else (none)) else (none)) = some r := by first | (rw [hji3] at H; exact H) | (simp only [hji3] at H ⊢; exact H)
 have hji3w : (IntKind.i64.wrap ((l1.length : Int) - 1)) = ji3 := (i64_w _).trans hji3
 obtain ⟨c4b0, H⟩ := xO H
 obtain ⟨c5b0, H⟩ := xO H
 obtain ⟨c6b0, H⟩ := xO H
 have H' := xA.mk H
 clear H
 have p439 : 0 ≤ ((ji3) : Int) := qn (by assumption)
 have q439 : (ji3) < (l1.length : Int) := qn (by assumption)
 obtain ⟨ad439, e439, hx439_0⟩ := Kd.xU HR1.out (ji3) p439 q439
 cases e439
 replace p439 := eq_true p439
 replace q439 := eq_true q439
 have p440 : 0 ≤ (0 : Int) := (by omega)
 have q440 : 0 < (l1.length : Int) := qn (by assumption)
 obtain ⟨ad440, e440, hx440_0⟩ := Kd.xU HR1.out 0 p440 q440
 obtain rfl : ad439 = ad440 := (by injection e440)
 have qi440 : (0 < l1.length) = True := eq_true (by omega)
 (try rw [show ((0 : Int)).toNat = 0 from rfl] at hx440_0)
 (try rw [Addr.add_zero'] at hx440_0)
 replace p440 := eq_true p440
 replace q440 := eq_true q440
 go_enter Try.func100, Try.ntmps100
 go_wp2
 go_loopg [5, 7] k (fun kq v5 v7 w' => ∃ (x5_1 : List (List Int)) (x7_1 : Int), v7 = .int .i64 x7_1 ∧ xA (r5cyclesFrom.l0 kq l0 l1 x5_1 (rd l1 (ji3)) x7_1 = some r) ∧ xA (kq ≤ k) ∧ xA (Kd.N (Kd.slice 3 (Kd.int .i64)) 26 w' w.heap.size (fun k_ => (w.heap.size ≤ k_)) v5 x5_1) ∧ xA (Below w.heap.size w w'))
 case atStart => exact ⟨(([] : List (List Int))), (rd l1 0), rfl, H', ⟨Nat.le_refl _⟩, ⟨by first | exact Kd.S_nil _ _ _ _ _ | exact Kd.N_nil _ _ _ _ _ | exact Kd.V_nil _ _ _ _ _ | exact Kd.Q_nil _ _ _ _ _ | exact Kd.R_nil _ _ _ _ _⟩, ⟨HB.out⟩⟩
 case round =>
  clear H'
  obtain ⟨x5_1, x7_1, rfl, HA, HK1, HO_5, HB⟩ := hrel
  obtain _ | k1 := gk
  · exact absurd HA.out (by simp [r5cyclesFrom.l0])
  have H := HA.out
  clear HA
  simp only [r5cyclesFrom.l0] at H
  by_cases c7 : x7_1 < (l0.length : Int)
  rotate_left
  ·
   rw [if_neg c7] at H
   have c7b0 : decide (x7_1 < (l0.length : Int)) = false := qp c7
   clear c7
   obtain rfl := qr H
   go_wp2
   go_ret
   exact ⟨_, by first | rfl | (simp [errW_none, errW_some] <;> rfl) | (simp only [← hji3]; first | rfl | (simp [errW_none, errW_some] <;> rfl)) | (simp [*, errW_none, errW_some] <;> rfl), by exact HO_5.out, HB.out⟩
  rw [if_pos c7] at H
  have c7b0 : decide (x7_1 < (l0.length : Int)) = true := qo c7
  clear c7
  obtain ⟨c8b0, H⟩ := xO H
  obtain ⟨c9b0, H⟩ := xO H
  obtain ⟨c10b0, H⟩ := xO H
  by_cases c11 : (rd (rd_L1 l0 x7_1) (rd l1 (ji3))) = (-1152921504606846976)
  ·
   rw [if_pos c11] at H
   have c11b0 : ((rd (rd_L1 l0 x7_1) (rd l1 (ji3))) == (-1152921504606846976)) = true := beq_iff_eq.mpr c11
   clear c11
   have H' := xA.mk H
   clear H
   have p441 : 0 ≤ (x7_1 : Int) := qn (by assumption)
   have q441 : x7_1 < (l0.length : Int) := qn (by assumption)
   obtain ⟨ad441, A441_0, c441_0, e441, hx441_0, hl441_0, hi441_0⟩ := at_L1 HR0.out x7_1 p441 q441
   cases e441
   replace hx441_0 := (HB.out.cell (World.block_lt_of_cell? w _ hx441_0)).trans hx441_0
   have HR441_0 := xA.mk hi441_0
   have HC441_0 := xA.mk hl441_0
   clear hi441_0 hl441_0
   replace p441 := eq_true p441
   replace q441 := eq_true q441
   have p442 : 0 ≤ ((rd l1 (ji3)) : Int) := qn (by assumption)
   have q442 : (rd l1 (ji3)) < ((rd_L1 l0 x7_1).length : Int) := qn (by assumption)
   obtain ⟨ad442, e442, hx442_0⟩ := Kd.xU HR441_0.out (rd l1 (ji3)) p442 q442
   cases e442
   replace hx442_0 := (HB.out.cell (World.block_lt_of_cell? w _ hx442_0)).trans hx442_0
   replace p442 := eq_true p442
   replace q442 := eq_true q442
   go_wp2
   go_roundg k1
   case measure => have := HK1.out; omega
   case rel => exact ⟨(x5_1), (wrap64 (x7_1 + 1)), rfl, H', ⟨by have := HK1.out; omega⟩, ⟨by exact HO_5.out⟩, ⟨HB.out⟩⟩
  rw [if_neg c11] at H
  have c11b0 : ((rd (rd_L1 l0 x7_1) (rd l1 (ji3))) == (-1152921504606846976)) = false := jb c11
  obtain ⟨c12, H⟩ := yD H
  have LMc12 := xA.mk c12
  clear c12
  obtain ⟨y443, hy443⟩ : ∃ y_ : List Int, y_ = (([] : List Int) ++ l1) := ⟨_, rfl⟩
  replace H : (if 0 < (l1.length : Int) then (if x7_1 = (rd l1 0) then (if x5_1.length < 5864062014805 then (r5cyclesFrom.l0 k1 l0 l1 (x5_1 ++ [y443]) (rd l1 (ji3)) (wrap64 (x7_1 + 1))) else (none)) else ((r5has.f k1 l1 x7_1).bind fun t450 => (if t450 = true then (r5cyclesFrom.l0 k1 l0 l1 x5_1 (rd l1 (ji3)) (wrap64 (x7_1 + 1))) else (if y443.length < 17592186044416 then ((r5cyclesFrom.f k1 l0 (y443 ++ [x7_1])).bind fun t454 => (if x5_1.length + t454.length < 5864062014805 then (r5cyclesFrom.l0 k1 l0 l1 (x5_1 ++ t454) (rd l1 (ji3)) (wrap64 (x7_1 + 1))) else (none))) else (none))))) else (none)) = some r := by rw [hy443]; exact H
  have Ny443 := xA.mk hy443
  clear hy443
  obtain ⟨c13b0, H⟩ := xO H
  by_cases c14 : x7_1 = (rd l1 0)
  ·
   rw [if_pos c14] at H
   have c14b0 : (x7_1 == (rd l1 0)) = true := beq_iff_eq.mpr c14
   clear c14
   obtain ⟨c15, H⟩ := yD H
   have LMc15 := xA.mk c15
   clear c15
   obtain ⟨y447, hy447⟩ : ∃ y_ : List (List Int), y_ = (x5_1 ++ [y443]) := ⟨_, rfl⟩
   replace H : (r5cyclesFrom.l0 k1 l0 l1 y447 (rd l1 (ji3)) (wrap64 (x7_1 + 1))) = some r := by rw [hy447]; exact H
   have Ny447 := xA.mk hy447
   clear hy447
   have H' := xA.mk H
   clear H
   have p441 : 0 ≤ (x7_1 : Int) := qn (by assumption)
   have q441 : x7_1 < (l0.length : Int) := qn (by assumption)
   obtain ⟨ad441, A441_0, c441_0, e441, hx441_0, hl441_0, hi441_0⟩ := at_L1 HR0.out x7_1 p441 q441
   cases e441
   replace hx441_0 := (HB.out.cell (World.block_lt_of_cell? w _ hx441_0)).trans hx441_0
   have HR441_0 := xA.mk hi441_0
   have HC441_0 := xA.mk hl441_0
   clear hi441_0 hl441_0
   replace p441 := eq_true p441
   replace q441 := eq_true q441
   have p442 : 0 ≤ ((rd l1 (ji3)) : Int) := qn (by assumption)
   have q442 : (rd l1 (ji3)) < ((rd_L1 l0 x7_1).length : Int) := qn (by assumption)
   obtain ⟨ad442, e442, hx442_0⟩ := Kd.xU HR441_0.out (rd l1 (ji3)) p442 q442
   cases e442
   replace hx442_0 := (HB.out.cell (World.block_lt_of_cell? w _ hx442_0)).trans hx442_0
   replace p442 := eq_true p442
   replace q442 := eq_true q442
   go_wp2_with (first | ((with_reducible refine gate_builtin (b := .append) (xs := #[.tmp 32, .tmp 33]) rfl ?_); at_builtin; refine Kd.R_append_rows (Kd.int .i64) (w0 := w) w.heap.size rfl (.tmp 32) (.tmp 33) 26 3 (.int .i64 0) 8 rfl Try.underlying26 info3 rfl (by decide) (by omega) (.slice none 0 0) ([] : List Int) l1 _ _ _ (fun k_ => (w.heap.size ≤ k_)) (fun _ => False) rfl rfl ?aO ?aR (fun _ _ h => h) (fun _ h => h.elim) ?aF ?aB ?aS ?aL ?_; (case aR => repeat (first | exact (Kd.xW HR1.out HB.out))); (case aB => exact (HB.out)); (case aF => exact (fun k_ hk => (Nat.le_trans (xB (HB.out)) hk))); (case aO => exact ((Kd.R_nil _ _ _ _ (fun k_ => (w.heap.size ≤ k_))))); (case aS => exact (xB (HB.out))); (case aL => have := LMc12.out; omega); intro v444 w16 ho hb hg hat; rw [← Ny443.out] at ho; replace HO_5 := xA.mk (Kd.N_afterv (Kd.N_apart_nil (by exact HO_5.out)) hg hat); replace HB := xA.mk (hb); have HO445 := xA.mk (ho); clear ho hb hg hat; have p446 : 0 ≤ (0 : Int) := (by omega); have q446 : 0 < (l1.length : Int) := qn (by assumption); obtain ⟨ad446, e446, hx446_0⟩ := Kd.xU HR1.out 0 p446 q446; obtain rfl : ad439 = ad446 := (by injection e446); have qi446 : (0 < l1.length) = True := eq_true (by omega); (try rw [show ((0 : Int)).toNat = 0 from rfl] at hx446_0); (try rw [Addr.add_zero'] at hx446_0); replace hx446_0 := (HB.out.cell (World.block_lt_of_cell? w _ hx446_0)).trans hx446_0; replace p446 := eq_true p446; replace q446 := eq_true q446; obtain ⟨Ao18, co18, eo18⟩ := Kd.R_slice HO445.out; subst eo18) | ((with_reducible refine gate_builtin (b := .append) (xs := #[.tmp 40, .tmp 42]) rfl ?_); at_builtin; refine Kd.N_append (Kd.slice 3 (Kd.int .i64)) (w0 := w) w.heap.size rfl (.tmp 40) (.tmp 42) 22 26 (.slice none 0 0) 24 rfl Try.underlying22 info26 rfl (by decide) (by omega) u5 x5_1 y443 [.slice Ao18 y443.length co18] (fun k_ => (w.heap.size ≤ k_)) (fun k_ => ((fun k_ => (w.heap.size ≤ k_))) k_ ∧ some k_ ≠ (u5 : Value).ownBlock) rfl rfl ?aP (fun _ hk => hk) ?aF ?aO ?aB ?aS ?aL ?_; (case aP => exact (Kd.FK_slice_mk (Kd.R_reads' (Kd.R_mono (ok' := (fun k_ => ((fun k_ => (w.heap.size ≤ k_))) k_ ∧ some k_ ≠ (u5 : Value).ownBlock)) (Kd.R_apart' (HO445.out) (Kd.N_typed HO_5.out) (by decide)) (fun k_ hk => ⟨hk.1, hk.2⟩))).2.1 (Kd.R_F (Kd.R_mono (ok' := (fun k_ => ((fun k_ => (w.heap.size ≤ k_))) k_ ∧ some k_ ≠ (u5 : Value).ownBlock)) (Kd.R_apart' (HO445.out) (Kd.N_typed HO_5.out) (by decide)) (fun k_ hk => ⟨hk.1, hk.2⟩))))); (case aB => exact (HB.out)); (case aF => exact (fun k_ hk => (Nat.le_trans (xB (HB.out)) hk))); (case aO => exact (by exact Kd.N_mono HO_5.out (fun _ hk => hk.1))); (case aS => exact (xB (HB.out))); (case aL => have := LMc15.out; omega); intro v448 w17 ho hb hg hat; rw [← Ny447.out] at ho; have n0_ := xA.mk (hb); have n1_ := xA.mk (ho); clear HB; clear HO_5; clear HO445; have HB := n0_; have HO449 := n1_; clear n0_ n1_; clear ho hb hg hat))
   go_roundg k1
   case measure => have := HK1.out; omega
   case rel => exact ⟨(y447), (wrap64 (x7_1 + 1)), rfl, H', ⟨by have := HK1.out; omega⟩, ⟨by exact HO449.out⟩, ⟨HB.out⟩⟩
  rw [if_neg c14] at H
  have c14b0 : (x7_1 == (rd l1 0)) = false := jb c14
  replace H := qq H
  obtain ⟨t450, A190, H⟩ := H
  replace H : (if t450 = true then (r5cyclesFrom.l0 k1 l0 l1 x5_1 (rd l1 (ji3)) (wrap64 (x7_1 + 1))) else (if y443.length < 17592186044416 then ((r5cyclesFrom.f k1 l0 (y443 ++ [x7_1])).bind fun t454 => (if x5_1.length + t454.length < 5864062014805 then (r5cyclesFrom.l0 k1 l0 l1 (x5_1 ++ t454) (rd l1 (ji3)) (wrap64 (x7_1 + 1))) else (none))) else (none))) = some r := H
  have A19 := xA.mk A190
  clear A190
  by_cases c20 : t450 = true
  ·
   subst c20
   have H1 : (r5cyclesFrom.l0 k1 l0 l1 x5_1 (rd l1 (ji3)) (wrap64 (x7_1 + 1))) = some r := by rw [if_pos rfl] at H; exact H
   clear H
   have H := H1
   clear H1
   have H' := xA.mk H
   clear H
   have p441 : 0 ≤ (x7_1 : Int) := qn (by assumption)
   have q441 : x7_1 < (l0.length : Int) := qn (by assumption)
   obtain ⟨ad441, A441_0, c441_0, e441, hx441_0, hl441_0, hi441_0⟩ := at_L1 HR0.out x7_1 p441 q441
   cases e441
   replace hx441_0 := (HB.out.cell (World.block_lt_of_cell? w _ hx441_0)).trans hx441_0
   have HR441_0 := xA.mk hi441_0
   have HC441_0 := xA.mk hl441_0
   clear hi441_0 hl441_0
   replace p441 := eq_true p441
   replace q441 := eq_true q441
   have p442 : 0 ≤ ((rd l1 (ji3)) : Int) := qn (by assumption)
   have q442 : (rd l1 (ji3)) < ((rd_L1 l0 x7_1).length : Int) := qn (by assumption)
   obtain ⟨ad442, e442, hx442_0⟩ := Kd.xU HR441_0.out (rd l1 (ji3)) p442 q442
   cases e442
   replace hx442_0 := (HB.out.cell (World.block_lt_of_cell? w _ hx442_0)).trans hx442_0
   replace p442 := eq_true p442
   replace q442 := eq_true q442
   go_wp2_with (first | ((with_reducible refine gate_builtin (b := .append) (xs := #[.tmp 32, .tmp 33]) rfl ?_); at_builtin; refine Kd.R_append_rows (Kd.int .i64) (w0 := w) w.heap.size rfl (.tmp 32) (.tmp 33) 26 3 (.int .i64 0) 8 rfl Try.underlying26 info3 rfl (by decide) (by omega) (.slice none 0 0) ([] : List Int) l1 _ _ _ (fun k_ => (w.heap.size ≤ k_)) (fun _ => False) rfl rfl ?aO ?aR (fun _ _ h => h) (fun _ h => h.elim) ?aF ?aB ?aS ?aL ?_; (case aR => repeat (first | exact (Kd.xW HR1.out HB.out))); (case aB => exact (HB.out)); (case aF => exact (fun k_ hk => (Nat.le_trans (xB (HB.out)) hk))); (case aO => exact ((Kd.R_nil _ _ _ _ (fun k_ => (w.heap.size ≤ k_))))); (case aS => exact (xB (HB.out))); (case aL => have := LMc12.out; omega); intro v444 w21 ho hb hg hat; rw [← Ny443.out] at ho; replace HO_5 := xA.mk (Kd.N_afterv (Kd.N_apart_nil (by exact HO_5.out)) hg hat); replace HB := xA.mk (hb); have HO445 := xA.mk (ho); clear ho hb hg hat; have p446 : 0 ≤ (0 : Int) := (by omega); have q446 : 0 < (l1.length : Int) := qn (by assumption); obtain ⟨ad446, e446, hx446_0⟩ := Kd.xU HR1.out 0 p446 q446; obtain rfl : ad439 = ad446 := (by injection e446); have qi446 : (0 < l1.length) = True := eq_true (by omega); (try rw [show ((0 : Int)).toNat = 0 from rfl] at hx446_0); (try rw [Addr.add_zero'] at hx446_0); replace hx446_0 := (HB.out.cell (World.block_lt_of_cell? w _ hx446_0)).trans hx446_0; replace p446 := eq_true p446; replace q446 := eq_true q446) | ((with_reducible refine xG (f := 85) rfl ?_); refine xP (some 46) rfl rfl Try.func85 (by kernel_rfl) rfl #[.slice (some ad439) l1.length c1, .int .i64 x7_1] rfl qd ?_; (with_reducible refine (r5has.calls k1 _ _ l1 x7_1 true _ ?side1 ?side2 A19.out).mono ?_); (case side1 => repeat (first | exact (Kd.xW HR1.out HB.out))); (case side2 => exact HC1.out); rintro e w' ⟨rfl, ⟨nd, rfl⟩⟩; refine ⟨_, rfl, ?_⟩))
   go_roundg k1
   case measure => have := HK1.out; omega
   case rel => exact ⟨(x5_1), (wrap64 (x7_1 + 1)), rfl, H', ⟨by have := HK1.out; omega⟩, ⟨by (with_reducible repeat (first | apply Kd.N_alloc | apply Kd.N_drewN | apply Kd.N_drew)); exact Kd.N_mono HO_5.out (fun _ hk => hk.1)⟩, ⟨qb⟩⟩
  replace c20 := Bool.eq_false_iff.mpr c20
  subst c20
  have H1 : (if y443.length < 17592186044416 then ((r5cyclesFrom.f k1 l0 (y443 ++ [x7_1])).bind fun t454 => (if x5_1.length + t454.length < 5864062014805 then (r5cyclesFrom.l0 k1 l0 l1 (x5_1 ++ t454) (rd l1 (ji3)) (wrap64 (x7_1 + 1))) else (none))) else (none)) = some r := by rw [if_neg (show ¬ (false = true) by decide)] at H; exact H
  clear H
  have H := H1
  clear H1
  obtain ⟨c22, H⟩ := yD H
  have LMc22 := xA.mk c22
  clear c22
  obtain ⟨y451, hy451⟩ : ∃ y_ : List Int, y_ = (y443 ++ [x7_1]) := ⟨_, rfl⟩
  replace H : ((r5cyclesFrom.f k1 l0 y451).bind fun t454 => (if x5_1.length + t454.length < 5864062014805 then (r5cyclesFrom.l0 k1 l0 l1 (x5_1 ++ t454) (rd l1 (ji3)) (wrap64 (x7_1 + 1))) else (none))) = some r := by rw [hy451]; exact H
  have Ny451 := xA.mk hy451
  clear hy451
  replace H := qq H
  obtain ⟨t454, A230, H⟩ := H
  replace H : (if x5_1.length + t454.length < 5864062014805 then (r5cyclesFrom.l0 k1 l0 l1 (x5_1 ++ t454) (rd l1 (ji3)) (wrap64 (x7_1 + 1))) else (none)) = some r := H
  have A23 := xA.mk A230
  clear A230
  obtain ⟨c24, H⟩ := yD H
  have LMc24 := xA.mk c24
  clear c24
  obtain ⟨y457, hy457⟩ : ∃ y_ : List (List Int), y_ = (x5_1 ++ t454) := ⟨_, rfl⟩
  replace H : (r5cyclesFrom.l0 k1 l0 l1 y457 (rd l1 (ji3)) (wrap64 (x7_1 + 1))) = some r := by first | (rw [hy457]; with_reducible exact H) | (have H2_ := (Option.bind_some _ _).symm.trans H; rw [hy457]; with_reducible exact H2_) | (have H2_ := (Option.bind_some _ _).symm.trans H; with_reducible exact H2_) | with_reducible exact H | (rw [hy457]; exact H) | exact H
  have Ny457 := xA.mk hy457
  clear hy457
  have H' := xA.mk H
  clear H
  have p441 : 0 ≤ (x7_1 : Int) := qn (by first | (with_reducible assumption) | assumption)
  have q441 : x7_1 < (l0.length : Int) := qn (by first | (with_reducible assumption) | assumption)
  obtain ⟨ad441, A441_0, c441_0, e441, hx441_0, hl441_0, hi441_0⟩ := at_L1 HR0.out x7_1 p441 q441
  cases e441
  replace hx441_0 := (HB.out.cell (World.block_lt_of_cell? w _ hx441_0)).trans hx441_0
  have HR441_0 := xA.mk hi441_0
  have HC441_0 := xA.mk hl441_0
  clear hi441_0 hl441_0
  replace p441 := eq_true p441
  replace q441 := eq_true q441
  have p442 : 0 ≤ ((rd l1 (ji3)) : Int) := qn (by first | (with_reducible assumption) | assumption)
  have q442 : (rd l1 (ji3)) < ((rd_L1 l0 x7_1).length : Int) := qn (by first | (with_reducible assumption) | assumption)
  obtain ⟨ad442, e442, hx442_0⟩ := Kd.xU HR441_0.out (rd l1 (ji3)) p442 q442
  cases e442
  replace hx442_0 := (HB.out.cell (World.block_lt_of_cell? w _ hx442_0)).trans hx442_0
  replace p442 := eq_true p442
  replace q442 := eq_true q442
  go_wp2_with (first | ((with_reducible refine gate_builtin (b := .append) (xs := #[.tmp 32, .tmp 33]) rfl ?_); at_builtin; refine Kd.R_append_rows (Kd.int .i64) (w0 := w) w.heap.size rfl (.tmp 32) (.tmp 33) 26 3 (.int .i64 0) 8 rfl Try.underlying26 info3 rfl (by decide) (by omega) (.slice none 0 0) ([] : List Int) l1 _ _ _ (fun k_ => (w.heap.size ≤ k_)) (fun _ => False) rfl rfl ?aO ?aR (fun _ _ h => h) (fun _ h => h.elim) ?aF ?aB ?aS ?aL ?_; (case aR => exact qm (Kd.xW HR1.out HB.out)); (case aB => exact qa); (case aF => exact (fun k_ hk => (Nat.le_trans (xB qa) hk))); (case aO => exact ((Kd.R_nil _ _ _ _ (fun k_ => (w.heap.size ≤ k_))))); (case aS => exact (xB qa)); (case aL => have := LMc12.out; omega); intro v444 w25 ho hb hg hat; rw [← Ny443.out] at ho; replace HO_5 := xA.mk (Kd.N_afterv (Kd.N_apart_nil (qk HO_5.out)) hg hat); replace HB := xA.mk (hb); have HO445 := xA.mk (ho); clear ho hb hg hat; have p446 : 0 ≤ (0 : Int) := (by omega); have q446 : 0 < (l1.length : Int) := qn (by first | (with_reducible assumption) | assumption); obtain ⟨ad446, e446, hx446_0⟩ := Kd.xU HR1.out 0 p446 q446; obtain rfl : ad439 = ad446 := (by injection e446); have qi446 : (0 < l1.length) = True := eq_true (by omega); (try rw [show ((0 : Int)).toNat = 0 from rfl] at hx446_0); (try rw [Addr.add_zero'] at hx446_0); replace hx446_0 := (HB.out.cell (World.block_lt_of_cell? w _ hx446_0)).trans hx446_0; replace p446 := eq_true p446; replace q446 := eq_true q446) | ((with_reducible refine xG (f := 85) rfl ?_); refine xP (some 46) rfl rfl Try.func85 (by kernel_rfl) rfl #[.slice (some ad439) l1.length c1, .int .i64 x7_1] rfl qc ?_; (with_reducible refine (r5has.calls k1 _ _ l1 x7_1 false _ ?side1 ?side2 A19.out).mono ?_); (case side1 => exact qm (Kd.xW HR1.out HB.out)); (case side2 => exact HC1.out); rintro e w' ⟨rfl, ⟨nd, rfl⟩⟩; refine ⟨_, rfl, ?_⟩) | ((with_reducible refine gate_builtin (b := .append) (xs := #[.tmp 50, .tmp 52]) rfl ?_); at_builtin; refine Kd.R_append (Kd.int .i64) (w0 := w) w.heap.size rfl (.tmp 50) (.tmp 52) 26 3 (.int .i64 0) 8 rfl Try.underlying26 info3 rfl (by decide) (by omega) v444 y443 x7_1 [.int .i64 x7_1] (fun k_ => (w.heap.size ≤ k_)) (fun _ => False) rfl rfl ?aP (fun _ hk => hk.elim) ?aF ?aO ?aB ?aS ?aL ?_; (case aP => exact rfl); (case aB => exact qa); (case aF => exact (fun k_ hk => (Nat.le_trans (xB qa) hk))); (case aO => exact (qi HO445.out)); (case aS => exact (xB qa)); (case aL => have := LMc22.out; omega); intro v452 w26 ho hb hg hat; rw [← Ny451.out] at ho; have n0_ := xA.mk (Kd.N_afterv (ok := (fun k_ => (w.heap.size ≤ k_))) (qk HO_5.out) hg hat); have n1_ := xA.mk (hb); have n2_ := xA.mk (ho); clear HO_5; clear HB; clear HO445; have HO_5 := n0_; have HB := n1_; have HO453 := n2_; clear n0_ n1_ n2_; clear ho hb hg hat; obtain ⟨Ao27, co27, eo27⟩ := Kd.R_slice HO453.out; subst eo27) | ((with_reducible refine xG (f := 100) rfl ?_); refine xP (some 54) rfl rfl Try.func100 (by kernel_rfl) rfl #[.slice (some ad441) l0.length c0, .slice Ao27 y451.length co27] rfl qc ?_; (with_reducible refine (ih k1 (by have := HK1.out; omega) _ _ l0 _ _ y451 t454 _ ?side1 ?side2 ?side3 ?side4 A23.out).mono ?_); (case side1 => exact qm (Kd.xW HR0.out HB.out)); (case side2 => exact HC0.out); (case side3 => exact qm (Kd.R_reads' HO453.out).2.2); (case side4 => exact (Kd.R_reads' HO453.out).2.1); rintro e w28 ⟨v455, rfl, ho0, hb⟩; refine ⟨_, rfl, ?_⟩; have HO456 := xA.mk (Kd.N_lower (Kd.N_mono (ok' := fun k_ => (w.heap.size ≤ k_) ∧ some k_ ≠ (u5 : Value).ownBlock ∧ some k_ ≠ (.slice Ao27 y451.length co27 : Value).ownBlock) ho0 (fun k_ hk_ => ⟨(Nat.le_trans (xB qa) hk_), (Kd.fresh' (Kd.N_lt (qk HO_5.out)) k_ hk_), (Kd.fresh' (Kd.R_lt (qi HO453.out)) k_ hk_)⟩)) (xB qa)); replace HO_5 := xA.mk (Kd.N_elder' (qk HO_5.out) (Kd.N_base ho0) hb); replace HO453 := xA.mk (Kd.R_below (qi HO453.out) hb); replace HB := xA.mk (xE qa hb); (try clear hb); (try clear hb2); (try clear hk); (try clear hi); (try clear ho0); obtain ⟨Ao30, co30, eo30⟩ := Kd.N_slice HO456.out; subst eo30) | ((with_reducible refine gate_builtin (b := .append) (xs := #[.tmp 48, .tmp 54]) rfl ?_); at_builtin; refine Kd.N_append_rows (Kd.slice 3 (Kd.int .i64)) (w0 := w) w.heap.size rfl (.tmp 48) (.tmp 54) 22 26 (.slice none 0 0) 24 rfl Try.underlying22 info26 rfl (by decide) (by omega) u5 x5_1 t454 _ _ _ (fun k_ => (w.heap.size ≤ k_) ∧ some k_ ≠ (.slice Ao27 y451.length co27 : Value).ownBlock) (fun k_ => ((fun k_ => (w.heap.size ≤ k_) ∧ some k_ ≠ (.slice Ao27 y451.length co27 : Value).ownBlock)) k_ ∧ some k_ ≠ (u5 : Value).ownBlock) rfl rfl ?aO ?aR (fun _ hk => hk) ?aF ?aB ?aS ?aL ?_; (case aR => exact (by skip; exact Kd.N_F (Kd.N_mono (ok' := (fun k_ => ((fun k_ => (w.heap.size ≤ k_) ∧ some k_ ≠ (.slice Ao27 y451.length co27 : Value).ownBlock)) k_ ∧ some k_ ≠ (u5 : Value).ownBlock)) (HO456.out) (fun k_ hk => ⟨⟨hk.1, hk.2.2⟩, hk.2.1⟩)))); (case aB => exact qa); (case aF => exact (fun k_ hk => ⟨(Nat.le_trans (xB qa) hk), Kd.fresh' (Kd.R_lt (qi HO453.out)) k_ hk⟩)); (case aO => exact (by (with_reducible repeat (first | apply Kd.N_alloc | apply Kd.N_drewN | apply Kd.N_drew)); exact Kd.N_mono HO_5.out (fun _ hk => ⟨hk.1.1, hk.1.2⟩))); (case aS => exact (xB qa)); (case aL => have := LMc24.out; omega); intro v458 w29 ho hb hg hat; rw [← Ny457.out] at ho; have n0_ := xA.mk (Kd.R_over' (qi HO453.out) (Kd.N_typed (qk HO_5.out)) (by decide) hg); have n1_ := xA.mk (Kd.N_afterv (ok := (fun k_ => (w.heap.size ≤ k_) ∧ some k_ ≠ (.slice Ao27 y451.length co27 : Value).ownBlock)) (by (with_reducible repeat (first | apply Kd.N_alloc | apply Kd.N_drewN | apply Kd.N_drew)); exact Kd.N_mono HO456.out (fun _ hk => ⟨⟨hk.1, hk.2.2⟩, hk.2.1⟩)) hg hat); have n2_ := xA.mk (hb); have n3_ := xA.mk (ho); clear HO453; clear HO456; clear HB; clear HO_5; have HO453 := n0_; have HO456 := n1_; have HB := n2_; have HO459 := n3_; clear n0_ n1_ n2_ n3_; clear ho hb hg hat))
  go_roundg k1
  case measure => have := HK1.out; omega
  case rel => exact ⟨(y457), (wrap64 (x7_1 + 1)), qf, H', ⟨by have := HK1.out; omega⟩, ⟨by (with_reducible repeat (first | apply Kd.N_alloc | apply Kd.N_drewN | apply Kd.N_drew)); exact Kd.N_mono HO459.out (fun _ hk => hk.1)⟩, ⟨qa⟩⟩
def r5Cycles.l0 : Nat → List (List Int) → List (List Int) → Int → Option ((List (List Int)))
 | 0, _, _, _ => none
 | k + 1, x0, x3, x4 => if x4 < (x0.length : Int) then ((r5cyclesFrom.f k x0 (([x4] : List Int))).bind fun t463 => (if x3.length + t463.length < 5864062014805 then (r5Cycles.l0 k x0 (x3 ++ t463) (wrap64 (x4 + 1))) else (none))) else (some x3)
def r5Cycles.f (k : Nat) (l0 : List (List Int)) : Option ((List (List Int))) := r5Cycles.l0 k l0 ([] : List (List Int)) 0
set_option maxHeartbeats 8000000 in
set_option maxRecDepth 100000 in
theorem r5Cycles.calls (k : Nat) (A0 : Option Addr) (c0 : Nat) (l0 : List (List Int)) (r : List (List Int)) (w : World) (hr0 : Kd.C (Kd.slice 3 (Kd.int .i64)) w A0 l0.length l0) (hc0 : l0.length ≤ c0) (h : r5Cycles.f k l0 = some r) :
  Calls Try.prog 86 #[.slice A0 l0.length c0] w fun e w' => ∃ v0_ : Value, e = .returned (v0_) ∧ Kd.N (Kd.slice 3 (Kd.int .i64)) 26 w' w.heap.size (fun k_ => (w.heap.size ≤ k_)) v0_ r ∧ Below w.heap.size w w' := by
 have HR0 := xA.mk hr0
 have HC0 := xA.mk hc0
 clear hr0 hc0
 have HB := xA.mk (Below.refl w.heap.size w)
 have H : (r5Cycles.l0 k l0 ([] : List (List Int)) 0) = some r := h
 clear h
 have H' := xA.mk H
 clear H
 go_enter Try.func86, Try.ntmps86
 go_wp2
 go_loopg [3, 4] k (fun kq v3 v4 w' => ∃ (x3_1 : List (List Int)) (x4_1 : Int), v4 = .int .i64 x4_1 ∧ xA (r5Cycles.l0 kq l0 x3_1 x4_1 = some r) ∧ xA (kq ≤ k) ∧ xA (Kd.N (Kd.slice 3 (Kd.int .i64)) 26 w' w.heap.size (fun k_ => (w.heap.size ≤ k_)) v3 x3_1) ∧ xA (Below w.heap.size w w'))
 case atStart => exact ⟨(([] : List (List Int))), (0), rfl, H', ⟨Nat.le_refl _⟩, ⟨by first | exact Kd.S_nil _ _ _ _ _ | exact Kd.N_nil _ _ _ _ _ | exact Kd.V_nil _ _ _ _ _ | exact Kd.Q_nil _ _ _ _ _ | exact Kd.R_nil _ _ _ _ _⟩, ⟨HB.out⟩⟩
 case round =>
  clear H'
  obtain ⟨x3_1, x4_1, rfl, HA, HK1, HO_3, HB⟩ := hrel
  obtain _ | k1 := gk
  · exact absurd HA.out (by simp [r5Cycles.l0])
  have H := HA.out
  clear HA
  simp only [r5Cycles.l0] at H
  by_cases c2 : x4_1 < (l0.length : Int)
  rotate_left
  ·
   rw [if_neg c2] at H
   have c2b0 : decide (x4_1 < (l0.length : Int)) = false := qp c2
   clear c2
   obtain rfl := qr H
   go_wp2
   go_ret
   exact ⟨_, rfl, by exact HO_3.out, HB.out⟩
  rw [if_pos c2] at H
  have c2b0 : decide (x4_1 < (l0.length : Int)) = true := qo c2
  clear c2
  obtain ⟨y460, hy460⟩ : ∃ y_ : List Int, y_ = (([x4_1] : List Int)) := ⟨_, rfl⟩
  replace H : ((r5cyclesFrom.f k1 l0 y460).bind fun t463 => (if x3_1.length + t463.length < 5864062014805 then (r5Cycles.l0 k1 l0 (x3_1 ++ t463) (wrap64 (x4_1 + 1))) else (none))) = some r := by rw [hy460]; exact H
  have Ny460 := xA.mk hy460
  clear hy460
  replace H := qq H
  obtain ⟨t463, A30, H⟩ := H
  replace H : (if x3_1.length + t463.length < 5864062014805 then (r5Cycles.l0 k1 l0 (x3_1 ++ t463) (wrap64 (x4_1 + 1))) else (none)) = some r := H
  have A3 := xA.mk A30
  clear A30
  obtain ⟨c4, H⟩ := yD H
  have LMc4 := xA.mk c4
  clear c4
  obtain ⟨y466, hy466⟩ : ∃ y_ : List (List Int), y_ = (x3_1 ++ t463) := ⟨_, rfl⟩
  replace H : (r5Cycles.l0 k1 l0 y466 (wrap64 (x4_1 + 1))) = some r := by rw [hy466]; exact H
  have Ny466 := xA.mk hy466
  clear hy466
  have H' := xA.mk H
  clear H
  go_wp2_with (first | ((with_reducible refine xX (N := 14) rfl ?_); refine Kd.R_lit (Kd.int .i64) _ 3 ?hg (N := 14) ?hd (xs := ([x4_1] : List Int)) (inner := [.int .i64 x4_1]) (ok := fun _ => True) (okp := fun _ => True) ?hr ?hp (fun _ hk => hk) trivial (Below.refl _ _) (Nat.le_refl _) (by simp) ?_; (case hd => rfl); (case hg => rfl); (case hr => go_simp); (case hp => exact (Reps.one (show Kd.M (Kd.int .i64) _ _ _ x4_1 [.int .i64 x4_1] from rfl) (Reps.none _ _))); intro v461 w5 ho6 hb hg_ hnew_; clear hg_ hnew_; (first | rw [← Ny460.out] at ho6 | (simp only [Int.reduceToNat] at ho6; rw [← Ny460.out] at ho6)); replace HO_3 := xA.mk (Kd.N_elder' (by exact HO_3.out) (Kd.R_base ho6) hb); have HO462 := xA.mk (Kd.R_lower (Kd.R_newM (M := fun k_ => (w.heap.size ≤ k_)) ho6 (xB (HB.out)) (fun k_ h_ => h_)) (xB (HB.out))); replace HB := xA.mk (xE (HB.out) hb); clear hb ho6; obtain ⟨Ao7, co7, eo7⟩ := Kd.R_slice HO462.out; subst eo7) | ((with_reducible refine xG (f := 100) rfl ?_); refine xP (some 15) rfl rfl Try.func100 (by kernel_rfl) rfl #[.slice A0 l0.length c0, .slice Ao7 y460.length co7] rfl qd ?_; (with_reducible refine (r5cyclesFrom.calls k1 _ _ l0 _ _ y460 t463 _ ?side1 ?side2 ?side3 ?side4 A3.out).mono ?_); (case side1 => repeat (first | exact (Kd.xW HR0.out HB.out))); (case side2 => exact HC0.out); (case side3 => repeat (first | exact (Kd.R_reads' HO462.out).2.2)); (case side4 => exact (Kd.R_reads' HO462.out).2.1); rintro e w8 ⟨v464, rfl, ho0, hb⟩; refine ⟨_, rfl, ?_⟩; have HO465 := xA.mk (Kd.N_lower (Kd.N_mono (ok' := fun k_ => (w.heap.size ≤ k_) ∧ some k_ ≠ (u3 : Value).ownBlock ∧ some k_ ≠ (.slice Ao7 y460.length co7 : Value).ownBlock) ho0 (fun k_ hk_ => ⟨(Nat.le_trans (xB (HB.out)) hk_), (Kd.fresh' (Kd.N_lt (by exact HO_3.out)) k_ hk_), (Kd.fresh' (Kd.R_lt (by exact HO462.out)) k_ hk_)⟩)) (xB (HB.out))); replace HO_3 := xA.mk (Kd.N_elder' (by exact HO_3.out) (Kd.N_base ho0) hb); replace HO462 := xA.mk (Kd.R_below (by exact HO462.out) hb); replace HB := xA.mk (xE (HB.out) hb); obtain ⟨Ao10, co10, eo10⟩ := Kd.N_slice HO465.out; subst eo10) | ((with_reducible refine gate_builtin (b := .append) (xs := #[.tmp 11, .tmp 15]) rfl ?_); at_builtin; refine Kd.N_append_rows (Kd.slice 3 (Kd.int .i64)) (w0 := w) w.heap.size rfl (.tmp 11) (.tmp 15) 22 26 (.slice none 0 0) 24 rfl Try.underlying22 info26 rfl (by decide) (by omega) u3 x3_1 t463 _ _ _ (fun k_ => (w.heap.size ≤ k_) ∧ some k_ ≠ (.slice Ao7 y460.length co7 : Value).ownBlock) (fun k_ => ((fun k_ => (w.heap.size ≤ k_) ∧ some k_ ≠ (.slice Ao7 y460.length co7 : Value).ownBlock)) k_ ∧ some k_ ≠ (u3 : Value).ownBlock) rfl rfl ?aO ?aR (fun _ hk => hk) ?aF ?aB ?aS ?aL ?_; (case aR => exact (by skip; exact Kd.N_F (Kd.N_mono (ok' := (fun k_ => ((fun k_ => (w.heap.size ≤ k_) ∧ some k_ ≠ (.slice Ao7 y460.length co7 : Value).ownBlock)) k_ ∧ some k_ ≠ (u3 : Value).ownBlock)) (HO465.out) (fun k_ hk => ⟨⟨hk.1, hk.2.2⟩, hk.2.1⟩)))); (case aB => exact (HB.out)); (case aF => exact (fun k_ hk => ⟨(Nat.le_trans (xB (HB.out)) hk), Kd.fresh' (Kd.R_lt (by exact HO462.out)) k_ hk⟩)); (case aO => exact (by exact Kd.N_mono HO_3.out (fun _ hk => ⟨hk.1.1, hk.1.2⟩))); (case aS => exact (xB (HB.out))); (case aL => have := LMc4.out; omega); intro v467 w9 ho hb hg hat; rw [← Ny466.out] at ho; have n0_ := xA.mk (Kd.R_over' (by exact HO462.out) (Kd.N_typed (by exact HO_3.out)) (by decide) hg); have n1_ := xA.mk (Kd.N_afterv (ok := (fun k_ => (w.heap.size ≤ k_) ∧ some k_ ≠ (.slice Ao7 y460.length co7 : Value).ownBlock)) (by exact Kd.N_mono HO465.out (fun _ hk => ⟨⟨hk.1, hk.2.2⟩, hk.2.1⟩)) hg hat); have n2_ := xA.mk (hb); have n3_ := xA.mk (ho); clear HO462; clear HO465; clear HB; clear HO_3; have HO462 := n0_; have HO465 := n1_; have HB := n2_; have HO468 := n3_; clear n0_ n1_ n2_ n3_; clear ho hb hg hat))
  go_roundg k1
  case measure => have := HK1.out; omega
  case rel => exact ⟨(y466), (wrap64 (x4_1 + 1)), rfl, H', ⟨by have := HK1.out; omega⟩, ⟨by exact Kd.N_mono HO468.out (fun _ hk => hk.1)⟩, ⟨HB.out⟩⟩
theorem cyclesFrom_some : ∀ k, (∀ l0 l1 r, r5cyclesFrom.f k l0 l1 = some r → ∀ x ∈ r, x ≠ []) ∧ (∀ x0 x1 x5 x6 x7 r, x1 ≠ [] → (∀ x ∈ x5, x ≠ []) → r5cyclesFrom.l0 k x0 x1 x5 x6 x7 = some r → ∀ x ∈ r, x ≠ [])
 | 0 => ⟨fun _ _ _ h => by simp [r5cyclesFrom.f] at h, fun _ _ _ _ _ _ _ _ h => by simp [r5cyclesFrom.l0] at h⟩
 | k + 1 => by
  obtain ⟨ih1, ih2⟩ := cyclesFrom_some k
  have app : ∀ {a b : List (List Int)}, (∀ x ∈ a, x ≠ []) → (∀ x ∈ b, x ≠ []) → ∀ x ∈ a ++ b, x ≠ [] := by
   intro a b ha hb x hx
   rcases List.mem_append.1 hx with h | h
   ·
    exact ha x h
   ·
    exact hb x h
  refine ⟨fun l0 l1 r h => ?_, fun x0 x1 x5 x6 x7 r h1 h5 h => ?_⟩
  ·
   rw [r5cyclesFrom.f] at h
   split at h
   ·
    split at h
    ·
     split at h
     ·
      rename_i hp
      exact ih2 _ _ _ _ _ _ (fun e => by rw [e] at hp; simp at hp) (fun x hx => by cases hx) h
     ·
      cases h
    ·
     cases h
   ·
    cases h
  ·
   rw [r5cyclesFrom.l0] at h
   by_cases c1 : x7 < (x0.length : Int)
   ·
    rw [if_pos c1] at h
    by_cases c2 : 0 ≤ x7
    ·
     rw [if_pos c2] at h
     by_cases c3 : 0 ≤ x6
     ·
      rw [if_pos c3] at h
      by_cases c4 : x6 < ((rd_L1 x0 x7).length : Int)
      ·
       rw [if_pos c4] at h
       by_cases c5 : (rd (rd_L1 x0 x7) x6) = (-1152921504606846976)
       ·
        rw [if_pos c5] at h
        exact ih2 _ _ _ _ _ _ h1 h5 h
       ·
        rw [if_neg c5] at h
        by_cases c6 : ([] : List Int).length + x1.length < 17592186044416
        ·
         rw [if_pos c6, Option.bind_some] at h
         by_cases c7 : 0 < (x1.length : Int)
         ·
          rw [if_pos c7] at h
          by_cases c8 : x7 = (rd x1 0)
          ·
           rw [if_pos c8] at h
           by_cases c9 : x5.length < 5864062014805
           ·
            rw [if_pos c9] at h
            exact ih2 _ _ _ _ _ _ h1 (app h5 (fun x hx => by rw [List.mem_singleton.1 hx]; exact h1)) h
           ·
            rw [if_neg c9] at h; cases h
          ·
           rw [if_neg c8] at h
           obtain ⟨t, _, h⟩ := Option.bind_eq_some_iff.1 h
           by_cases c9 : t = true
           ·
            rw [if_pos c9] at h
            exact ih2 _ _ _ _ _ _ h1 h5 h
           ·
            rw [if_neg c9] at h
            by_cases c10 : (([] : List Int) ++ x1).length < 17592186044416
            ·
             rw [if_pos c10] at h
             obtain ⟨u, hu, h⟩ := Option.bind_eq_some_iff.1 h
             by_cases c11 : x5.length + u.length < 5864062014805
             ·
              rw [if_pos c11] at h
              exact ih2 _ _ _ _ _ _ h1 (app h5 (ih1 _ _ _ hu)) h
             ·
              rw [if_neg c11] at h; cases h
            ·
             rw [if_neg c10] at h; cases h
         ·
          rw [if_neg c7] at h; cases h
        ·
         rw [if_neg c6] at h; cases h
      ·
       rw [if_neg c4] at h; cases h
     ·
      rw [if_neg c3] at h; cases h
    ·
     rw [if_neg c2] at h; cases h
   ·
    rw [if_neg c1] at h
    obtain rfl := qr h
    exact h5
theorem Cycles_l0_some : ∀ k x0 x3 x4 r, (∀ x ∈ x3, x ≠ []) → r5Cycles.l0 k x0 x3 x4 = some r → ∀ x ∈ r, x ≠ []
 | 0, _, _, _, _, _, h => by simp [r5Cycles.l0] at h
 | k + 1, x0, x3, x4, r, h3, h => by
  simp only [r5Cycles.l0] at h
  split at h
  ·
   obtain ⟨t, ht, h⟩ := Option.bind_eq_some_iff.1 h
   split at h
   ·
    refine Cycles_l0_some k _ _ _ _ (fun x hx => ?_) h
    rcases List.mem_append.1 hx with h' | h'
    ·
     exact h3 x h'
    ·
     exact (cyclesFrom_some k).1 _ _ _ ht x h'
   ·
    cases h
  ·
   obtain rfl := qr h
   exact h3
theorem Cycles_row {k : Nat} {l r : List (List Int)} (h : r5Cycles.f k l = some r) (i : Int) (h0 : (0 ≤ i) = True) (h1 : (i < (r.length : Int)) = True) : ¬ rd_L1 r i = [] := by
 replace h0 := of_eq_true h0
 replace h1 := of_eq_true h1
 have hi : i.toNat < r.length := by omega
 have e : rd_L1 r i = r[i.toNat] := by
  show r.getD i.toNat [] = _
  rw [List.getD_eq_getElem?_getD, List.getElem?_eq_getElem hi]
  rfl
 rw [e]
 exact Cycles_l0_some k _ _ _ _ (fun x hx => by cases hx) h _ (List.getElem_mem hi)
def r5weight.l0 : Nat → List (List Int) → List Int → Int → Int → Option (Int)
 | 0, _, _, _, _ => none
 | k + 1, x0, x1, x5, x6 => if x6 < (x1.length : Int) then (if (x1.length : Int) = 0 then (none) else (if 0 ≤ (Int.tmod (wrap64 (x6 + 1)) (x1.length : Int)) then (if (Int.tmod (wrap64 (x6 + 1)) (x1.length : Int)) < (x1.length : Int) then (if 0 ≤ (rd x1 (Int.tmod (wrap64 (x6 + 1)) (x1.length : Int))) then (if (rd x1 (Int.tmod (wrap64 (x6 + 1)) (x1.length : Int))) < (x0.length : Int) then (if 0 ≤ x6 then (if 0 ≤ (rd x1 x6) then (if (rd x1 x6) < ((rd_L1 x0 (rd x1 (Int.tmod (wrap64 (x6 + 1)) (x1.length : Int)))).length : Int) then (r5weight.l0 k x0 x1 (wrap64 (x5 + (rd (rd_L1 x0 (rd x1 (Int.tmod (wrap64 (x6 + 1)) (x1.length : Int)))) (rd x1 x6)))) (wrap64 (x6 + 1))) else (none)) else (none)) else (none)) else (none)) else (none)) else (none)) else (none))) else (some x5)
def r5weight.f (k : Nat) (l0 : List (List Int)) (l1 : List Int) : Option (Int) := r5weight.l0 k l0 l1 0 0
set_option maxHeartbeats 8000000 in
set_option maxRecDepth 100000 in
theorem r5weight.calls (k : Nat) (A0 : Option Addr) (c0 : Nat) (l0 : List (List Int)) (A1 : Option Addr) (c1 : Nat) (l1 : List Int) (r : Int) (w : World) (hr0 : Kd.C (Kd.slice 3 (Kd.int .i64)) w A0 l0.length l0) (hc0 : l0.length ≤ c0) (hr1 : Kd.C (Kd.int .i64) w A1 l1.length l1) (hc1 : l1.length ≤ c1) (h : r5weight.f k l0 l1 = some r) :
  Calls Try.prog 73 #[.slice A0 l0.length c0, .slice A1 l1.length c1] w fun e w' => e = .returned (.int .i64 r) ∧ Drawn0 w w' := by
 have HR0 := xA.mk hr0
 have HC0 := xA.mk hc0
 clear hr0 hc0
 have HR1 := xA.mk hr1
 have HC1 := xA.mk hc1
 clear hr1 hc1
 have H : (r5weight.l0 k l0 l1 0 0) = some r := h
 clear h
 have H' := xA.mk H
 clear H
 go_enter Try.func73, Try.ntmps73
 go_wp2
 go_loopg [5, 6] k (fun kq v5 v6 w' => ∃ (x5_1 : Int) (x6_1 : Int), v5 = .int .i64 x5_1 ∧ v6 = .int .i64 x6_1 ∧ xA (r5weight.l0 kq l0 l1 x5_1 x6_1 = some r) ∧ xA (kq ≤ k) ∧ Drawn0 w w')
 case atStart => exact ⟨(0), (0), rfl, rfl, H', ⟨Nat.le_refl _⟩, qe⟩
 case round =>
  clear H'
  obtain ⟨x5_1, x6_1, rfl, rfl, HA, HK1, ⟨m1, rfl⟩⟩ := hrel
  obtain _ | k1 := gk
  · exact absurd HA.out (by simp [r5weight.l0])
  have H := HA.out
  clear HA
  simp only [r5weight.l0] at H
  by_cases c3 : x6_1 < (l1.length : Int)
  rotate_left
  ·
   rw [if_neg c3] at H
   have c3b0 : decide (x6_1 < (l1.length : Int)) = false := qp c3
   clear c3
   obtain rfl := qr H
   go_wp2
   go_ret
   exact ⟨qf, qe⟩
  rw [if_pos c3] at H
  have c3b0 : decide (x6_1 < (l1.length : Int)) = true := qo c3
  clear c3
  by_cases c4 : (l1.length : Int) = 0
  ·
   rw [if_pos c4] at H
   exact absurd H (by simp)
  rw [if_neg c4] at H
  have c4b0 : ((l1.length : Int) == 0) = false := jb c4
  have c4b2 : ¬ (l1 = []) := fun h_ => c4 (by rw [h_]; rfl)
  obtain ⟨ji5, hji5⟩ : ∃ j_ : Int, (Int.tmod (wrap64 (x6_1 + 1)) (l1.length : Int)) = j_ := ⟨_, rfl⟩
  replace H : (if 0 ≤ (ji5) then (if (ji5) < (l1.length : Int) then (if 0 ≤ (rd l1 (ji5)) then (if (rd l1 (ji5)) < (l0.length : Int) then (if 0 ≤ x6_1 then (if 0 ≤ (rd l1 x6_1) then (if (rd l1 x6_1) < ((rd_L1 l0 (rd l1 (ji5))).length : Int) then (r5weight.l0 k1 l0 l1 (wrap64 (x5_1 + (rd (rd_L1 l0 (rd l1 (ji5))) (rd l1 x6_1)))) (wrap64 (x6_1 + 1))) else (none)) else (none)) else (none)) else (none)) else (none)) else (none)) else (none)) = some r := by first | (rw [hji5] at H; exact H) | (simp only [hji5] at H ⊢; exact H)
  obtain ⟨c6b0, H⟩ := xO H
  obtain ⟨c7b0, H⟩ := xO H
  obtain ⟨c8b0, H⟩ := xO H
  obtain ⟨c9b0, H⟩ := xO H
  obtain ⟨c10b0, H⟩ := xO H
  obtain ⟨c11b0, H⟩ := xO H
  obtain ⟨c12b0, H⟩ := xO H
  have H' := xA.mk H
  clear H
  have p434 : 0 ≤ ((ji5) : Int) := qn (by assumption)
  have q434 : (ji5) < (l1.length : Int) := qn (by assumption)
  obtain ⟨ad434, e434, hx434_0⟩ := Kd.xU HR1.out (ji5) p434 q434
  cases e434
  replace p434 := eq_true p434
  replace q434 := eq_true q434
  have p435 : 0 ≤ ((rd l1 (ji5)) : Int) := qn (by assumption)
  have q435 : (rd l1 (ji5)) < (l0.length : Int) := qn (by assumption)
  obtain ⟨ad435, A435_0, c435_0, e435, hx435_0, hl435_0, hi435_0⟩ := at_L1 HR0.out (rd l1 (ji5)) p435 q435
  cases e435
  have HR435_0 := xA.mk hi435_0
  have HC435_0 := xA.mk hl435_0
  clear hi435_0 hl435_0
  replace p435 := eq_true p435
  replace q435 := eq_true q435
  have p436 : 0 ≤ (x6_1 : Int) := qn (by assumption)
  have q436 : x6_1 < (l1.length : Int) := qn (by assumption)
  obtain ⟨ad436, e436, hx436_0⟩ := Kd.xU HR1.out x6_1 p436 q436
  obtain rfl : ad434 = ad436 := (by injection e436)
  replace p436 := eq_true p436
  replace q436 := eq_true q436
  have p437 : 0 ≤ ((rd l1 x6_1) : Int) := qn (by assumption)
  have q437 : (rd l1 x6_1) < ((rd_L1 l0 (rd l1 (ji5))).length : Int) := qn (by assumption)
  obtain ⟨ad437, e437, hx437_0⟩ := Kd.xU HR435_0.out (rd l1 x6_1) p437 q437
  cases e437
  replace p437 := eq_true p437
  replace q437 := eq_true q437
  go_wp2
  repeat (go_quiet (fail); try go_wp2)
  go_roundg k1
  case measure => have := HK1.out; omega
  case rel => exact ⟨(wrap64 (x5_1 + (rd (rd_L1 l0 (rd l1 (ji5))) (rd l1 x6_1)))), (wrap64 (x6_1 + 1)), (by first | rfl | (simp; done) | (simp only [← hji5] <;> (first | rfl | simp)) | (simp [*]; done)), rfl, H', ⟨by have := HK1.out; omega⟩, qe⟩
mutual
def r5less.l0 : Nat → List Int → List Int → Int → Option (Bool)
 | 0, _, _, _ => none
 | k + 1, x0, x1, x5 => if x5 < (x0.length : Int) then (r5less.j1 k x0 x1 x5 (decide (x5 < (x1.length : Int)))) else (r5less.j1 k x0 x1 x5 false)
def r5less.j1 : Nat → List Int → List Int → Int → Bool → Option (Bool)
 | 0, _, _, _, _ => none
 | k + 1, x0, x1, x5, x15 => if x15 = true then (if 0 ≤ x5 then (if x5 < (x0.length : Int) then (if x5 < (x1.length : Int) then (if (rd x0 x5) = (rd x1 x5) then (r5less.l0 k x0 x1 (wrap64 (x5 + 1))) else (some (decide ((rd x0 x5) < (rd x1 x5))))) else (none)) else (none)) else (none)) else (some (decide ((x0.length : Int) < (x1.length : Int))))
end
def r5less.f (k : Nat) (l0 : List Int) (l1 : List Int) : Option (Bool) := r5less.l0 k l0 l1 0
set_option maxHeartbeats 8000000 in
set_option maxRecDepth 100000 in
theorem r5less.calls (k : Nat) (A0 : Option Addr) (c0 : Nat) (l0 : List Int) (A1 : Option Addr) (c1 : Nat) (l1 : List Int) (r : Bool) (w : World) (hr0 : Kd.C (Kd.int .i64) w A0 l0.length l0) (hc0 : l0.length ≤ c0) (hr1 : Kd.C (Kd.int .i64) w A1 l1.length l1) (hc1 : l1.length ≤ c1) (h : r5less.f k l0 l1 = some r) :
  Calls Try.prog 94 #[.slice A0 l0.length c0, .slice A1 l1.length c1] w fun e w' => e = .returned (.bool r) ∧ Drawn0 w w' := by
 have HR0 := xA.mk hr0
 have HC0 := xA.mk hc0
 clear hr0 hc0
 have HR1 := xA.mk hr1
 have HC1 := xA.mk hc1
 clear hr1 hc1
 have H : (r5less.l0 k l0 l1 0) = some r := h
 clear h
 have H' := xA.mk H
 clear H
 go_enter Try.func94, Try.ntmps94
 go_wp2
 go_loopg [5] k (fun kq v5 w' => ∃ (x5_1 : Int), v5 = .int .i64 x5_1 ∧ xA (r5less.l0 kq l0 l1 x5_1 = some r) ∧ xA (kq ≤ k) ∧ Drawn0 w w')
 case atStart => exact ⟨(0), rfl, H', ⟨Nat.le_refl _⟩, qe⟩
 case round =>
  clear H'
  obtain ⟨x5_1, rfl, HA, HK1, ⟨m1, rfl⟩⟩ := hrel
  obtain _ | k1 := gk
  · exact absurd HA.out (by simp [r5less.l0])
  have H := HA.out
  clear HA
  simp only [r5less.l0] at H
  have HC3 := xA.mk H
  clear H
  go_upto_region 2 with (fail)
  go_cut [15] (fun v15 wc => ∃ (kq : Nat) (x15_2 : Bool), v15 = .bool x15_2 ∧ xA (r5less.j1 kq l0 l1 x5_1 x15_2 = some r) ∧ xA (kq ≤ k1) ∧ Drawn0 w wc)
  case first =>
   have H := HC3.out
   clear HC3
   by_cases c4 : x5_1 < (l0.length : Int)
   rotate_left
   ·
    rw [if_neg c4] at H
    have c4b0 : decide (x5_1 < (l0.length : Int)) = false := qp c4
    clear c4
    (first | rw [c4b0] | skip)
    have H' := xA.mk H
    clear H
    go_wp2
    go_meet
    case rel => exact ⟨_, (false), rfl, H', ⟨by have := HK1.out; first | omega | exact Nat.le_refl _⟩, qe⟩
   rw [if_pos c4] at H
   have c4b0 : decide (x5_1 < (l0.length : Int)) = true := qo c4
   clear c4
   (first | rw [c4b0] | skip)
   have H' := xA.mk H
   clear H
   go_wp2
   go_meet
   case rel => exact ⟨_, (decide (x5_1 < (l1.length : Int))), rfl, H', ⟨by have := HK1.out; first | omega | exact Nat.le_refl _⟩, qe⟩
  case rest =>
   clear HC3
   obtain ⟨kq, x15_2, rfl, HA, HJ2, ⟨mc2, rfl⟩⟩ := hcut
   obtain _ | kj2 := kq
   · exact absurd HA.out (by simp [r5less.j1])
   have H := HA.out
   clear HA
   simp only [r5less.j1] at H
   by_cases c5 : x15_2 = true
   rotate_left
   ·
    replace c5 := Bool.eq_false_iff.mpr c5
    subst c5
    have H1 : (some (decide ((l0.length : Int) < (l1.length : Int)))) = some r := by rw [if_neg (show ¬ (false = true) by decide)] at H; exact H
    clear H
    have H := H1
    clear H1
    obtain rfl := qr H
    go_wp2
    go_ret
    exact ⟨qf, qe⟩
   subst c5
   have H1 : (if 0 ≤ x5_1 then (if x5_1 < (l0.length : Int) then (if x5_1 < (l1.length : Int) then (if (rd l0 x5_1) = (rd l1 x5_1) then (r5less.l0 kj2 l0 l1 (wrap64 (x5_1 + 1))) else (some (decide ((rd l0 x5_1) < (rd l1 x5_1))))) else (none)) else (none)) else (none)) = some r := by rw [if_pos rfl] at H; exact H
   clear H
   have H := H1
   clear H1
   obtain ⟨c6b0, H⟩ := xO H
   obtain ⟨c7b0, H⟩ := xO H
   obtain ⟨c8b0, H⟩ := xO H
   by_cases c9 : (rd l0 x5_1) = (rd l1 x5_1)
   ·
    rw [if_pos c9] at H
    have c9b0 : ((rd l0 x5_1) == (rd l1 x5_1)) = true := beq_iff_eq.mpr c9
    clear c9
    have H' := xA.mk H
    clear H
    have p469 : 0 ≤ (x5_1 : Int) := qn (by assumption)
    have q469 : x5_1 < (l0.length : Int) := qn (by assumption)
    obtain ⟨ad469, e469, hx469_0⟩ := Kd.xU HR0.out x5_1 p469 q469
    cases e469
    replace p469 := eq_true p469
    replace q469 := eq_true q469
    have p470 : 0 ≤ (x5_1 : Int) := qn (by assumption)
    have q470 : x5_1 < (l1.length : Int) := qn (by assumption)
    obtain ⟨ad470, e470, hx470_0⟩ := Kd.xU HR1.out x5_1 p470 q470
    cases e470
    replace p470 := eq_true p470
    replace q470 := eq_true q470
    go_wp2
    repeat (go_quiet (fail); try go_wp2)
    go_roundg kj2
    case measure => have := HK1.out; have := HJ2.out; omega
    case rel => exact ⟨(wrap64 (x5_1 + 1)), rfl, H', ⟨by have := HK1.out; have := HJ2.out; omega⟩, qe⟩
   rw [if_neg c9] at H
   have c9b0 : ((rd l0 x5_1) == (rd l1 x5_1)) = false := jb c9
   obtain rfl := qr H
   have p469 : 0 ≤ (x5_1 : Int) := qn (by assumption)
   have q469 : x5_1 < (l0.length : Int) := qn (by assumption)
   obtain ⟨ad469, e469, hx469_0⟩ := Kd.xU HR0.out x5_1 p469 q469
   cases e469
   replace p469 := eq_true p469
   replace q469 := eq_true q469
   have p470 : 0 ≤ (x5_1 : Int) := qn (by assumption)
   have q470 : x5_1 < (l1.length : Int) := qn (by assumption)
   obtain ⟨ad470, e470, hx470_0⟩ := Kd.xU HR1.out x5_1 p470 q470
   cases e470
   replace p470 := eq_true p470
   replace q470 := eq_true q470
   have p471 : 0 ≤ (x5_1 : Int) := qn (by assumption)
   have q471 : x5_1 < (l0.length : Int) := qn (by assumption)
   obtain ⟨ad471, e471, hx471_0⟩ := Kd.xU HR0.out x5_1 p471 q471
   obtain rfl : ad469 = ad471 := (by injection e471)
   replace p471 := eq_true p471
   replace q471 := eq_true q471
   have p472 : 0 ≤ (x5_1 : Int) := qn (by assumption)
   have q472 : x5_1 < (l1.length : Int) := qn (by assumption)
   obtain ⟨ad472, e472, hx472_0⟩ := Kd.xU HR1.out x5_1 p472 q472
   obtain rfl : ad470 = ad472 := (by injection e472)
   replace p472 := eq_true p472
   replace q472 := eq_true q472
   go_wp2
   repeat (go_quiet (fail); try go_wp2)
   go_ret
   exact ⟨qf, qe⟩
def r5best.l0 : Nat → List (List Int) → List Int → List (List Int) → Int → Option (List Int)
 | 0, _, _, _, _ => none
 | k + 1, x0, x3, x4, x5 => if x5 < (x4.length : Int) then (if 0 ≤ x5 then (if (x3.length : Int) = 0 then (r5best.l0 k x0 (rd_L1 x4 x5) x4 (wrap64 (x5 + 1))) else ((r5weight.f k x0 (rd_L1 x4 x5)).bind fun t477 => ((r5weight.f k x0 x3).bind fun t478 => (if (wrap64 (t477 * (x3.length : Int))) > (wrap64 (t478 * ((rd_L1 x4 x5).length : Int))) then (r5best.l0 k x0 (rd_L1 x4 x5) x4 (wrap64 (x5 + 1))) else (if (wrap64 (t477 * (x3.length : Int))) = (wrap64 (t478 * ((rd_L1 x4 x5).length : Int))) then (if ((rd_L1 x4 x5).length : Int) < (x3.length : Int) then (r5best.l0 k x0 (rd_L1 x4 x5) x4 (wrap64 (x5 + 1))) else (if ((rd_L1 x4 x5).length : Int) = (x3.length : Int) then ((r5less.f k (rd_L1 x4 x5) x3).bind fun t479 => (if t479 = true then (r5best.l0 k x0 (rd_L1 x4 x5) x4 (wrap64 (x5 + 1))) else (r5best.l0 k x0 x3 x4 (wrap64 (x5 + 1))))) else (r5best.l0 k x0 x3 x4 (wrap64 (x5 + 1))))) else (r5best.l0 k x0 x3 x4 (wrap64 (x5 + 1)))))))) else (none)) else (some x3)
def r5best.f (k : Nat) (l0 : List (List Int)) : Option (List Int) := (r5Cycles.f k l0).bind fun t473 => (r5best.l0 k l0 ([] : List Int) t473 0)
set_option maxHeartbeats 8000000 in
set_option maxRecDepth 100000 in
theorem r5best.calls (k : Nat) (A0 : Option Addr) (c0 : Nat) (l0 : List (List Int)) (r : List Int) (w : World) (hr0 : Kd.C (Kd.slice 3 (Kd.int .i64)) w A0 l0.length l0) (hc0 : l0.length ≤ c0) (h : r5best.f k l0 = some r) :
  Calls Try.prog 72 #[.slice A0 l0.length c0] w fun e w' => ∃ v0_ : Value, e = .returned (v0_) ∧ Kd.V (Kd.int .i64) 3 w' w.heap.size (fun k_ => (w.heap.size ≤ k_)) v0_ r ∧ (r = [] → v0_ = .slice none 0 0) ∧ Below w.heap.size w w' := by
 have HR0 := xA.mk hr0
 have HC0 := xA.mk hc0
 clear hr0 hc0
 have HB := xA.mk (Below.refl w.heap.size w)
 have H : ((r5Cycles.f k l0).bind fun t473 => (r5best.l0 k l0 ([] : List Int) t473 0)) = some r := h
 clear h
 replace H := qq H
 obtain ⟨t473, A20, H⟩ := H
 replace H : (r5best.l0 k l0 ([] : List Int) t473 0) = some r := H
 have A2 := xA.mk A20
 clear A20
 have H' := xA.mk H
 clear H
 go_enter Try.func72, Try.ntmps72
 go_wp2_with (first | ((with_reducible refine xG (f := 86) rfl ?_); refine xP (some 10) rfl rfl Try.func86 (by kernel_rfl) rfl #[.slice A0 l0.length c0] rfl qd ?_; (with_reducible refine (r5Cycles.calls k _ _ l0 t473 _ ?side1 ?side2 A2.out).mono ?_); (case side1 => repeat (first | exact HR0.out)); (case side2 => exact HC0.out); rintro e w3 ⟨v474, rfl, ho0, hb⟩; refine ⟨_, rfl, ?_⟩; have HO475 := xA.mk (Kd.N_lower (Kd.N_mono (ok' := fun k_ => (w.heap.size ≤ k_)) ho0 (fun k_ hk_ => (Nat.le_trans (xB (HB.out)) hk_))) (xB (HB.out))); replace HB := xA.mk (xE (HB.out) hb)))
 go_loopg [3, 5] k (fun kq v3 v5 w' => ∃ (x3_1 : List Int) (x5_1 : Int), v5 = .int .i64 x5_1 ∧ xA (r5best.l0 kq l0 x3_1 t473 x5_1 = some r) ∧ xA (kq ≤ k) ∧ xA (Kd.V (Kd.int .i64) 3 w' w.heap.size (fun k_ => (w.heap.size ≤ k_) ∧ some k_ ≠ (v474 : Value).ownBlock) v3 x3_1) ∧ xA (Kd.N (Kd.slice 3 (Kd.int .i64)) 26 w' w.heap.size (fun k_ => (w.heap.size ≤ k_)) v474 t473) ∧ xA (Below w.heap.size w w') ∧ xA (x3_1 = [] → v3 = .slice none 0 0))
 case atStart => exact ⟨(([] : List Int)), (0), rfl, H', ⟨Nat.le_refl _⟩, ⟨Kd.V_nil _ _ _ _ _⟩, ⟨by exact HO475.out⟩, ⟨HB.out⟩, ⟨fun _ => rfl⟩⟩
 case round =>
  clear H'
  obtain ⟨x3_1, x5_1, rfl, HA, HK1, HO_3, HO_4, HB, HZ⟩ := hrel
  obtain _ | k1 := gk
  · exact absurd HA.out (by simp [r5best.l0])
  have H := HA.out
  clear HA
  simp only [r5best.l0] at H
  by_cases c4 : x5_1 < (t473.length : Int)
  rotate_left
  ·
   rw [if_neg c4] at H
   have c4b0 : decide (x5_1 < (t473.length : Int)) = false := qp c4
   clear c4
   obtain rfl := qr H
   obtain ⟨Ao29, co29, eo29⟩ := Kd.N_slice HO_4.out
   subst eo29
   go_wp2
   go_ret
   exact ⟨_, rfl, by exact Kd.xY HO_3.out (fun _ hk => hk.1), HZ.out, HB.out⟩
  rw [if_pos c4] at H
  have c4b0 : decide (x5_1 < (t473.length : Int)) = true := qo c4
  clear c4
  obtain ⟨c5b0, H⟩ := xO H
  by_cases c6 : (x3_1.length : Int) = 0
  ·
   rw [if_pos c6] at H
   have c6b0 : ((x3_1.length : Int) == 0) = true := beq_iff_eq.mpr c6
   clear c6
   have H' := xA.mk H
   clear H
   obtain ⟨Ao7, co7, eo7⟩ := Kd.N_slice HO_4.out
   subst eo7
   have p476 : 0 ≤ (x5_1 : Int) := qn (by assumption)
   have q476 : x5_1 < (t473.length : Int) := qn (by assumption)
   obtain ⟨ad476, A476_0, c476_0, e476, hx476_0, hl476_0, hi476_0⟩ := at_L1 (Kd.N_reads' HO_4.out).2.2 x5_1 p476 q476
   cases e476
   obtain ⟨ce476, hce476, hMe476, hcc476⟩ := Kd.N_get HO_4.out [] x5_1 p476 (by first | exact q476 | exact qn (by assumption) | (have e_ := (Kd.N_reads' HO_4.out).1; omega))
   obtain ⟨ua476_0, uc476_0, rfl, ul476_0, ge476_0⟩ := Kd.FK_slice_open hMe476
   have hv476_0 := hcc476 0 _ rfl
   rw [Nat.add_zero, show ((Kd.slice 3 (Kd.int .i64))).sz = 1 from rfl, Nat.mul_one] at hv476_0
   replace hv476_0 := qr (hv476_0.symm.trans hx476_0)
   injection hv476_0 with hva_ hvn_ hvc_
   rw [hva_] at ge476_0
   rw [hvc_] at ul476_0
   have HL476_0 := xA.mk (show Kd.V (Kd.int .i64) 3 _ w.heap.size _ _ (rd_L1 t473 x5_1) from Kd.V_mk ul476_0 ge476_0)
   clear hva_ hvn_ hvc_ ge476_0 ul476_0
   clear hcc476 hce476
   have HR476_0 := xA.mk hi476_0
   have HC476_0 := xA.mk hl476_0
   clear hi476_0 hl476_0
   replace p476 := eq_true p476
   have p476_ := p476
   replace q476 := eq_true q476
   have q476_ := q476
   obtain ⟨Ao8, co8, eo8⟩ := Kd.V_slice HO_3.out
   subst eo8
   have he_ := Kd.V_eql (P := Try.prog) (t := 26) (e' := 3) Try.underlying26 HO_3.out HZ.out c6b0
   go_wp2
   go_roundg k1
   case measure => have := HK1.out; omega
   case rel => exact ⟨(rd_L1 t473 x5_1), (wrap64 (x5_1 + 1)), rfl, H', ⟨by have := HK1.out; omega⟩, ⟨by exact HL476_0.out⟩, ⟨by exact HO_4.out⟩, ⟨HB.out⟩, ⟨fun h_ => absurd h_ (Cycles_row A2.out x5_1 p476_ q476_)⟩⟩
  rw [if_neg c6] at H
  have c6b0 : ((x3_1.length : Int) == 0) = false := jb c6
  have c6b2 : ¬ (x3_1 = []) := fun h_ => c6 (by rw [h_]; rfl)
  replace H := qq H
  obtain ⟨t477, A90, H⟩ := H
  replace H : ((r5weight.f k1 l0 x3_1).bind fun t478 => (if (wrap64 (t477 * (x3_1.length : Int))) > (wrap64 (t478 * ((rd_L1 t473 x5_1).length : Int))) then (r5best.l0 k1 l0 (rd_L1 t473 x5_1) t473 (wrap64 (x5_1 + 1))) else (if (wrap64 (t477 * (x3_1.length : Int))) = (wrap64 (t478 * ((rd_L1 t473 x5_1).length : Int))) then (if ((rd_L1 t473 x5_1).length : Int) < (x3_1.length : Int) then (r5best.l0 k1 l0 (rd_L1 t473 x5_1) t473 (wrap64 (x5_1 + 1))) else (if ((rd_L1 t473 x5_1).length : Int) = (x3_1.length : Int) then ((r5less.f k1 (rd_L1 t473 x5_1) x3_1).bind fun t479 => (if t479 = true then (r5best.l0 k1 l0 (rd_L1 t473 x5_1) t473 (wrap64 (x5_1 + 1))) else (r5best.l0 k1 l0 x3_1 t473 (wrap64 (x5_1 + 1))))) else (r5best.l0 k1 l0 x3_1 t473 (wrap64 (x5_1 + 1))))) else (r5best.l0 k1 l0 x3_1 t473 (wrap64 (x5_1 + 1)))))) = some r := H
  have A9 := xA.mk A90
  clear A90
  replace H := qq H
  obtain ⟨t478, A100, H⟩ := H
  replace H : (if (wrap64 (t477 * (x3_1.length : Int))) > (wrap64 (t478 * ((rd_L1 t473 x5_1).length : Int))) then (r5best.l0 k1 l0 (rd_L1 t473 x5_1) t473 (wrap64 (x5_1 + 1))) else (if (wrap64 (t477 * (x3_1.length : Int))) = (wrap64 (t478 * ((rd_L1 t473 x5_1).length : Int))) then (if ((rd_L1 t473 x5_1).length : Int) < (x3_1.length : Int) then (r5best.l0 k1 l0 (rd_L1 t473 x5_1) t473 (wrap64 (x5_1 + 1))) else (if ((rd_L1 t473 x5_1).length : Int) = (x3_1.length : Int) then ((r5less.f k1 (rd_L1 t473 x5_1) x3_1).bind fun t479 => (if t479 = true then (r5best.l0 k1 l0 (rd_L1 t473 x5_1) t473 (wrap64 (x5_1 + 1))) else (r5best.l0 k1 l0 x3_1 t473 (wrap64 (x5_1 + 1))))) else (r5best.l0 k1 l0 x3_1 t473 (wrap64 (x5_1 + 1))))) else (r5best.l0 k1 l0 x3_1 t473 (wrap64 (x5_1 + 1))))) = some r := H
  have A10 := xA.mk A100
  clear A100
  by_cases c11 : (wrap64 (t477 * (x3_1.length : Int))) > (wrap64 (t478 * ((rd_L1 t473 x5_1).length : Int)))
  ·
   rw [if_pos c11] at H
   have c11b0 : decide ((wrap64 (t478 * ((rd_L1 t473 x5_1).length : Int))) < (wrap64 (t477 * (x3_1.length : Int)))) = true := qo c11
   clear c11
   have H' := xA.mk H
   clear H
   obtain ⟨Ao12, co12, eo12⟩ := Kd.N_slice HO_4.out
   subst eo12
   have p476 : 0 ≤ (x5_1 : Int) := qn (by assumption)
   have q476 : x5_1 < (t473.length : Int) := qn (by first | (with_reducible assumption) | assumption)
   obtain ⟨ad476, A476_0, c476_0, e476, hx476_0, hl476_0, hi476_0⟩ := at_L1 (Kd.N_reads' HO_4.out).2.2 x5_1 p476 q476
   cases e476
   obtain ⟨ce476, hce476, hMe476, hcc476⟩ := Kd.N_get HO_4.out [] x5_1 p476 (by first | exact q476 | exact qn (by first | (with_reducible assumption) | assumption) | (have e_ := (Kd.N_reads' HO_4.out).1; omega))
   obtain ⟨ua476_0, uc476_0, rfl, ul476_0, ge476_0⟩ := Kd.FK_slice_open hMe476
   have hv476_0 := hcc476 0 _ rfl
   rw [Nat.add_zero, show ((Kd.slice 3 (Kd.int .i64))).sz = 1 from rfl, Nat.mul_one] at hv476_0
   replace hv476_0 := qr (hv476_0.symm.trans hx476_0)
   injection hv476_0 with hva_ hvn_ hvc_
   rw [hva_] at ge476_0
   rw [hvc_] at ul476_0
   have HL476_0 := xA.mk (show Kd.V (Kd.int .i64) 3 _ w.heap.size _ _ (rd_L1 t473 x5_1) from Kd.V_mk ul476_0 ge476_0)
   clear hva_ hvn_ hvc_ ge476_0 ul476_0
   clear hcc476 hce476
   have HR476_0 := xA.mk hi476_0
   have HC476_0 := xA.mk hl476_0
   clear hi476_0 hl476_0
   replace p476 := eq_true p476
   have p476_ := p476
   replace q476 := eq_true q476
   have q476_ := q476
   obtain ⟨Ao13, co13, eo13⟩ := Kd.V_slice HO_3.out
   subst eo13
   have he_ := Kd.V_eql (P := Try.prog) (t := 26) (e' := 3) Try.underlying26 HO_3.out HZ.out c6b0
   go_wp2_with (first | ((with_reducible refine xG (f := 73) rfl ?_); refine xP (some 26) rfl rfl Try.func73 (by kernel_rfl) rfl #[.slice A0 l0.length c0, .slice A476_0 (rd_L1 t473 x5_1).length c476_0] rfl qc ?_; (with_reducible refine (r5weight.calls k1 _ _ l0 _ _ (rd_L1 t473 x5_1) t477 _ ?side1 ?side2 ?side3 ?side4 A9.out).mono ?_); (case side1 => exact qm (Kd.xW HR0.out HB.out)); (case side2 => exact HC0.out); (case side3 => repeat (first | exact (by repeat (first | (with_reducible exact HR476_0.out) | (with_reducible refine Kd.C_alloc ?_ _) | (with_reducible refine Kd.C_drewN ?_ _) | (with_reducible refine Kd.C_drew ?_) | exact HR476_0.out)) | (with_reducible refine Kd.C_alloc ?_ _) | (with_reducible refine Kd.C_drewN ?_ _) | (with_reducible refine Kd.C_drew ?_))); (case side4 => exact HC476_0.out); rintro e w' ⟨rfl, ⟨nd, rfl⟩⟩; refine ⟨_, rfl, ?_⟩) | ((with_reducible refine xG (f := 73) rfl ?_); refine xP (some 32) rfl rfl Try.func73 (by kernel_rfl) rfl #[.slice A0 l0.length c0, .slice Ao13 x3_1.length co13] rfl qc ?_; (with_reducible refine (r5weight.calls k1 _ _ l0 _ _ x3_1 t478 _ ?side1 ?side2 ?side3 ?side4 A10.out).mono ?_); (case side1 => repeat (first | exact (Kd.xW HR0.out qa) | (with_reducible refine Kd.C_alloc ?_ _) | (with_reducible refine Kd.C_drewN ?_ _) | (with_reducible refine Kd.C_drew ?_))); (case side2 => exact HC0.out); (case side3 => exact qm (Kd.xS HO_3.out).2.2); (case side4 => exact (Kd.xS HO_3.out).2.1); rintro e w' ⟨rfl, ⟨nd, rfl⟩⟩; refine ⟨_, rfl, ?_⟩))
   go_roundg k1
   case measure => have := HK1.out; omega
   case rel => exact ⟨(rd_L1 t473 x5_1), (wrap64 (x5_1 + 1)), qf, H', ⟨by have := HK1.out; omega⟩, ⟨qj HL476_0.out⟩, ⟨qk HO_4.out⟩, ⟨qa⟩, ⟨fun h_ => absurd h_ (Cycles_row A2.out x5_1 p476_ q476_)⟩⟩
  rw [if_neg c11] at H
  have c11b0 : decide ((wrap64 (t478 * ((rd_L1 t473 x5_1).length : Int))) < (wrap64 (t477 * (x3_1.length : Int)))) = false := qp c11
  clear c11
  by_cases c14 : (wrap64 (t477 * (x3_1.length : Int))) = (wrap64 (t478 * ((rd_L1 t473 x5_1).length : Int)))
  rotate_left
  ·
   rw [if_neg c14] at H
   have c14b0 : ((wrap64 (t477 * (x3_1.length : Int))) == (wrap64 (t478 * ((rd_L1 t473 x5_1).length : Int)))) = false := jb c14
   have c14b1 : ((wrap64 (t477 * (x3_1.length : Int))) != (wrap64 (t478 * ((rd_L1 t473 x5_1).length : Int)))) = true := bne_iff_ne.mpr c14
   have H' := xA.mk H
   clear H
   obtain ⟨Ao27, co27, eo27⟩ := Kd.N_slice HO_4.out
   subst eo27
   have p476 : 0 ≤ (x5_1 : Int) := qn (by first | (with_reducible assumption) | assumption)
   have q476 : x5_1 < (t473.length : Int) := qn (by first | (with_reducible assumption) | assumption)
   obtain ⟨ad476, A476_0, c476_0, e476, hx476_0, hl476_0, hi476_0⟩ := at_L1 (Kd.N_reads' HO_4.out).2.2 x5_1 p476 q476
   cases e476
   obtain ⟨ce476, hce476, hMe476, hcc476⟩ := Kd.N_get HO_4.out [] x5_1 p476 (by first | exact q476 | exact qn (by first | (with_reducible assumption) | assumption) | (have e_ := (Kd.N_reads' HO_4.out).1; omega))
   obtain ⟨ua476_0, uc476_0, rfl, ul476_0, ge476_0⟩ := Kd.FK_slice_open hMe476
   have hv476_0 := hcc476 0 _ rfl
   rw [Nat.add_zero, show ((Kd.slice 3 (Kd.int .i64))).sz = 1 from rfl, Nat.mul_one] at hv476_0
   replace hv476_0 := qr (hv476_0.symm.trans hx476_0)
   injection hv476_0 with hva_ hvn_ hvc_
   rw [hva_] at ge476_0
   rw [hvc_] at ul476_0
   have HL476_0 := xA.mk (show Kd.V (Kd.int .i64) 3 _ w.heap.size _ _ (rd_L1 t473 x5_1) from Kd.V_mk ul476_0 ge476_0)
   clear hva_ hvn_ hvc_ ge476_0 ul476_0
   clear hcc476 hce476
   have HR476_0 := xA.mk hi476_0
   have HC476_0 := xA.mk hl476_0
   clear hi476_0 hl476_0
   replace p476 := eq_true p476
   have p476_ := p476
   replace q476 := eq_true q476
   have q476_ := q476
   obtain ⟨Ao28, co28, eo28⟩ := Kd.V_slice HO_3.out
   subst eo28
   have he_ := Kd.V_eql (P := Try.prog) (t := 26) (e' := 3) Try.underlying26 HO_3.out HZ.out c6b0
   go_wp2_with (first | ((with_reducible refine xG (f := 73) rfl ?_); refine xP (some 26) rfl rfl Try.func73 (by kernel_rfl) rfl #[.slice A0 l0.length c0, .slice A476_0 (rd_L1 t473 x5_1).length c476_0] rfl qc ?_; (with_reducible refine (r5weight.calls k1 _ _ l0 _ _ (rd_L1 t473 x5_1) t477 _ ?side1 ?side2 ?side3 ?side4 A9.out).mono ?_); (case side1 => exact qm (Kd.xW HR0.out HB.out)); (case side2 => exact HC0.out); (case side3 => repeat (first | exact (by repeat (first | (with_reducible exact HR476_0.out) | (with_reducible refine Kd.C_alloc ?_ _) | (with_reducible refine Kd.C_drewN ?_ _) | (with_reducible refine Kd.C_drew ?_) | exact HR476_0.out)) | (with_reducible refine Kd.C_alloc ?_ _) | (with_reducible refine Kd.C_drewN ?_ _) | (with_reducible refine Kd.C_drew ?_))); (case side4 => exact HC476_0.out); rintro e w' ⟨rfl, ⟨nd, rfl⟩⟩; refine ⟨_, rfl, ?_⟩) | ((with_reducible refine xG (f := 73) rfl ?_); refine xP (some 32) rfl rfl Try.func73 (by kernel_rfl) rfl #[.slice A0 l0.length c0, .slice Ao28 x3_1.length co28] rfl qc ?_; (with_reducible refine (r5weight.calls k1 _ _ l0 _ _ x3_1 t478 _ ?side1 ?side2 ?side3 ?side4 A10.out).mono ?_); (case side1 => repeat (first | exact (Kd.xW HR0.out qa) | (with_reducible refine Kd.C_alloc ?_ _) | (with_reducible refine Kd.C_drewN ?_ _) | (with_reducible refine Kd.C_drew ?_))); (case side2 => exact HC0.out); (case side3 => exact qm (Kd.xS HO_3.out).2.2); (case side4 => exact (Kd.xS HO_3.out).2.1); rintro e w' ⟨rfl, ⟨nd, rfl⟩⟩; refine ⟨_, rfl, ?_⟩))
   go_roundg k1
   case measure => have := HK1.out; omega
   case rel => exact ⟨(x3_1), (wrap64 (x5_1 + 1)), qf, H', ⟨by have := HK1.out; omega⟩, ⟨qj HO_3.out⟩, ⟨qk HO_4.out⟩, ⟨qa⟩, ⟨HZ.out⟩⟩
  rw [if_pos c14] at H
  have c14b0 : ((wrap64 (t477 * (x3_1.length : Int))) == (wrap64 (t478 * ((rd_L1 t473 x5_1).length : Int)))) = true := beq_iff_eq.mpr c14
  have c14b1 : ((wrap64 (t477 * (x3_1.length : Int))) != (wrap64 (t478 * ((rd_L1 t473 x5_1).length : Int)))) = false := bne_eq_false_iff_eq.mpr c14
  clear c14
  by_cases c15 : ((rd_L1 t473 x5_1).length : Int) < (x3_1.length : Int)
  ·
   rw [if_pos c15] at H
   have c15b0 : decide (((rd_L1 t473 x5_1).length : Int) < (x3_1.length : Int)) = true := qo c15
   have c15b1 : decide ((rd_L1 t473 x5_1).length < x3_1.length) = true := qo (Int.ofNat_lt.mp c15)
   clear c15
   have H' := xA.mk H
   clear H
   obtain ⟨Ao16, co16, eo16⟩ := Kd.N_slice HO_4.out
   subst eo16
   have p476 : 0 ≤ (x5_1 : Int) := qn (by first | (with_reducible assumption) | assumption)
   have q476 : x5_1 < (t473.length : Int) := qn (by first | (with_reducible assumption) | assumption)
   obtain ⟨ad476, A476_0, c476_0, e476, hx476_0, hl476_0, hi476_0⟩ := at_L1 (Kd.N_reads' HO_4.out).2.2 x5_1 p476 q476
   cases e476
   obtain ⟨ce476, hce476, hMe476, hcc476⟩ := Kd.N_get HO_4.out [] x5_1 p476 (by first | exact q476 | exact qn (by first | (with_reducible assumption) | assumption) | (have e_ := (Kd.N_reads' HO_4.out).1; omega))
   obtain ⟨ua476_0, uc476_0, rfl, ul476_0, ge476_0⟩ := Kd.FK_slice_open hMe476
   have hv476_0 := hcc476 0 _ rfl
   rw [Nat.add_zero, show ((Kd.slice 3 (Kd.int .i64))).sz = 1 from rfl, Nat.mul_one] at hv476_0
   replace hv476_0 := qr (hv476_0.symm.trans hx476_0)
   injection hv476_0 with hva_ hvn_ hvc_
   rw [hva_] at ge476_0
   rw [hvc_] at ul476_0
   have HL476_0 := xA.mk (show Kd.V (Kd.int .i64) 3 _ w.heap.size _ _ (rd_L1 t473 x5_1) from Kd.V_mk ul476_0 ge476_0)
   clear hva_ hvn_ hvc_ ge476_0 ul476_0
   clear hcc476 hce476
   have HR476_0 := xA.mk hi476_0
   have HC476_0 := xA.mk hl476_0
   clear hi476_0 hl476_0
   replace p476 := eq_true p476
   have p476_ := p476
   replace q476 := eq_true q476
   have q476_ := q476
   obtain ⟨Ao17, co17, eo17⟩ := Kd.V_slice HO_3.out
   subst eo17
   have he_ := Kd.V_eql (P := Try.prog) (t := 26) (e' := 3) Try.underlying26 HO_3.out HZ.out c6b0
   go_wp2_with (first | ((with_reducible refine xG (f := 73) rfl ?_); refine xP (some 26) rfl rfl Try.func73 (by kernel_rfl) rfl #[.slice A0 l0.length c0, .slice A476_0 (rd_L1 t473 x5_1).length c476_0] rfl qc ?_; (with_reducible refine (r5weight.calls k1 _ _ l0 _ _ (rd_L1 t473 x5_1) t477 _ ?side1 ?side2 ?side3 ?side4 A9.out).mono ?_); (case side1 => exact qm (Kd.xW HR0.out HB.out)); (case side2 => exact HC0.out); (case side3 => repeat (first | exact (by repeat (first | (with_reducible exact HR476_0.out) | (with_reducible refine Kd.C_alloc ?_ _) | (with_reducible refine Kd.C_drewN ?_ _) | (with_reducible refine Kd.C_drew ?_) | exact HR476_0.out)) | (with_reducible refine Kd.C_alloc ?_ _) | (with_reducible refine Kd.C_drewN ?_ _) | (with_reducible refine Kd.C_drew ?_))); (case side4 => exact HC476_0.out); rintro e w' ⟨rfl, ⟨nd, rfl⟩⟩; refine ⟨_, rfl, ?_⟩) | ((with_reducible refine xG (f := 73) rfl ?_); refine xP (some 32) rfl rfl Try.func73 (by kernel_rfl) rfl #[.slice A0 l0.length c0, .slice Ao17 x3_1.length co17] rfl qc ?_; (with_reducible refine (r5weight.calls k1 _ _ l0 _ _ x3_1 t478 _ ?side1 ?side2 ?side3 ?side4 A10.out).mono ?_); (case side1 => repeat (first | exact (Kd.xW HR0.out qa) | (with_reducible refine Kd.C_alloc ?_ _) | (with_reducible refine Kd.C_drewN ?_ _) | (with_reducible refine Kd.C_drew ?_))); (case side2 => exact HC0.out); (case side3 => exact qm (Kd.xS HO_3.out).2.2); (case side4 => exact (Kd.xS HO_3.out).2.1); rintro e w' ⟨rfl, ⟨nd, rfl⟩⟩; refine ⟨_, rfl, ?_⟩))
   go_roundg k1
   case measure => have := HK1.out; omega
   case rel => exact ⟨(rd_L1 t473 x5_1), (wrap64 (x5_1 + 1)), qf, H', ⟨by have := HK1.out; omega⟩, ⟨qj HL476_0.out⟩, ⟨qk HO_4.out⟩, ⟨qa⟩, ⟨fun h_ => absurd h_ (Cycles_row A2.out x5_1 p476_ q476_)⟩⟩
  rw [if_neg c15] at H
  have c15b0 : decide (((rd_L1 t473 x5_1).length : Int) < (x3_1.length : Int)) = false := qp c15
  have c15b1 : decide ((rd_L1 t473 x5_1).length < x3_1.length) = false := qp (fun h => c15 (Int.ofNat_lt.mpr h))
  clear c15
  by_cases c18 : ((rd_L1 t473 x5_1).length : Int) = (x3_1.length : Int)
  rotate_left
  ·
   rw [if_neg c18] at H
   have c18b0 : (((rd_L1 t473 x5_1).length : Int) == (x3_1.length : Int)) = false := jb c18
   have c18b1 : (((rd_L1 t473 x5_1).length : Int) != (x3_1.length : Int)) = true := bne_iff_ne.mpr c18
   have c18b2 : ((rd_L1 t473 x5_1).length == x3_1.length) = false := by first | simpa using c18 | (simp at c18 ⊢; omega)
   have H' := xA.mk H
   clear H
   obtain ⟨Ao25, co25, eo25⟩ := Kd.N_slice HO_4.out
   subst eo25
   have p476 : 0 ≤ (x5_1 : Int) := qn (by assumption)
   have q476 : x5_1 < (t473.length : Int) := qn (by first | (with_reducible assumption) | assumption)
   obtain ⟨ad476, A476_0, c476_0, e476, hx476_0, hl476_0, hi476_0⟩ := at_L1 (Kd.N_reads' HO_4.out).2.2 x5_1 p476 q476
   cases e476
   obtain ⟨ce476, hce476, hMe476, hcc476⟩ := Kd.N_get HO_4.out [] x5_1 p476 (by first | exact q476 | exact qn (by first | (with_reducible assumption) | assumption) | (have e_ := (Kd.N_reads' HO_4.out).1; omega))
   obtain ⟨ua476_0, uc476_0, rfl, ul476_0, ge476_0⟩ := Kd.FK_slice_open hMe476
   have hv476_0 := hcc476 0 _ rfl
   rw [Nat.add_zero, show ((Kd.slice 3 (Kd.int .i64))).sz = 1 from rfl, Nat.mul_one] at hv476_0
   replace hv476_0 := qr (hv476_0.symm.trans hx476_0)
   injection hv476_0 with hva_ hvn_ hvc_
   rw [hva_] at ge476_0
   rw [hvc_] at ul476_0
   have HL476_0 := xA.mk (show Kd.V (Kd.int .i64) 3 _ w.heap.size _ _ (rd_L1 t473 x5_1) from Kd.V_mk ul476_0 ge476_0)
   clear hva_ hvn_ hvc_ ge476_0 ul476_0
   clear hcc476 hce476
   have HR476_0 := xA.mk hi476_0
   have HC476_0 := xA.mk hl476_0
   clear hi476_0 hl476_0
   replace p476 := eq_true p476
   have p476_ := p476
   replace q476 := eq_true q476
   have q476_ := q476
   obtain ⟨Ao26, co26, eo26⟩ := Kd.V_slice HO_3.out
   subst eo26
   have he_ := Kd.V_eql (P := Try.prog) (t := 26) (e' := 3) Try.underlying26 HO_3.out HZ.out c6b0
   go_wp2_with (first | ((with_reducible refine xG (f := 73) rfl ?_); refine xP (some 26) rfl rfl Try.func73 (by kernel_rfl) rfl #[.slice A0 l0.length c0, .slice A476_0 (rd_L1 t473 x5_1).length c476_0] rfl qc ?_; (with_reducible refine (r5weight.calls k1 _ _ l0 _ _ (rd_L1 t473 x5_1) t477 _ ?side1 ?side2 ?side3 ?side4 A9.out).mono ?_); (case side1 => exact qm (Kd.xW HR0.out HB.out)); (case side2 => exact HC0.out); (case side3 => repeat (first | exact (by repeat (first | (with_reducible exact HR476_0.out) | (with_reducible refine Kd.C_alloc ?_ _) | (with_reducible refine Kd.C_drewN ?_ _) | (with_reducible refine Kd.C_drew ?_) | exact HR476_0.out)) | (with_reducible refine Kd.C_alloc ?_ _) | (with_reducible refine Kd.C_drewN ?_ _) | (with_reducible refine Kd.C_drew ?_))); (case side4 => exact HC476_0.out); rintro e w' ⟨rfl, ⟨nd, rfl⟩⟩; refine ⟨_, rfl, ?_⟩) | ((with_reducible refine xG (f := 73) rfl ?_); refine xP (some 32) rfl rfl Try.func73 (by kernel_rfl) rfl #[.slice A0 l0.length c0, .slice Ao26 x3_1.length co26] rfl qc ?_; (with_reducible refine (r5weight.calls k1 _ _ l0 _ _ x3_1 t478 _ ?side1 ?side2 ?side3 ?side4 A10.out).mono ?_); (case side1 => repeat (first | exact (Kd.xW HR0.out qa) | (with_reducible refine Kd.C_alloc ?_ _) | (with_reducible refine Kd.C_drewN ?_ _) | (with_reducible refine Kd.C_drew ?_))); (case side2 => exact HC0.out); (case side3 => exact qm (Kd.xS HO_3.out).2.2); (case side4 => exact (Kd.xS HO_3.out).2.1); rintro e w' ⟨rfl, ⟨nd, rfl⟩⟩; refine ⟨_, rfl, ?_⟩))
   go_roundg k1
   case measure => have := HK1.out; omega
   case rel => exact ⟨(x3_1), (wrap64 (x5_1 + 1)), qf, H', ⟨by have := HK1.out; omega⟩, ⟨qj HO_3.out⟩, ⟨qk HO_4.out⟩, ⟨qa⟩, ⟨HZ.out⟩⟩
  rw [if_pos c18] at H
  have c18b0 : (((rd_L1 t473 x5_1).length : Int) == (x3_1.length : Int)) = true := beq_iff_eq.mpr c18
  have c18b2 : ((rd_L1 t473 x5_1).length == x3_1.length) = true := by first | simpa using c18 | (simp at c18 ⊢; omega)
  clear c18
  replace H := qq H
  obtain ⟨t479, A190, H⟩ := H
  replace H : (if t479 = true then (r5best.l0 k1 l0 (rd_L1 t473 x5_1) t473 (wrap64 (x5_1 + 1))) else (r5best.l0 k1 l0 x3_1 t473 (wrap64 (x5_1 + 1)))) = some r := H
  have A19 := xA.mk A190
  clear A190
  by_cases c20 : t479 = true
  ·
   subst c20
   have H1 : (r5best.l0 k1 l0 (rd_L1 t473 x5_1) t473 (wrap64 (x5_1 + 1))) = some r := by rw [if_pos rfl] at H; exact H
   clear H
   have H := H1
   clear H1
   have H' := xA.mk H
   clear H
   obtain ⟨Ao21, co21, eo21⟩ := Kd.N_slice HO_4.out
   subst eo21
   have p476 : 0 ≤ (x5_1 : Int) := qn (by assumption)
   have q476 : x5_1 < (t473.length : Int) := qn (by first | (with_reducible assumption) | assumption)
   obtain ⟨ad476, A476_0, c476_0, e476, hx476_0, hl476_0, hi476_0⟩ := at_L1 (Kd.N_reads' HO_4.out).2.2 x5_1 p476 q476
   cases e476
   obtain ⟨ce476, hce476, hMe476, hcc476⟩ := Kd.N_get HO_4.out [] x5_1 p476 (by first | exact q476 | exact qn (by first | (with_reducible assumption) | assumption) | (have e_ := (Kd.N_reads' HO_4.out).1; omega))
   obtain ⟨ua476_0, uc476_0, rfl, ul476_0, ge476_0⟩ := Kd.FK_slice_open hMe476
   have hv476_0 := hcc476 0 _ rfl
   rw [Nat.add_zero, show ((Kd.slice 3 (Kd.int .i64))).sz = 1 from rfl, Nat.mul_one] at hv476_0
   replace hv476_0 := qr (hv476_0.symm.trans hx476_0)
   injection hv476_0 with hva_ hvn_ hvc_
   rw [hva_] at ge476_0
   rw [hvc_] at ul476_0
   have HL476_0 := xA.mk (show Kd.V (Kd.int .i64) 3 _ w.heap.size _ _ (rd_L1 t473 x5_1) from Kd.V_mk ul476_0 ge476_0)
   clear hva_ hvn_ hvc_ ge476_0 ul476_0
   clear hcc476 hce476
   have HR476_0 := xA.mk hi476_0
   have HC476_0 := xA.mk hl476_0
   clear hi476_0 hl476_0
   replace p476 := eq_true p476
   have p476_ := p476
   replace q476 := eq_true q476
   have q476_ := q476
   obtain ⟨Ao22, co22, eo22⟩ := Kd.V_slice HO_3.out
   subst eo22
   have he_ := Kd.V_eql (P := Try.prog) (t := 26) (e' := 3) Try.underlying26 HO_3.out HZ.out c6b0
   go_wp2_with (first | ((with_reducible refine xG (f := 73) rfl ?_); refine xP (some 26) rfl rfl Try.func73 (by kernel_rfl) rfl #[.slice A0 l0.length c0, .slice A476_0 (rd_L1 t473 x5_1).length c476_0] rfl qc ?_; (with_reducible refine (r5weight.calls k1 _ _ l0 _ _ (rd_L1 t473 x5_1) t477 _ ?side1 ?side2 ?side3 ?side4 A9.out).mono ?_); (case side1 => exact qm (Kd.xW HR0.out HB.out)); (case side2 => exact HC0.out); (case side3 => repeat (first | exact (by repeat (first | (with_reducible exact HR476_0.out) | (with_reducible refine Kd.C_alloc ?_ _) | (with_reducible refine Kd.C_drewN ?_ _) | (with_reducible refine Kd.C_drew ?_) | exact HR476_0.out)) | (with_reducible refine Kd.C_alloc ?_ _) | (with_reducible refine Kd.C_drewN ?_ _) | (with_reducible refine Kd.C_drew ?_))); (case side4 => exact HC476_0.out); rintro e w' ⟨rfl, ⟨nd, rfl⟩⟩; refine ⟨_, rfl, ?_⟩) | ((with_reducible refine xG (f := 73) rfl ?_); refine xP (some 32) rfl rfl Try.func73 (by kernel_rfl) rfl #[.slice A0 l0.length c0, .slice Ao22 x3_1.length co22] rfl qc ?_; (with_reducible refine (r5weight.calls k1 _ _ l0 _ _ x3_1 t478 _ ?side1 ?side2 ?side3 ?side4 A10.out).mono ?_); (case side1 => repeat (first | exact (Kd.xW HR0.out qa) | (with_reducible refine Kd.C_alloc ?_ _) | (with_reducible refine Kd.C_drewN ?_ _) | (with_reducible refine Kd.C_drew ?_))); (case side2 => exact HC0.out); (case side3 => exact qm (Kd.xS HO_3.out).2.2); (case side4 => exact (Kd.xS HO_3.out).2.1); rintro e w' ⟨rfl, ⟨nd, rfl⟩⟩; refine ⟨_, rfl, ?_⟩) | (go_at_call 94; (with_reducible refine (r5less.calls k1 _ _ (rd_L1 t473 x5_1) _ _ x3_1 true _ ?side1 ?side2 ?side3 ?side4 A19.out).mono ?_); (case side1 => repeat (first | exact (by repeat (first | (with_reducible exact HR476_0.out) | (with_reducible refine Kd.C_alloc ?_ _) | (with_reducible refine Kd.C_drewN ?_ _) | (with_reducible refine Kd.C_drew ?_) | exact HR476_0.out)) | (with_reducible refine Kd.C_alloc ?_ _) | (with_reducible refine Kd.C_drewN ?_ _) | (with_reducible refine Kd.C_drew ?_))); (case side2 => exact HC476_0.out); (case side3 => exact qm (Kd.xS HO_3.out).2.2); (case side4 => exact (Kd.xS HO_3.out).2.1); rintro e w' ⟨rfl, ⟨nd, rfl⟩⟩))
   go_roundg k1
   case measure => have := HK1.out; omega
   case rel => exact ⟨(rd_L1 t473 x5_1), (wrap64 (x5_1 + 1)), qf, H', ⟨by have := HK1.out; omega⟩, ⟨qj HL476_0.out⟩, ⟨qk HO_4.out⟩, ⟨qa⟩, ⟨fun h_ => absurd h_ (Cycles_row A2.out x5_1 p476_ q476_)⟩⟩
  replace c20 := Bool.eq_false_iff.mpr c20
  subst c20
  have H1 : (r5best.l0 k1 l0 x3_1 t473 (wrap64 (x5_1 + 1))) = some r := by rw [if_neg (show ¬ (false = true) by decide)] at H; exact H
  clear H
  have H := H1
  clear H1
  have H' := xA.mk H
  clear H
  obtain ⟨Ao23, co23, eo23⟩ := Kd.N_slice HO_4.out
  subst eo23
  have p476 : 0 ≤ (x5_1 : Int) := qn (by assumption)
  have q476 : x5_1 < (t473.length : Int) := qn (by first | (with_reducible assumption) | assumption)
  obtain ⟨ad476, A476_0, c476_0, e476, hx476_0, hl476_0, hi476_0⟩ := at_L1 (Kd.N_reads' HO_4.out).2.2 x5_1 p476 q476
  cases e476
  obtain ⟨ce476, hce476, hMe476, hcc476⟩ := Kd.N_get HO_4.out [] x5_1 p476 (by first | exact q476 | exact qn (by first | (with_reducible assumption) | assumption) | (have e_ := (Kd.N_reads' HO_4.out).1; omega))
  obtain ⟨ua476_0, uc476_0, rfl, ul476_0, ge476_0⟩ := Kd.FK_slice_open hMe476
  have hv476_0 := hcc476 0 _ rfl
  rw [Nat.add_zero, show ((Kd.slice 3 (Kd.int .i64))).sz = 1 from rfl, Nat.mul_one] at hv476_0
  replace hv476_0 := qr (hv476_0.symm.trans hx476_0)
  injection hv476_0 with hva_ hvn_ hvc_
  rw [hva_] at ge476_0
  rw [hvc_] at ul476_0
  have HL476_0 := xA.mk (show Kd.V (Kd.int .i64) 3 _ w.heap.size _ _ (rd_L1 t473 x5_1) from Kd.V_mk ul476_0 ge476_0)
  clear hva_ hvn_ hvc_ ge476_0 ul476_0
  clear hcc476 hce476
  have HR476_0 := xA.mk hi476_0
  have HC476_0 := xA.mk hl476_0
  clear hi476_0 hl476_0
  replace p476 := eq_true p476
  have p476_ := p476
  replace q476 := eq_true q476
  have q476_ := q476
  obtain ⟨Ao24, co24, eo24⟩ := Kd.V_slice HO_3.out
  subst eo24
  have he_ := Kd.V_eql (P := Try.prog) (t := 26) (e' := 3) Try.underlying26 HO_3.out HZ.out c6b0
  go_wp2_with (first | ((with_reducible refine xG (f := 73) rfl ?_); refine xP (some 26) rfl rfl Try.func73 (by kernel_rfl) rfl #[.slice A0 l0.length c0, .slice A476_0 (rd_L1 t473 x5_1).length c476_0] rfl qc ?_; (with_reducible refine (r5weight.calls k1 _ _ l0 _ _ (rd_L1 t473 x5_1) t477 _ ?side1 ?side2 ?side3 ?side4 A9.out).mono ?_); (case side1 => exact qm (Kd.xW HR0.out HB.out)); (case side2 => exact HC0.out); (case side3 => repeat (first | exact (by repeat (first | (with_reducible exact HR476_0.out) | (with_reducible refine Kd.C_alloc ?_ _) | (with_reducible refine Kd.C_drewN ?_ _) | (with_reducible refine Kd.C_drew ?_) | exact HR476_0.out)) | (with_reducible refine Kd.C_alloc ?_ _) | (with_reducible refine Kd.C_drewN ?_ _) | (with_reducible refine Kd.C_drew ?_))); (case side4 => exact HC476_0.out); rintro e w' ⟨rfl, ⟨nd, rfl⟩⟩; refine ⟨_, rfl, ?_⟩) | ((with_reducible refine xG (f := 73) rfl ?_); refine xP (some 32) rfl rfl Try.func73 (by kernel_rfl) rfl #[.slice A0 l0.length c0, .slice Ao24 x3_1.length co24] rfl qc ?_; (with_reducible refine (r5weight.calls k1 _ _ l0 _ _ x3_1 t478 _ ?side1 ?side2 ?side3 ?side4 A10.out).mono ?_); (case side1 => repeat (first | exact (Kd.xW HR0.out qa) | (with_reducible refine Kd.C_alloc ?_ _) | (with_reducible refine Kd.C_drewN ?_ _) | (with_reducible refine Kd.C_drew ?_))); (case side2 => exact HC0.out); (case side3 => exact qm (Kd.xS HO_3.out).2.2); (case side4 => exact (Kd.xS HO_3.out).2.1); rintro e w' ⟨rfl, ⟨nd, rfl⟩⟩; refine ⟨_, rfl, ?_⟩) | (go_at_call 94; (with_reducible refine (r5less.calls k1 _ _ (rd_L1 t473 x5_1) _ _ x3_1 false _ ?side1 ?side2 ?side3 ?side4 A19.out).mono ?_); (case side1 => repeat (first | exact (by repeat (first | (with_reducible exact HR476_0.out) | (with_reducible refine Kd.C_alloc ?_ _) | (with_reducible refine Kd.C_drewN ?_ _) | (with_reducible refine Kd.C_drew ?_) | exact HR476_0.out)) | (with_reducible refine Kd.C_alloc ?_ _) | (with_reducible refine Kd.C_drewN ?_ _) | (with_reducible refine Kd.C_drew ?_))); (case side2 => exact HC476_0.out); (case side3 => exact qm (Kd.xS HO_3.out).2.2); (case side4 => exact (Kd.xS HO_3.out).2.1); rintro e w' ⟨rfl, ⟨nd, rfl⟩⟩))
  go_roundg k1
  case measure => have := HK1.out; omega
  case rel => exact ⟨(x3_1), (wrap64 (x5_1 + 1)), qf, H', ⟨by have := HK1.out; omega⟩, ⟨qj HO_3.out⟩, ⟨qk HO_4.out⟩, ⟨qa⟩, ⟨HZ.out⟩⟩
def r5gcd.l0 : Nat → Int → Int → Option (Int)
 | 0, _, _ => none
 | k + 1, x0, x1 => if x1 = 0 then (some (mx x0 (wrap64 (-x0)))) else (r5gcd.l0 k x1 (Int.tmod x0 x1))
def r5gcd.f (k : Nat) (a0 : Int) (a1 : Int) : Option (Int) := r5gcd.l0 k a0 a1
set_option maxHeartbeats 8000000 in
set_option maxRecDepth 100000 in
theorem r5gcd.calls (k : Nat) (a0 : Int) (a1 : Int) (r : Int) (w : World) (h : r5gcd.f k a0 a1 = some r) :
  Calls Try.prog 95 #[.int .i64 a0, .int .i64 a1] w fun e w' => e = .returned (.int .i64 r) ∧ Below w.heap.size w w' := by
 have HB := xA.mk (Below.refl w.heap.size w)
 have H : (r5gcd.l0 k a0 a1) = some r := h
 clear h
 have H' := xA.mk H
 clear H
 go_enter Try.func95, Try.ntmps95
 go_wp2
 go_loopg [0, 1] k (fun kq v0 v1 w' => ∃ (x0_1 : Int) (x1_1 : Int), v0 = .int .i64 x0_1 ∧ v1 = .int .i64 x1_1 ∧ xA (r5gcd.l0 kq x0_1 x1_1 = some r) ∧ xA (kq ≤ k) ∧ xA (Below w.heap.size w w'))
 case atStart => exact ⟨(a0), (a1), rfl, rfl, H', ⟨Nat.le_refl _⟩, ⟨HB.out⟩⟩
 case round =>
  clear H'
  obtain ⟨x0_1, x1_1, rfl, rfl, HA, HK1, HB⟩ := hrel
  obtain _ | k1 := gk
  · exact absurd HA.out (by simp [r5gcd.l0])
  have H := HA.out
  clear HA
  simp only [r5gcd.l0] at H
  by_cases c3 : x1_1 = 0
  rotate_left
  ·
   rw [if_neg c3] at H
   have c3b0 : (x1_1 == 0) = false := jb c3
   have H' := xA.mk H
   clear H
   go_wp2
   repeat (go_quiet (fail); try go_wp2)
   go_roundg k1
   case measure => have := HK1.out; omega
   case rel => exact ⟨(x1_1), (Int.tmod x0_1 x1_1), rfl, rfl, H', ⟨by have := HK1.out; omega⟩, ⟨qb⟩⟩
  rw [if_pos c3] at H
  have c3b0 : (x1_1 == 0) = true := beq_iff_eq.mpr c3
  clear c3
  obtain ⟨ji4, hji4⟩ : ∃ j_ : Int, (mx x0_1 (wrap64 (-x0_1))) = j_ := ⟨_, rfl⟩
  replace H : (some ji4) = some r := by first | (rw [hji4] at H; exact H) | (simp only [hji4] at H ⊢; exact H)
  have hji4_ : (if x0_1 < (wrap64 (-x0_1)) then (wrap64 (-x0_1)) else x0_1) = ji4 := hji4
  obtain rfl := qr H
  go_wp2
  repeat (go_quiet (fail); try go_wp2)
  go_ret
  exact ⟨by first | rfl | (simp [errW_none, errW_some] <;> rfl) | (simp only [← hji4]; first | rfl | (simp [errW_none, errW_some] <;> rfl)) | (simp [*, errW_none, errW_some] <;> rfl), qb⟩
def r5pace.f (k : Nat) (l0 : List (List Int)) (l1 : List Int) : Option (Int × Int) := (r5weight.f k l0 l1).bind fun t481 => ((r5gcd.f k t481 (l1.length : Int)).bind fun t482 => (if t482 = 0 then (none) else (some (wrap64 (Int.tdiv t481 t482), wrap64 ((l1.length : Int) / t482)))))
def r5pace.T3 : Bool × List (List Nat × List Nat) := (true, [([], []), ([], []), ([0, 1], [0, 1]), ([], []), ([3], [3]), ([], []), ([4, 5], [4, 5]), ([2, 6], [2, 6]), ([7, 0, 1, 2, 3, 4, 5, 6, 7], [7])])
def r5pace.B3 : List Nat := [0, 0, 3, 0, 8, 0, 56, 127, 255]
theorem r5pace.tab3 : rtab .any (opsOf Try.f74 3) = r5pace.T3 := by kernel_rfl
theorem r5pace.bits3 : waitsOk r5pace.T3.2 r5pace.B3 = true := by kernel_rfl
set_option maxHeartbeats 8000000 in
set_option maxRecDepth 100000 in
theorem r5pace.calls (k : Nat) (A0 : Option Addr) (c0 : Nat) (l0 : List (List Int)) (A1 : Option Addr) (c1 : Nat) (l1 : List Int) (r1 : Int) (r2 : Int) (w : World) (hr0 : Kd.C (Kd.slice 3 (Kd.int .i64)) w A0 l0.length l0) (hc0 : l0.length ≤ c0) (hr1 : Kd.C (Kd.int .i64) w A1 l1.length l1) (hc1 : l1.length ≤ c1) (h : r5pace.f k l0 l1 = some (r1, r2)) :
  Calls Try.prog 74 #[.slice A0 l0.length c0, .slice A1 l1.length c1] w fun e w' => e = .returned (.agg #[.int .i64 r1, .int .i64 r2]) ∧ Below w.heap.size w w' := by
 have hu37 := Try.underlying37
 have HR0 := xA.mk hr0
 have HC0 := xA.mk hc0
 clear hr0 hc0
 have HR1 := xA.mk hr1
 have HC1 := xA.mk hc1
 clear hr1 hc1
 have HB := xA.mk (Below.refl w.heap.size w)
 have H : ((r5weight.f k l0 l1).bind fun t481 => ((r5gcd.f k t481 (l1.length : Int)).bind fun t482 => (if t482 = 0 then (none) else (some (wrap64 (Int.tdiv t481 t482), wrap64 ((l1.length : Int) / t482)))))) = some (r1, r2) := h
 clear h
 replace H := qq H
 obtain ⟨t481, A30, H⟩ := H
 replace H : ((r5gcd.f k t481 (l1.length : Int)).bind fun t482 => (if t482 = 0 then (none) else (some (wrap64 (Int.tdiv t481 t482), wrap64 ((l1.length : Int) / t482))))) = some (r1, r2) := H
 have A3 := xA.mk A30
 clear A30
 replace H := qq H
 obtain ⟨t482, A40, H⟩ := H
 replace H : (if t482 = 0 then (none) else (some (wrap64 (Int.tdiv t481 t482), wrap64 ((l1.length : Int) / t482)))) = some (r1, r2) := H
 have A4 := xA.mk A40
 clear A40
 by_cases c5 : t482 = 0
 ·
  rw [if_pos c5] at H
  exact absurd H (by simp)
 rw [if_neg c5] at H
 have c5b0 : (t482 == 0) = false := jb c5
 have c5b1 : (t482 != 0) = true := bne_iff_ne.mpr c5
 simp only [Option.some.injEq, Prod.mk.injEq] at H
 obtain ⟨rfl, rfl⟩ := H
 go_enter Try.func74, Try.ntmps74
 try go_wp2_with (first | ((with_reducible refine xX (N := 4) rfl ?_); refine yC ?hg (N := 4) ?hd (cs := #[.int .i64 0, .int .i64 0]) (t := 37) ?hr ?_; (case hd => rfl); (case hg => rfl); (case hr => first | (go_simp; done) | (go_simp; rfl)); intro gb480 hg w6 hbox hb; have n0_ := xA.mk (xE qa hb); have n1_ := xA.mk (hbox); have n2_ := xA.mk ((by rw [hg]; exact (xB qa) : w.heap.size ≤ gb480)); have n3_ := xA.mk ((by rw [hg]; exact (xB qa) : w.heap.size ≤ gb480)); clear HB; have HB := n0_; have BK480 := n1_; have GW480 := n2_; have GE480 := n3_; clear n0_ n1_ n2_ n3_; clear hb hbox hg) | ((with_reducible refine xG (f := 73) rfl ?_); refine xP (some 9) rfl rfl Try.func73 (by kernel_rfl) rfl #[.slice A0 l0.length c0, .slice A1 l1.length c1] rfl qc ?_; (with_reducible refine (r5weight.calls k _ _ l0 _ _ l1 t481 _ ?side1 ?side2 ?side3 ?side4 A3.out).mono ?_); (case side1 => exact qm (Kd.xW HR0.out HB.out)); (case side2 => exact HC0.out); (case side3 => exact qm (Kd.xW HR1.out HB.out)); (case side4 => exact HC1.out); rintro e w' ⟨rfl, ⟨nd, rfl⟩⟩; refine ⟨_, rfl, ?_⟩; (try (rw [drewN_self w6]; generalize hq_ : World.drewN w6 _ = w6; have n0_ : xA (w6.heap[gb480]? = some (.cells #[.int .i64 0, .int .i64 0] 37 (0, 0))) := ⟨by rw [← hq_]; exact (by (with_reducible repeat (first | refine xJ ?_ _ | refine xK ?_ | refine xI ?_ _)); exact BK480.out)⟩; have n1_ : xA (Below w.heap.size w w6) := ⟨by rw [← hq_]; exact (by repeat (first | (with_reducible first | exact HB.out | apply xL | apply xD | apply xH | refine xM ?_ GE480.out) | exact HB.out))⟩; clear BK480 HB hq_; have BK480 := n0_; have HB := n1_; clear n0_ n1_))) | ((with_reducible refine xG (f := 95) rfl ?_); refine xP (some 13) rfl rfl Try.func95 (by kernel_rfl) rfl #[.int .i64 t481, .int .i64 (l1.length : Int)] rfl qc ?_; (with_reducible refine (r5gcd.calls k t481 (l1.length : Int) t482 _ A4.out).mono ?_); rintro e w7 ⟨rfl, hb⟩; refine ⟨_, rfl, ?_⟩; have n0_ := xA.mk (xT (g := gb480) (o := .cells #[.int .i64 0, .int .i64 0] 37 (0, 0)) (by (with_reducible repeat (first | refine xJ ?_ _ | refine xK ?_ | refine xI ?_ _)); exact BK480.out) hb); have n1_ := xA.mk (xE (by repeat (first | (with_reducible first | exact HB.out | apply xL | apply xD | apply xH | refine xM ?_ GE480.out) | exact HB.out)) hb); clear BK480; clear HB; have BK480 := n0_; have HB := n1_; clear n0_ n1_; (try clear hb); (try clear hb2); (try clear hk); (try clear hi)))
 have n0_ := xA.mk (xK BK480.out)
 have n1_ := xA.mk (xH HB.out)
 clear BK480
 clear HB
 have BK480 := n0_
 have HB := n1_
 clear n0_ n1_
 refine start_ (n := 9) (S := fun w' => True) (ds := []) #[false, false, false, false, false, false, false, false, false] (by kernel_rfl) rfl rfl trivial (fun hHeld => ?_); refine with_tabW r5pace.tab3 r5pace.bits3 (fun HT_ HW_ => ?_)
 generalize w7.drew = w8 at BK480 HB hHeld ⊢
 refine pure_ (i := 0) (N := some 14) (v := ?_) (a' := ?_) #[true, false, false, false, false, false, false, false, false] rfl rfl (xQ HT_.out (by kernel_rfl)) (fun _ _ _ h => h) (Or.inl ⟨by rfl, ?_⟩) ?_ ?_
 rotate_left
 ·
  intro w'
  go_simp
  with_reducible rfl
 rotate_left
 ·
  simp only [Act.put, qt, qu, qv, i64_w, i32_w]
  rfl
 refine pure_ (i := 1) (N := some 15) (v := ?_) (a' := ?_) #[true, true, false, false, false, false, false, false, false] rfl rfl (xQ HT_.out (by kernel_rfl)) (fun _ _ _ h => h) (Or.inl ⟨by rfl, ?_⟩) ?_ ?_
 rotate_left
 ·
  intro w'
  go_simp
  with_reducible rfl
 rotate_left
 ·
  simp only [Act.put, qt, qu, qv, i64_w, i32_w]
  rfl
 refine pure_ (i := 2) (N := some 16) (v := ?_) (a' := ?_) #[true, true, true, false, false, false, false, false, false] rfl rfl (xQ HT_.out (by kernel_rfl)) (fun _ _ _ h => h) (Or.inl ⟨by rfl, ?_⟩) ?_ ?_
 rotate_left
 ·
  intro w'
  go_simp
  with_reducible rfl
 rotate_left
 ·
  simp only [Act.put, qt, qu, qv, i64_w, i32_w]
  rfl
 refine pure_ (i := 3) (N := some 17) (v := ?_) (a' := ?_) #[true, true, true, true, false, false, false, false, false] rfl rfl (xQ HT_.out (by kernel_rfl)) (fun _ _ _ h => h) (Or.inl ⟨by rfl, ?_⟩) ?_ ?_
 rotate_left
 ·
  intro w'
  go_simp
  with_reducible rfl
 rotate_left
 ·
  simp only [Act.put, qt, qu, qv, i64_w, i32_w]
  rfl
 refine pure_ (i := 4) (N := some 18) (v := ?_) (a' := ?_) #[true, true, true, true, true, false, false, false, false] rfl rfl (xQ HT_.out (by kernel_rfl)) (fun _ _ _ h => h) (Or.inl ⟨by rfl, ?_⟩) ?_ ?_
 rotate_left
 ·
  intro w'
  go_simp
  with_reducible rfl
 rotate_left
 ·
  simp only [Act.put, qt, qu, qv, i64_w, i32_w]
  rfl
 refine pure_ (i := 5) (N := some 19) (v := ?_) (a' := ?_) #[true, true, true, true, true, true, false, false, false] rfl rfl (xQ HT_.out (by kernel_rfl)) (fun _ _ _ h => h) (Or.inl ⟨by rfl, ?_⟩) ?_ ?_
 rotate_left
 ·
  intro w'
  go_simp
  with_reducible rfl
 rotate_left
 ·
  simp only [Act.put, qt, qu, qv, i64_w, i32_w]
  rfl
 refine pure_ (i := 6) (N := some 20) (v := ?_) (a' := ?_) #[true, true, true, true, true, true, true, false, false] rfl rfl (xQ HT_.out (by kernel_rfl)) (fun _ _ _ h => h) (Or.inl ⟨by rfl, ?_⟩) ?_ ?_
 rotate_left
 ·
  intro w'
  go_simp
  with_reducible rfl
 rotate_left
 ·
  simp only [Act.put, qt, qu, qv, i64_w, i32_w]
  rfl
 refine pure_ (i := 7) (N := some 21) (v := ?_) (a' := ?_) #[true, true, true, true, true, true, true, true, false] rfl rfl (xQ HT_.out (by kernel_rfl)) (fun _ _ _ h => h) (Or.inl ⟨by rfl, ?_⟩) ?_ ?_
 rotate_left
 ·
  intro w'
  go_simp
  with_reducible rfl
 rotate_left
 ·
  simp only [Act.put, qt, qu, qv, i64_w, i32_w]
  rfl
 refine one_ (i := 8) (N := none) #[true, true, true, true, true, true, true, true, true] rfl rfl (one_of HT_.out (by kernel_rfl)) (by decide) (fun K hK => ?_)
 have hs9 : w8.cell? ⟨gb480, 0, none⟩ = some (.int .i64 0) := (xF BK480.out 0).trans rfl
 have hfs9 := xC BK480.out 0
 have hs10 : w8.cell? ⟨gb480, 1, none⟩ = some (.int .i64 0) := (xF BK480.out 1).trans rfl
 have hfs10 := xC BK480.out 1
 refine skip_ (w1 := ?_) (by rfl) rfl ?_ ?_
 rotate_left
 ·
  go_simp
  rfl
 refine hK.out _ _ trivial (fun hHeld => ?_)
 clear hK K
 refine done_ (done_of HT_.out (by kernel_rfl)) ?_
 try go_wp2
 refine bodyPost_ret (results_cell_row rfl _ _ gb480 37 #[.int .i64 (wrap64 (Int.tdiv t481 t482)), .int .i64 (wrap64 ((l1.length : Int) / t482))] (0, 0) _ rfl (by refine xV (cs := #[.int .i64 (wrap64 (Int.tdiv t481 t482)), .int .i64 0]) ?_ 1 _ rfl; refine xV (cs := #[.int .i64 0, .int .i64 0]) ?_ 0 _ rfl; exact BK480.out) Try.underlying37 rfl (by kernel_rfl)) rfl ?_
 exact ⟨rfl, by repeat (first | exact HB.out | apply xL | apply xD | apply xH | refine xM ?_ GE480.out)⟩
def r5Speed.f (k : Nat) (l0 : List (List Int)) : Option (Int × Int × Int) := (r5Matrix.f k l0).bind fun t484 => (if t484 = true then ((r5best.f k l0).bind fun t485 => (if (t485.length : Int) = 0 then (some (0, 0, 10)) else ((r5pace.f k l0 t485).bind fun bt488 => (some (bt488.1, bt488.2, 0))))) else (some (0, 0, 2)))
set_option maxHeartbeats 8000000 in
set_option maxRecDepth 100000 in
theorem r5Speed.calls (k : Nat) (A0 : Option Addr) (c0 : Nat) (l0 : List (List Int)) (r1 : Int) (r2 : Int) (r3 : Int) (w : World) (hr0 : Kd.C (Kd.slice 3 (Kd.int .i64)) w A0 l0.length l0) (hc0 : l0.length ≤ c0) (h : r5Speed.f k l0 = some (r1, r2, r3)) :
  Calls Try.prog 32 #[.slice A0 l0.length c0] w fun e w' => e = .returned (.tuple #[.agg #[.int .i64 r1, .int .i64 r2], .int .i64 r3]) ∧ Below w.heap.size w w' := by
 have hu37 := Try.underlying37
 have HR0 := xA.mk hr0
 have HC0 := xA.mk hc0
 clear hr0 hc0
 have HB := xA.mk (Below.refl w.heap.size w)
 have H : ((r5Matrix.f k l0).bind fun t484 => (if t484 = true then ((r5best.f k l0).bind fun t485 => (if (t485.length : Int) = 0 then (some (0, 0, 10)) else ((r5pace.f k l0 t485).bind fun bt488 => (some (bt488.1, bt488.2, 0))))) else (some (0, 0, 2)))) = some (r1, r2, r3) := h
 clear h
 replace H := qq H
 obtain ⟨t484, A20, H⟩ := H
 replace H : (if t484 = true then ((r5best.f k l0).bind fun t485 => (if (t485.length : Int) = 0 then (some (0, 0, 10)) else ((r5pace.f k l0 t485).bind fun bt488 => (some (bt488.1, bt488.2, 0))))) else (some (0, 0, 2))) = some (r1, r2, r3) := H
 have A2 := xA.mk A20
 clear A20
 by_cases c3 : t484 = true
 rotate_left
 ·
  replace c3 := Bool.eq_false_iff.mpr c3
  subst c3
  have H1 : (some (0, 0, 2)) = some (r1, r2, r3) := by rw [if_neg (show ¬ (false = true) by decide)] at H; exact H
  clear H
  have H := H1
  clear H1
  simp only [Option.some.injEq, Prod.mk.injEq] at H
  obtain ⟨rfl, rfl, rfl⟩ := H
  go_enter Try.func32, Try.ntmps32
  go_wp2_with (first | ((with_reducible refine xX (N := 2) rfl ?_); refine yC ?hg (N := 2) ?hd (cs := #[.int .i64 0, .int .i64 0]) (t := 37) ?hr ?_; (case hd => rfl); (case hg => rfl); (case hr => go_simp); intro gb483 hg w16 hbox hb; have n0_ := xA.mk (xE (HB.out) hb); have n1_ := xA.mk (hbox); have n2_ := xA.mk ((by rw [hg]; exact (xB (HB.out)) : w.heap.size ≤ gb483)); have n3_ := xA.mk ((by rw [hg]; exact (xB (HB.out)) : w.heap.size ≤ gb483)); clear HB; have HB := n0_; have BK483 := n1_; have GW483 := n2_; have GE483 := n3_; clear n0_ n1_ n2_ n3_; clear hb hbox hg) | ((with_reducible refine xG (f := 49) rfl ?_); refine xP (some 6) rfl rfl Try.func49 (by kernel_rfl) rfl #[.slice A0 l0.length c0] rfl qd ?_; (with_reducible refine (r5Matrix.calls k _ _ l0 false _ ?side1 ?side2 A2.out).mono ?_); (case side1 => repeat (first | exact (Kd.xW HR0.out HB.out))); (case side2 => exact HC0.out); rintro e w' ⟨rfl, ⟨nd, rfl⟩⟩; refine ⟨_, rfl, ?_⟩; (try (rw [drewN_self w16]; generalize hq_ : World.drewN w16 _ = w16; have n0_ : xA (w16.heap[gb483]? = some (.cells #[.int .i64 0, .int .i64 0] 37 (0, 0))) := ⟨by rw [← hq_]; exact (by exact BK483.out)⟩; have n1_ : xA (Below w.heap.size w w16) := ⟨by rw [← hq_]; exact (HB.out)⟩; clear BK483 HB hq_; have BK483 := n0_; have HB := n1_; clear n0_ n1_)); have hcz17_0 : w16.cell? ⟨gb483, 0, none⟩ = some (.int .i64 0) := (xF BK483.out 0).trans rfl; have hcz17_1 : w16.cell? ⟨gb483, 1, none⟩ = some (.int .i64 0) := (xF BK483.out 1).trans rfl; have hfz17_0 := xC BK483.out 0; have hfz17_1 := xC BK483.out 1))
  refine bodyPost_ret (results_ct rfl _ _ gb483 37 #[.int .i64 0, .int .i64 0] (0, 0) _ rfl (by refine xV (cs := #[.int .i64 0, .int .i64 0]) ?_ 1 _ rfl; refine xV (cs := #[.int .i64 0, .int .i64 0]) ?_ 0 _ rfl; exact BK483.out) Try.underlying37 rfl (by kernel_rfl)) rfl ?_
  exact ⟨rfl, by repeat (first | exact HB.out | apply xL | apply xD | apply xH | refine xM ?_ GE483.out)⟩
 subst c3
 have H1 : ((r5best.f k l0).bind fun t485 => (if (t485.length : Int) = 0 then (some (0, 0, 10)) else ((r5pace.f k l0 t485).bind fun bt488 => (some (bt488.1, bt488.2, 0))))) = some (r1, r2, r3) := by rw [if_pos rfl] at H; exact H
 clear H
 have H := H1
 clear H1
 replace H := qq H
 obtain ⟨t485, A40, H⟩ := H
 replace H : (if (t485.length : Int) = 0 then (some (0, 0, 10)) else ((r5pace.f k l0 t485).bind fun bt488 => (some (bt488.1, bt488.2, 0)))) = some (r1, r2, r3) := H
 have A4 := xA.mk A40
 clear A40
 by_cases c5 : (t485.length : Int) = 0
 ·
  rw [if_pos c5] at H
  have c5b0 : ((t485.length : Int) == 0) = true := beq_iff_eq.mpr c5
  have c5b1 : ((t485.length : Int) != 0) = false := bne_eq_false_iff_eq.mpr c5
  clear c5
  simp only [Option.some.injEq, Prod.mk.injEq] at H
  obtain ⟨rfl, rfl, rfl⟩ := H
  go_enter Try.func32, Try.ntmps32
  go_wp2_with (first | ((with_reducible refine xX (N := 2) rfl ?_); refine yC ?hg (N := 2) ?hd (cs := #[.int .i64 0, .int .i64 0]) (t := 37) ?hr ?_; (case hd => rfl); (case hg => rfl); (case hr => first | (go_simp; done) | (go_simp; rfl)); intro gb483 hg w6 hbox hb; have n0_ := xA.mk (xE qa hb); have n1_ := xA.mk (hbox); have n2_ := xA.mk ((by rw [hg]; exact (xB qa) : w.heap.size ≤ gb483)); have n3_ := xA.mk ((by rw [hg]; exact (xB qa) : w.heap.size ≤ gb483)); clear HB; have HB := n0_; have BK483 := n1_; have GW483 := n2_; have GE483 := n3_; clear n0_ n1_ n2_ n3_; clear hb hbox hg) | ((with_reducible refine xG (f := 49) rfl ?_); refine xP (some 6) rfl rfl Try.func49 (by kernel_rfl) rfl #[.slice A0 l0.length c0] rfl qc ?_; (with_reducible refine (r5Matrix.calls k _ _ l0 true _ ?side1 ?side2 A2.out).mono ?_); (case side1 => exact qm (Kd.xW HR0.out HB.out)); (case side2 => exact HC0.out); rintro e w' ⟨rfl, ⟨nd, rfl⟩⟩; refine ⟨_, rfl, ?_⟩; (try (rw [drewN_self w6]; generalize hq_ : World.drewN w6 _ = w6; have n0_ : xA (w6.heap[gb483]? = some (.cells #[.int .i64 0, .int .i64 0] 37 (0, 0))) := ⟨by rw [← hq_]; exact (by (with_reducible repeat (first | refine xJ ?_ _ | refine xK ?_ | refine xI ?_ _)); exact BK483.out)⟩; have n1_ : xA (Below w.heap.size w w6) := ⟨by rw [← hq_]; exact (by repeat (first | (with_reducible first | exact HB.out | apply xL | apply xD | apply xH | refine xM ?_ GE483.out) | exact HB.out))⟩; clear BK483 HB hq_; have BK483 := n0_; have HB := n1_; clear n0_ n1_))) | ((with_reducible refine xG (f := 72) rfl ?_); refine xP (some 10) rfl rfl Try.func72 (by kernel_rfl) rfl #[.slice A0 l0.length c0] rfl qc ?_; (with_reducible refine (r5best.calls k _ _ l0 t485 _ ?side1 ?side2 A4.out).mono ?_); (case side1 => exact qm (Kd.xW HR0.out HB.out)); (case side2 => exact HC0.out); rintro e w7 ⟨v486, rfl, ho0, hz0_, hb⟩; refine ⟨_, rfl, ?_⟩; have n0_ := xA.mk (Kd.V_lower (Kd.xY (ok' := fun k_ => k_ ≠ gb483) ho0 (fun k_ hk_ => (Kd.freshB (g := gb483) (o := .cells #[.int .i64 0, .int .i64 0] 37 (0, 0)) (by (with_reducible repeat (first | refine xJ ?_ _ | refine xK ?_ | refine xI ?_ _)); exact BK483.out) k_ hk_))) (xB (by repeat (first | (with_reducible first | exact HB.out | apply xL | apply xD | apply xH | refine xM ?_ GE483.out) | exact HB.out)))); have n1_ := xA.mk (xT (g := gb483) (o := .cells #[.int .i64 0, .int .i64 0] 37 (0, 0)) (by (with_reducible repeat (first | refine xJ ?_ _ | refine xK ?_ | refine xI ?_ _)); exact BK483.out) hb); have n2_ := xA.mk (xE (by repeat (first | (with_reducible first | exact HB.out | apply xL | apply xD | apply xH | refine xM ?_ GE483.out) | exact HB.out)) hb); clear BK483; clear HB; have HO487 := n0_; have BK483 := n1_; have HB := n2_; clear n0_ n1_ n2_; (try clear hb); (try clear hb2); (try clear hk); (try clear hi); (try clear ho0); obtain ⟨Ao8, co8, eo8⟩ := Kd.V_slice HO487.out; subst eo8; have he_ := Kd.V_eql (P := Try.prog) (t := 26) (e' := 3) Try.underlying26 HO487.out hz0_ c5b0; have hn_ := Kd.V_neq (P := Try.prog) (t := 26) (e' := 3) Try.underlying26 HO487.out hz0_ c5b1; clear hz0_; have hcz9_0 : w7.cell? ⟨gb483, 0, none⟩ = some (.int .i64 0) := (xF BK483.out 0).trans rfl; have hcz9_1 : w7.cell? ⟨gb483, 1, none⟩ = some (.int .i64 0) := (xF BK483.out 1).trans rfl; have hfz9_0 := xC BK483.out 0; have hfz9_1 := xC BK483.out 1))
  refine bodyPost_ret (results_ct rfl _ _ gb483 37 #[.int .i64 0, .int .i64 0] (0, 0) _ rfl (by (with_reducible repeat (first | refine xJ ?_ _ | refine xK ?_ | refine xI ?_ _)); refine xV (cs := #[.int .i64 0, .int .i64 0]) ?_ 1 _ rfl; (with_reducible repeat (first | refine xJ ?_ _ | refine xK ?_ | refine xI ?_ _)); refine xV (cs := #[.int .i64 0, .int .i64 0]) ?_ 0 _ rfl; (with_reducible repeat (first | refine xJ ?_ _ | refine xK ?_ | refine xI ?_ _)); exact BK483.out) Try.underlying37 rfl (by kernel_rfl)) rfl ?_
  exact ⟨qg, by repeat (first | (with_reducible first | exact HB.out | apply xL | apply xD | apply xH | refine xM ?_ GE483.out) | exact HB.out)⟩
 rw [if_neg c5] at H
 have c5b0 : ((t485.length : Int) == 0) = false := jb c5
 have c5b1 : ((t485.length : Int) != 0) = true := bne_iff_ne.mpr c5
 have c5b2 : ¬ (t485 = []) := fun h_ => c5 (by rw [h_]; rfl)
 replace H := qq H
 obtain ⟨⟨t488, t489⟩, A100, H⟩ := H
 replace H : (some (t488, t489, 0)) = some (r1, r2, r3) := H
 have A10 := xA.mk A100
 clear A100
 simp only [Option.some.injEq, Prod.mk.injEq] at H
 obtain ⟨rfl, rfl, rfl⟩ := H
 go_enter Try.func32, Try.ntmps32
 go_wp2_with (first | ((with_reducible refine xX (N := 2) rfl ?_); refine yC ?hg (N := 2) ?hd (cs := #[.int .i64 0, .int .i64 0]) (t := 37) ?hr ?_; (case hd => rfl); (case hg => rfl); (case hr => first | (go_simp; done) | (go_simp; rfl)); intro gb483 hg w11 hbox hb; have n0_ := xA.mk (xE qa hb); have n1_ := xA.mk (hbox); have n2_ := xA.mk ((by rw [hg]; exact (xB qa) : w.heap.size ≤ gb483)); have n3_ := xA.mk ((by rw [hg]; exact (xB qa) : w.heap.size ≤ gb483)); clear HB; have HB := n0_; have BK483 := n1_; have GW483 := n2_; have GE483 := n3_; clear n0_ n1_ n2_ n3_; clear hb hbox hg) | ((with_reducible refine xG (f := 49) rfl ?_); refine xP (some 6) rfl rfl Try.func49 (by kernel_rfl) rfl #[.slice A0 l0.length c0] rfl qc ?_; (with_reducible refine (r5Matrix.calls k _ _ l0 true _ ?side1 ?side2 A2.out).mono ?_); (case side1 => exact qm (Kd.xW HR0.out HB.out)); (case side2 => exact HC0.out); rintro e w' ⟨rfl, ⟨nd, rfl⟩⟩; refine ⟨_, rfl, ?_⟩; (try (rw [drewN_self w11]; generalize hq_ : World.drewN w11 _ = w11; have n0_ : xA (w11.heap[gb483]? = some (.cells #[.int .i64 0, .int .i64 0] 37 (0, 0))) := ⟨by rw [← hq_]; exact (by (with_reducible repeat (first | refine xJ ?_ _ | refine xK ?_ | refine xI ?_ _)); exact BK483.out)⟩; have n1_ : xA (Below w.heap.size w w11) := ⟨by rw [← hq_]; exact (by repeat (first | (with_reducible first | exact HB.out | apply xL | apply xD | apply xH | refine xM ?_ GE483.out) | exact HB.out))⟩; clear BK483 HB hq_; have BK483 := n0_; have HB := n1_; clear n0_ n1_))) | ((with_reducible refine xG (f := 72) rfl ?_); refine xP (some 10) rfl rfl Try.func72 (by kernel_rfl) rfl #[.slice A0 l0.length c0] rfl qc ?_; (with_reducible refine (r5best.calls k _ _ l0 t485 _ ?side1 ?side2 A4.out).mono ?_); (case side1 => exact qm (Kd.xW HR0.out HB.out)); (case side2 => exact HC0.out); rintro e w12 ⟨v486, rfl, ho0, hz0_, hb⟩; refine ⟨_, rfl, ?_⟩; have n0_ := xA.mk (Kd.V_lower (Kd.xY (ok' := fun k_ => k_ ≠ gb483) ho0 (fun k_ hk_ => (Kd.freshB (g := gb483) (o := .cells #[.int .i64 0, .int .i64 0] 37 (0, 0)) (by (with_reducible repeat (first | refine xJ ?_ _ | refine xK ?_ | refine xI ?_ _)); exact BK483.out) k_ hk_))) (xB (by repeat (first | (with_reducible first | exact HB.out | apply xL | apply xD | apply xH | refine xM ?_ GE483.out) | exact HB.out)))); have n1_ := xA.mk (xT (g := gb483) (o := .cells #[.int .i64 0, .int .i64 0] 37 (0, 0)) (by (with_reducible repeat (first | refine xJ ?_ _ | refine xK ?_ | refine xI ?_ _)); exact BK483.out) hb); have n2_ := xA.mk (xE (by repeat (first | (with_reducible first | exact HB.out | apply xL | apply xD | apply xH | refine xM ?_ GE483.out) | exact HB.out)) hb); clear BK483; clear HB; have HO487 := n0_; have BK483 := n1_; have HB := n2_; clear n0_ n1_ n2_; (try clear hb); (try clear hb2); (try clear hk); (try clear hi); (try clear ho0); obtain ⟨Ao13, co13, eo13⟩ := Kd.V_slice HO487.out; subst eo13; have he_ := Kd.V_eql (P := Try.prog) (t := 26) (e' := 3) Try.underlying26 HO487.out hz0_ c5b0; have hn_ := Kd.V_neq (P := Try.prog) (t := 26) (e' := 3) Try.underlying26 HO487.out hz0_ c5b1; clear hz0_) | ((with_reducible refine xG (f := 74) rfl ?_); refine xP (some 16) rfl rfl Try.func74 (by kernel_rfl) rfl #[.slice A0 l0.length c0, .slice Ao13 t485.length co13] rfl qc ?_; (with_reducible refine (r5pace.calls k _ _ l0 _ _ t485 t488 t489 _ ?side1 ?side2 ?side3 ?side4 A10.out).mono ?_); (case side1 => exact qm (Kd.xW HR0.out HB.out)); (case side2 => exact HC0.out); (case side3 => exact qm (Kd.xS HO487.out).2.2); (case side4 => exact (Kd.xS HO487.out).2.1); rintro e w14 ⟨rfl, hb⟩; refine ⟨_, rfl, ?_⟩; have n0_ := xA.mk (Kd.V_below (qj HO487.out) hb); have n1_ := xA.mk (xT (g := gb483) (o := .cells #[.int .i64 0, .int .i64 0] 37 (0, 0)) (by (with_reducible repeat (first | refine xJ ?_ _ | refine xK ?_ | refine xI ?_ _)); exact BK483.out) hb); have n2_ := xA.mk (xE (by repeat (first | (with_reducible first | exact HB.out | apply xL | apply xD | apply xH | refine xM ?_ GE483.out) | exact HB.out)) hb); clear HO487; clear BK483; clear HB; have HO487 := n0_; have BK483 := n1_; have HB := n2_; clear n0_ n1_ n2_; (try clear hb); (try clear hb2); (try clear hk); (try clear hi); have hcz15_0 : w14.cell? ⟨gb483, 0, none⟩ = some (.int .i64 0) := (xF BK483.out 0).trans rfl; have hcz15_1 : w14.cell? ⟨gb483, 1, none⟩ = some (.int .i64 0) := (xF BK483.out 1).trans rfl; have hfz15_0 := xC BK483.out 0; have hfz15_1 := xC BK483.out 1))
 refine bodyPost_ret (results_ct rfl _ _ gb483 37 #[.int .i64 t488, .int .i64 t489] (0, 0) _ rfl (by (with_reducible repeat (first | refine xJ ?_ _ | refine xK ?_ | refine xI ?_ _)); refine xV (cs := #[.int .i64 t488, .int .i64 0]) ?_ 1 _ rfl; (with_reducible repeat (first | refine xJ ?_ _ | refine xK ?_ | refine xI ?_ _)); refine xV (cs := #[.int .i64 0, .int .i64 0]) ?_ 0 _ rfl; (with_reducible repeat (first | refine xJ ?_ _ | refine xK ?_ | refine xI ?_ _)); exact BK483.out) Try.underlying37 rfl (by kernel_rfl)) rfl ?_
 exact ⟨qg, by repeat (first | (with_reducible first | exact HB.out | apply xL | apply xD | apply xH | refine xM ?_ GE483.out) | exact HB.out)⟩
mutual
def r5One.l0 : Nat → Int → List (List Int) → Int → Option ((List (List Int)))
 | 0, _, _, _ => none
 | k + 1, x0, x3, x4 => if x4 < x0 then (if 0 ≤ x0 then (if (x0 : Int).toNat ≤ 35184372088832 then (r5One.l1 k x0 x3 x4 (List.replicate (x0 : Int).toNat 0) 0) else (none)) else (none)) else (some x3)
def r5One.l1 : Nat → Int → List (List Int) → Int → List Int → Int → Option ((List (List Int)))
 | 0, _, _, _, _, _ => none
 | k + 1, x0, x3, x4, x5, x6 => if x6 < x0 then (if x4 = x6 then (r5One.l1 k x0 x3 x4 x5 (wrap64 (x6 + 1))) else (if 0 ≤ x6 then (if x6 < (x5.length : Int) then (r5One.l1 k x0 x3 x4 (x5.set (x6 : Int).toNat (-1152921504606846976)) (wrap64 (x6 + 1))) else (none)) else (none))) else (if x3.length < 5864062014805 then (r5One.l0 k x0 (x3 ++ [x5]) (wrap64 (x4 + 1))) else (none))
end
def r5One.f (k : Nat) (a0 : Int) : Option ((List (List Int))) := r5One.l0 k a0 ([] : List (List Int)) 0
set_option maxHeartbeats 8000000 in
set_option maxRecDepth 100000 in
theorem r5One.calls (k : Nat) (a0 : Int) (r : List (List Int)) (w : World) (h : r5One.f k a0 = some r) :
  Calls Try.prog 61 #[.int .i64 a0] w fun e w' => ∃ v0_ : Value, e = .returned (v0_) ∧ Kd.S (Kd.slice 3 (Kd.int .i64)) 26 w' w.heap.size (fun _ => True) v0_ r ∧ Below w.heap.size w w' := by
 have HB := xA.mk (Below.refl w.heap.size w)
 have H : (r5One.l0 k a0 ([] : List (List Int)) 0) = some r := h
 clear h
 have H' := xA.mk H
 clear H
 go_enter Try.func61, Try.ntmps61
 go_wp2
 go_loopg [3, 4] k (fun kq v3 v4 w' => ∃ (x3_1 : List (List Int)) (x4_1 : Int), v4 = .int .i64 x4_1 ∧ xA (r5One.l0 kq a0 x3_1 x4_1 = some r) ∧ xA (kq ≤ k) ∧ xA (Kd.S (Kd.slice 3 (Kd.int .i64)) 26 w' w.heap.size (fun _ => True) v3 x3_1) ∧ xA (Below w.heap.size w w'))
 case atStart => exact ⟨(([] : List (List Int))), (0), rfl, H', ⟨Nat.le_refl _⟩, ⟨by first | exact Kd.S_nil _ _ _ _ _ | exact Kd.N_nil _ _ _ _ _ | exact Kd.V_nil _ _ _ _ _ | exact Kd.Q_nil _ _ _ _ _ | exact Kd.R_nil _ _ _ _ _⟩, ⟨HB.out⟩⟩
 case round =>
  clear H'
  obtain ⟨x3_1, x4_1, rfl, HA, HK1, HO_3, HB⟩ := hrel
  obtain _ | k1 := gk
  · exact absurd HA.out (by simp [r5One.l0])
  have H := HA.out
  clear HA
  simp only [r5One.l0] at H
  by_cases c2 : x4_1 < a0
  rotate_left
  ·
   rw [if_neg c2] at H
   have c2b0 : decide (x4_1 < a0) = false := qp c2
   clear c2
   obtain rfl := qr H
   go_wp2
   go_ret
   exact ⟨_, rfl, by exact HO_3.out, HB.out⟩
  rw [if_pos c2] at H
  have c2b0 : decide (x4_1 < a0) = true := qo c2
  clear c2
  obtain ⟨c3, H⟩ := yD H
  have c3b0 := eq_true c3
  have c3b1 : decide (0 ≤ a0) = true := qo c3
  clear c3
  obtain ⟨c4, H⟩ := yD H
  have c4b0 := eq_true c4
  have c4b1 : decide ((a0 : Int).toNat ≤ 35184372088832) = true := qo c4
  clear c4
  obtain ⟨y490, hy490⟩ : ∃ y_ : List Int, y_ = (List.replicate (a0 : Int).toNat 0) := ⟨_, rfl⟩
  replace H : (r5One.l1 k1 a0 x3_1 x4_1 y490 0) = some r := by first | (rw [hy490]; with_reducible exact H) | (have H2_ := (Option.bind_some _ _).symm.trans H; rw [hy490]; with_reducible exact H2_) | (have H2_ := (Option.bind_some _ _).symm.trans H; with_reducible exact H2_) | with_reducible exact H | (rw [hy490]; exact H) | exact H
  have Ny490 := xA.mk hy490
  clear hy490
  have H' := xA.mk H
  clear H
  go_wp2_with (first | ((with_reducible refine xX (N := 13) rfl ?_); refine Kd.R_make (Kd.int .i64) _ 3 rfl (N := 13) rfl 26 _ _ rfl a0 rfl rfl Try.underlying26 (.int .i64 0) 8 info3 rfl (by decide) (by omega) 0 (ok := fun _ => True) (okp := fun _ => True) rfl (fun _ hk => hk) trivial (qn (by first | (with_reducible assumption) | assumption)) (Nat.le_trans (Nat.mul_le_mul_right _ (qn (by first | (with_reducible assumption) | assumption) : a0.toNat ≤ 35184372088832)) (by omega)) (Below.refl _ _) (Nat.le_refl _) ?_; intro v491 w5 ho6 hb hg_ hnew_; clear hg_ hnew_; (first | rw [← Ny490.out] at ho6 | (simp only [Int.reduceToNat] at ho6; rw [← Ny490.out] at ho6)); replace HO_3 := xA.mk (Kd.yB (qh HO_3.out) (Kd.R_base ho6) hb); have HO492 := xA.mk (Kd.R_lower ho6 (xB qa)); replace HB := xA.mk (xE qa hb); clear hb ho6))
  go_loopg [6] k1 (fun kq v6 w' => ∃ (x5_2 : List Int) (x6_2 : Int), v6 = .int .i64 x6_2 ∧ xA (r5One.l1 kq a0 x3_1 x4_1 x5_2 x6_2 = some r) ∧ xA (kq ≤ k1) ∧ xA (Kd.S (Kd.slice 3 (Kd.int .i64)) 26 w' w.heap.size (fun k_ => some k_ ≠ (v491 : Value).ownBlock) u3 x3_1) ∧ xA (Kd.R (Kd.int .i64) 3 w' w.heap.size (fun _ => True) v491 x5_2) ∧ xA (Below w.heap.size w w'))
  case atStart => exact ⟨(y490), (0), qf, H', ⟨Nat.le_refl _⟩, ⟨by (with_reducible repeat (first | apply Kd.S_alloc | apply Kd.S_drewN | apply Kd.S_drew)); exact Kd.xR HO_3.out (fun _ hk => hk.2)⟩, ⟨qi HO492.out⟩, ⟨qa⟩⟩
  case round =>
   clear H'
   try clear c2
   try clear c2b0
   try clear p2
   try clear c3
   try clear c3b0
   try clear c3b1
   try clear c4
   try clear c4b0
   obtain ⟨x5_2, x6_2, rfl, HA, HK2, HO_3, HO_5, HB⟩ := hrel
   obtain _ | k2 := gk
   · exact absurd HA.out (by simp [r5One.l1])
   have H := HA.out
   clear HA
   simp only [r5One.l1] at H
   by_cases c7 : x6_2 < a0
   rotate_left
   ·
    rw [if_neg c7] at H
    have c7b0 : decide (x6_2 < a0) = false := qp c7
    clear c7
    obtain ⟨c14, H⟩ := yD H
    have LMc14 := xA.mk c14
    clear c14
    obtain ⟨y494, hy494⟩ : ∃ y_ : List (List Int), y_ = (x3_1 ++ [x5_2]) := ⟨_, rfl⟩
    replace H : (r5One.l0 k2 a0 y494 (wrap64 (x4_1 + 1))) = some r := by rw [hy494]; exact H
    have Ny494 := xA.mk hy494
    clear hy494
    have H' := xA.mk H
    clear H
    obtain ⟨Ao16, co16, eo16⟩ := Kd.R_slice HO_5.out
    subst eo16
    go_wp2_with (first | ((with_reducible refine gate_builtin (b := .append) (xs := #[.tmp 25, .tmp 27]) rfl ?_); at_builtin; refine Kd.S_append (Kd.slice 3 (Kd.int .i64)) (w0 := w) w.heap.size rfl (.tmp 25) (.tmp 27) 22 26 (.slice none 0 0) 24 rfl Try.underlying22 info26 rfl (by decide) (by omega) u3 x3_1 x5_2 [.slice Ao16 x5_2.length co16] (fun _ => True) (fun k_ => some k_ = (.slice Ao16 x5_2.length co16 : Value).ownBlock) rfl rfl ?aP (fun k_ hk_ => ((Kd.R_mono (ok' := fun k_ => ((fun _ => True)) k_ ∧ some k_ ≠ (u3 : Value).ownBlock) (Kd.R_apart' (HO_5.out) (Kd.S_typed HO_3.out) (by decide)) (fun k_ hk => ⟨trivial, hk.2⟩))).1 k_ hk_.symm) ?aF ?aO ?aB ?aS ?aL ?_; (case aP => exact Kd.M_row (Kd.R_mono (Kd.R_tight rfl (Kd.R_mono (ok' := fun k_ => ((fun _ => True)) k_ ∧ some k_ ≠ (u3 : Value).ownBlock) (Kd.R_apart' (HO_5.out) (Kd.S_typed HO_3.out) (by decide)) (fun k_ hk => ⟨trivial, hk.2⟩))) (fun _ h_ => h_))); (case aB => exact (HB.out)); (case aF => exact (fun _ _ => trivial)); (case aO => exact (by exact Kd.xR HO_3.out (fun k_ hk => ⟨trivial, fun e_ => hk e_⟩))); (case aS => exact (xB (HB.out))); (case aL => have := LMc14.out; omega); intro v495 w15 ho hb hg hat; rw [← Ny494.out] at ho; have n0_ := xA.mk (hb); have n1_ := xA.mk (ho); clear HB; clear HO_3; clear HO_5; have HB := n0_; have HO496 := n1_; clear n0_ n1_; clear ho hb hg hat))
    go_roundg k2
    case measure => have := HK1.out; have := HK2.out; omega
    case rel => exact ⟨(y494), (wrap64 (x4_1 + 1)), rfl, H', ⟨by have := HK1.out; have := HK2.out; omega⟩, ⟨by exact HO496.out⟩, ⟨HB.out⟩⟩
   rw [if_pos c7] at H
   have c7b0 : decide (x6_2 < a0) = true := qo c7
   clear c7
   by_cases c8 : x4_1 = x6_2
   ·
    rw [if_pos c8] at H
    have c8b0 : (x4_1 == x6_2) = true := beq_iff_eq.mpr c8
    clear c8
    have H' := xA.mk H
    clear H
    go_wp2
    go_roundg k2
    case measure => have := HK1.out; have := HK2.out; omega
    case rel => exact ⟨(x5_2), (wrap64 (x6_2 + 1)), rfl, H', ⟨by have := HK1.out; have := HK2.out; omega⟩, ⟨by exact HO_3.out⟩, ⟨by exact HO_5.out⟩, ⟨HB.out⟩⟩
   rw [if_neg c8] at H
   have c8b0 : (x4_1 == x6_2) = false := jb c8
   obtain ⟨c9b0, H⟩ := xO H
   obtain ⟨c10b0, H⟩ := xO H
   obtain ⟨y493, hy493⟩ : ∃ y_ : List Int, y_ = (x5_2.set (x6_2 : Int).toNat (-1152921504606846976)) := ⟨_, rfl⟩
   replace H : (r5One.l1 k2 a0 x3_1 x4_1 y493 (wrap64 (x6_2 + 1))) = some r := by rw [hy493]; exact H
   have Ny493 := xA.mk hy493
   clear hy493
   have H' := xA.mk H
   clear H
   have p11 : 0 ≤ (x6_2 : Int) := qn (by assumption)
   have q11 : (x6_2 : Int) < ((x5_2.length : Int) : Int) := qn (by assumption)
   obtain ⟨go11, co11, eo11, gb11, gl11, cl11, HG11⟩ := Kd.R_form HO_5.out (by omega)
   (first | cases eo11 | (injection eo11 with ea_ en_ ec_; (first | subst ea_ | (injection ea_ with ea_; subst ea_)); subst ec_; clear en_))
   have GB11 := xA.mk gb11
   have GG11 := xA.mk HG11
   clear gb11 gl11 HG11
   obtain ⟨hx11_0, hf11_0⟩ := Kd.R_celln 0 HO_5.out (x6_2 : Int) p11 q11
   replace p11 := eq_true p11
   replace q11 := eq_true q11
   have HP12 := Kd.R_putg HO_5.out (x6_2 : Int) (-1152921504606846976)
   go_wp2_with (first | ((with_reducible refine gate_store (t := 3) (p := 24) rfl ?_); refine store_event (t := 3) (p := 24) (v := ?vo_w13) (w1 := (wr.setCell ⟨go11, (x6_2 : Int).toNat, none⟩ (.int .i64 (-1152921504606846976)))) ?hg ?ho ?hn ?hr ?_; (case ho => rfl); (case hg => rfl); (case hn => rfl); (case hr => go_simp); intro w13 hw; have hg : wr.grownBy w13 (some go11) := (by rw [hw]; exact HP12.2); have hp_ : Kd.R (Kd.int .i64) 3 w13 w.heap.size (fun _ => True) (.slice (some ⟨go11, 0, none⟩) x5_2.length co11) y493 := (by rw [hw, Ny493.out]; exact HP12.1); clear HP12; have n0_ := xA.mk (Kd.S_after (v := (.slice (some ⟨go11, 0, none⟩) x5_2.length co11)) (v1 := (.slice (some ⟨go11, 0, none⟩) x5_2.length co11)) (ok := (fun _ => True)) (by exact Kd.xR HO_3.out (fun _ hk => ⟨trivial, hk⟩)) hg (.inl rfl)); have n1_ := xA.mk (hp_); have n2_ := xA.mk ((by rw [hw]; exact xM (HB.out) GB11.out : Below w.heap.size w w13)); clear HO_3; clear HO_5; clear HB; have HO_3 := n0_; have HO_5 := n1_; have HB := n2_; clear n0_ n1_ n2_; clear hg hw hp_))
   go_roundg k2
   case measure => have := HK1.out; have := HK2.out; omega
   case rel => exact ⟨(y493), (wrap64 (x6_2 + 1)), rfl, H', ⟨by have := HK1.out; have := HK2.out; omega⟩, ⟨by exact Kd.xR HO_3.out (fun _ hk => hk.2)⟩, ⟨by exact HO_5.out⟩, ⟨HB.out⟩⟩
def r5plus.f (a0 : Int) (a1 : Int) : Option (Int) := if a0 = (-1152921504606846976) then (some (-1152921504606846976)) else (if a1 = (-1152921504606846976) then (some (-1152921504606846976)) else (some (wrap64 (a0 + a1))))
set_option maxHeartbeats 8000000 in
set_option maxRecDepth 100000 in
theorem r5plus.calls (a0 : Int) (a1 : Int) (r : Int) (w : World) (h : r5plus.f a0 a1 = some r) :
  Calls Try.prog 77 #[.int .i64 a0, .int .i64 a1] w fun e w' => e = .returned (.int .i64 r) ∧ Drawn0 w w' := by
 have H : (if a0 = (-1152921504606846976) then (some (-1152921504606846976)) else (if a1 = (-1152921504606846976) then (some (-1152921504606846976)) else (some (wrap64 (a0 + a1))))) = some r := h
 clear h
 by_cases c3 : a0 = (-1152921504606846976)
 ·
  rw [if_pos c3] at H
  have c3b0 : (a0 == (-1152921504606846976)) = true := beq_iff_eq.mpr c3
  clear c3
  obtain rfl := qr H
  go_enter Try.func77, Try.ntmps77
  go_wp2
  go_ret
  exact ⟨qf, qe⟩
 ·
  rw [if_neg c3] at H
  have c3b0 : (a0 == (-1152921504606846976)) = false := jb c3
  by_cases c4 : a1 = (-1152921504606846976)
  ·
   rw [if_pos c4] at H
   have c4b0 : (a1 == (-1152921504606846976)) = true := beq_iff_eq.mpr c4
   clear c4
   obtain rfl := qr H
   go_enter Try.func77, Try.ntmps77
   go_wp2
   go_ret
   exact ⟨qf, qe⟩
  ·
   rw [if_neg c4] at H
   have c4b0 : (a1 == (-1152921504606846976)) = false := jb c4
   obtain rfl := qr H
   go_enter Try.func77, Try.ntmps77
   go_wp2
   go_ret
   exact ⟨qf, qe⟩
mutual
def r5Product.l0 : Nat → List (List Int) → List (List Int) → List (List Int) → Int → Option ((List (List Int)))
 | 0, _, _, _, _ => none
 | k + 1, x0, x1, x5, x6 => if x6 < (x0.length : Int) then (r5Product.l1 k x0 x1 x5 x6 ([] : List Int) 0) else (some x5)
def r5Product.l1 : Nat → List (List Int) → List (List Int) → List (List Int) → Int → List Int → Int → Option ((List (List Int)))
 | 0, _, _, _, _, _, _ => none
 | k + 1, x0, x1, x5, x6, x7, x8 => if x8 < (x0.length : Int) then (r5Product.l2 k x0 x1 x5 x6 x7 x8 (-1152921504606846976) 0) else (if x5.length < 5864062014805 then (r5Product.l0 k x0 x1 (x5 ++ [x7]) (wrap64 (x6 + 1))) else (none))
def r5Product.l2 : Nat → List (List Int) → List (List Int) → List (List Int) → Int → List Int → Int → Int → Int → Option ((List (List Int)))
 | 0, _, _, _, _, _, _, _, _ => none
 | k + 1, x0, x1, x5, x6, x7, x8, x9, x10 => if x10 < (x0.length : Int) then (if 0 ≤ x6 then (if x6 < (x0.length : Int) then (if 0 ≤ x10 then (if x10 < ((rd_L1 x0 x6).length : Int) then (if x10 < (x1.length : Int) then (if 0 ≤ x8 then (if x8 < ((rd_L1 x1 x10).length : Int) then ((r5plus.f (rd (rd_L1 x0 x6) x10) (rd (rd_L1 x1 x10) x8)).bind fun t504 => (r5Product.l2 k x0 x1 x5 x6 x7 x8 (mx x9 t504) (wrap64 (x10 + 1)))) else (none)) else (none)) else (none)) else (none)) else (none)) else (none)) else (none)) else (if x7.length < 17592186044416 then (r5Product.l1 k x0 x1 x5 x6 (x7 ++ [x9]) (wrap64 (x8 + 1))) else (none))
end
def r5Product.f (k : Nat) (l0 : List (List Int)) (l1 : List (List Int)) : Option ((List (List Int))) := r5Product.l0 k l0 l1 ([] : List (List Int)) 0
set_option maxHeartbeats 8000000 in
set_option maxRecDepth 100000 in
theorem r5Product.calls (k : Nat) (A0 : Option Addr) (c0 : Nat) (l0 : List (List Int)) (A1 : Option Addr) (c1 : Nat) (l1 : List (List Int)) (r : List (List Int)) (w : World) (hr0 : Kd.C (Kd.slice 3 (Kd.int .i64)) w A0 l0.length l0) (hc0 : l0.length ≤ c0) (hr1 : Kd.C (Kd.slice 3 (Kd.int .i64)) w A1 l1.length l1) (hc1 : l1.length ≤ c1) (h : r5Product.f k l0 l1 = some r) :
  Calls Try.prog 62 #[.slice A0 l0.length c0, .slice A1 l1.length c1] w fun e w' => ∃ v0_ : Value, e = .returned (v0_) ∧ Kd.S (Kd.slice 3 (Kd.int .i64)) 26 w' w.heap.size (fun _ => True) v0_ r ∧ Below w.heap.size w w' := by
 have HR0 := xA.mk hr0
 have HC0 := xA.mk hc0
 clear hr0 hc0
 have HR1 := xA.mk hr1
 have HC1 := xA.mk hc1
 clear hr1 hc1
 have HB := xA.mk (Below.refl w.heap.size w)
 have H : (r5Product.l0 k l0 l1 ([] : List (List Int)) 0) = some r := h
 clear h
 have H' := xA.mk H
 clear H
 go_enter Try.func62, Try.ntmps62
 go_wp2
 go_loopg [5, 6] k (fun kq v5 v6 w' => ∃ (x5_1 : List (List Int)) (x6_1 : Int), v6 = .int .i64 x6_1 ∧ xA (r5Product.l0 kq l0 l1 x5_1 x6_1 = some r) ∧ xA (kq ≤ k) ∧ xA (Kd.S (Kd.slice 3 (Kd.int .i64)) 26 w' w.heap.size (fun _ => True) v5 x5_1) ∧ xA (Below w.heap.size w w'))
 case atStart => exact ⟨(([] : List (List Int))), (0), rfl, H', ⟨Nat.le_refl _⟩, ⟨by first | exact Kd.S_nil _ _ _ _ _ | exact Kd.N_nil _ _ _ _ _ | exact Kd.V_nil _ _ _ _ _ | exact Kd.Q_nil _ _ _ _ _ | exact Kd.R_nil _ _ _ _ _⟩, ⟨HB.out⟩⟩
 case round =>
  clear H'
  obtain ⟨x5_1, x6_1, rfl, HA, HK1, HO_5, HB⟩ := hrel
  obtain _ | k1 := gk
  · exact absurd HA.out (by simp [r5Product.l0])
  have H := HA.out
  clear HA
  simp only [r5Product.l0] at H
  by_cases c3 : x6_1 < (l0.length : Int)
  rotate_left
  ·
   rw [if_neg c3] at H
   have c3b0 : decide (x6_1 < (l0.length : Int)) = false := qp c3
   clear c3
   obtain rfl := qr H
   go_wp2
   go_ret
   exact ⟨_, rfl, by exact HO_5.out, HB.out⟩
  rw [if_pos c3] at H
  have c3b0 : decide (x6_1 < (l0.length : Int)) = true := qo c3
  clear c3
  have H' := xA.mk H
  clear H
  go_wp2
  go_loopg [7, 8] k1 (fun kq v7 v8 w' => ∃ (x7_2 : List Int) (x8_2 : Int), v8 = .int .i64 x8_2 ∧ xA (r5Product.l1 kq l0 l1 x5_1 x6_1 x7_2 x8_2 = some r) ∧ xA (kq ≤ k1) ∧ xA (Kd.S (Kd.slice 3 (Kd.int .i64)) 26 w' w.heap.size (fun k_ => some k_ ≠ (v7 : Value).ownBlock) u5 x5_1) ∧ xA (Kd.R (Kd.int .i64) 3 w' w.heap.size (fun _ => True) v7 x7_2) ∧ xA (Below w.heap.size w w'))
  case atStart => exact ⟨(([] : List Int)), (0), rfl, H', ⟨Nat.le_refl _⟩, ⟨by exact Kd.xR HO_5.out (fun _ hk => (by simp [Value.ownBlock]))⟩, ⟨by first | exact Kd.R_nil _ _ _ _ _ | exact Kd.N_nil _ _ _ _ _ | exact Kd.V_nil _ _ _ _ _ | exact Kd.Q_nil _ _ _ _ _ | exact Kd.S_nil _ _ _ _ _⟩, ⟨HB.out⟩⟩
  case round =>
   clear H'
   obtain ⟨x7_2, x8_2, rfl, HA, HK2, HO_5, HO_7, HB⟩ := hrel
   obtain _ | k2 := gk
   · exact absurd HA.out (by simp [r5Product.l1])
   have H := HA.out
   clear HA
   simp only [r5Product.l1] at H
   by_cases c4 : x8_2 < (l0.length : Int)
   rotate_left
   ·
    rw [if_neg c4] at H
    have c4b0 : decide (x8_2 < (l0.length : Int)) = false := qp c4
    clear c4
    obtain ⟨c17, H⟩ := yD H
    have LMc17 := xA.mk c17
    clear c17
    obtain ⟨y497, hy497⟩ : ∃ y_ : List (List Int), y_ = (x5_1 ++ [x7_2]) := ⟨_, rfl⟩
    replace H : (r5Product.l0 k2 l0 l1 y497 (wrap64 (x6_1 + 1))) = some r := by rw [hy497]; exact H
    have Ny497 := xA.mk hy497
    clear hy497
    have H' := xA.mk H
    clear H
    obtain ⟨Ao19, co19, eo19⟩ := Kd.R_slice HO_7.out
    subst eo19
    go_wp2_with (first | ((with_reducible refine gate_builtin (b := .append) (xs := #[.tmp 50, .tmp 52]) rfl ?_); at_builtin; refine Kd.S_append (Kd.slice 3 (Kd.int .i64)) (w0 := w) w.heap.size rfl (.tmp 50) (.tmp 52) 22 26 (.slice none 0 0) 24 rfl Try.underlying22 info26 rfl (by decide) (by omega) u5 x5_1 x7_2 [.slice Ao19 x7_2.length co19] (fun _ => True) (fun k_ => some k_ = (.slice Ao19 x7_2.length co19 : Value).ownBlock) rfl rfl ?aP (fun k_ hk_ => ((Kd.R_mono (ok' := fun k_ => ((fun _ => True)) k_ ∧ some k_ ≠ (u5 : Value).ownBlock) (Kd.R_apart' (HO_7.out) (Kd.S_typed HO_5.out) (by decide)) (fun k_ hk => ⟨trivial, hk.2⟩))).1 k_ hk_.symm) ?aF ?aO ?aB ?aS ?aL ?_; (case aP => exact Kd.M_row (Kd.R_mono (Kd.R_tight rfl (Kd.R_mono (ok' := fun k_ => ((fun _ => True)) k_ ∧ some k_ ≠ (u5 : Value).ownBlock) (Kd.R_apart' (HO_7.out) (Kd.S_typed HO_5.out) (by decide)) (fun k_ hk => ⟨trivial, hk.2⟩))) (fun _ h_ => h_))); (case aB => exact (HB.out)); (case aF => exact (fun _ _ => trivial)); (case aO => exact (by exact Kd.xR HO_5.out (fun k_ hk => ⟨trivial, fun e_ => hk e_⟩))); (case aS => exact (xB (HB.out))); (case aL => have := LMc17.out; omega); intro v498 w18 ho hb hg hat; rw [← Ny497.out] at ho; have n0_ := xA.mk (hb); have n1_ := xA.mk (ho); clear HB; clear HO_5; clear HO_7; have HB := n0_; have HO499 := n1_; clear n0_ n1_; clear ho hb hg hat))
    go_roundg k2
    case measure => have := HK1.out; have := HK2.out; omega
    case rel => exact ⟨(y497), (wrap64 (x6_1 + 1)), rfl, H', ⟨by have := HK1.out; have := HK2.out; omega⟩, ⟨by exact HO499.out⟩, ⟨HB.out⟩⟩
   rw [if_pos c4] at H
   have c4b0 : decide (x8_2 < (l0.length : Int)) = true := qo c4
   clear c4
   have H' := xA.mk H
   clear H
   go_wp2
   go_loopg [9, 10] k2 (fun kq v9 v10 w' => ∃ (x9_3 : Int) (x10_3 : Int), v9 = .int .i64 x9_3 ∧ v10 = .int .i64 x10_3 ∧ xA (r5Product.l2 kq l0 l1 x5_1 x6_1 x7_2 x8_2 x9_3 x10_3 = some r) ∧ xA (kq ≤ k2) ∧ xA (Kd.S (Kd.slice 3 (Kd.int .i64)) 26 w' w.heap.size (fun k_ => some k_ ≠ (u7 : Value).ownBlock) u5 x5_1) ∧ xA (Kd.R (Kd.int .i64) 3 w' w.heap.size (fun _ => True) u7 x7_2) ∧ xA (Below w.heap.size w w'))
   case atStart => exact ⟨((-1152921504606846976)), (0), rfl, rfl, H', ⟨Nat.le_refl _⟩, ⟨by exact HO_5.out⟩, ⟨by exact HO_7.out⟩, ⟨HB.out⟩⟩
   case round =>
    clear H'
    obtain ⟨x9_3, x10_3, rfl, rfl, HA, HK3, HO_5, HO_7, HB⟩ := hrel
    obtain _ | k3 := gk
    · exact absurd HA.out (by simp [r5Product.l2])
    have H := HA.out
    clear HA
    simp only [r5Product.l2] at H
    by_cases c5 : x10_3 < (l0.length : Int)
    rotate_left
    ·
     rw [if_neg c5] at H
     have c5b0 : decide (x10_3 < (l0.length : Int)) = false := qp c5
     clear c5
     obtain ⟨c15, H⟩ := yD H
     have LMc15 := xA.mk c15
     clear c15
     obtain ⟨y505, hy505⟩ : ∃ y_ : List Int, y_ = (x7_2 ++ [x9_3]) := ⟨_, rfl⟩
     replace H : (r5Product.l1 k3 l0 l1 x5_1 x6_1 y505 (wrap64 (x8_2 + 1))) = some r := by rw [hy505]; exact H
     have Ny505 := xA.mk hy505
     clear hy505
     have H' := xA.mk H
     clear H
     go_wp2_with (first | ((with_reducible refine gate_builtin (b := .append) (xs := #[.tmp 46, .tmp 48]) rfl ?_); at_builtin; refine Kd.R_append (Kd.int .i64) (w0 := w) w.heap.size rfl (.tmp 46) (.tmp 48) 26 3 (.int .i64 0) 8 rfl Try.underlying26 info3 rfl (by decide) (by omega) u7 x7_2 x9_3 [.int .i64 x9_3] (fun _ => True) (fun _ => False) rfl rfl ?aP (fun _ hk => hk.elim) ?aF ?aO ?aB ?aS ?aL ?_; (case aP => exact rfl); (case aB => exact (HB.out)); (case aF => exact (fun _ _ => trivial)); (case aO => exact (by exact HO_7.out)); (case aS => exact (xB (HB.out))); (case aL => have := LMc15.out; omega); intro v506 w16 ho hb hg hat; rw [← Ny505.out] at ho; have n0_ := xA.mk (Kd.S_after (ok := (fun _ => True)) (by exact Kd.xR HO_5.out (fun _ hk => ⟨trivial, hk⟩)) hg hat); have n1_ := xA.mk (hb); have n2_ := xA.mk (ho); clear HO_5; clear HB; clear HO_7; have HO_5 := n0_; have HB := n1_; have HO507 := n2_; clear n0_ n1_ n2_; clear ho hb hg hat))
     go_roundg k3
     case measure => have := HK1.out; have := HK2.out; have := HK3.out; omega
     case rel => exact ⟨(y505), (wrap64 (x8_2 + 1)), rfl, H', ⟨by have := HK1.out; have := HK2.out; have := HK3.out; omega⟩, ⟨by exact Kd.xR HO_5.out (fun _ hk => hk.2)⟩, ⟨by exact HO507.out⟩, ⟨HB.out⟩⟩
    rw [if_pos c5] at H
    have c5b0 : decide (x10_3 < (l0.length : Int)) = true := qo c5
    clear c5
    obtain ⟨c6b0, H⟩ := xO H
    obtain ⟨c7b0, H⟩ := xO H
    obtain ⟨c8b0, H⟩ := xO H
    obtain ⟨c9b0, H⟩ := xO H
    obtain ⟨c10b0, H⟩ := xO H
    obtain ⟨c11b0, H⟩ := xO H
    obtain ⟨c12b0, H⟩ := xO H
    replace H := qq H
    obtain ⟨t504, A130, H⟩ := H
    replace H : (r5Product.l2 k3 l0 l1 x5_1 x6_1 x7_2 x8_2 (mx x9_3 t504) (wrap64 (x10_3 + 1))) = some r := H
    have A13 := xA.mk A130
    clear A130
    obtain ⟨ji14, hji14⟩ : ∃ j_ : Int, (mx x9_3 t504) = j_ := ⟨_, rfl⟩
    replace H : (r5Product.l2 k3 l0 l1 x5_1 x6_1 x7_2 x8_2 ji14 (wrap64 (x10_3 + 1))) = some r := by first | (rw [hji14] at H; exact H) | (simp only [hji14] at H ⊢; exact H)
    (try rw [hji14] at A13)
    have hji14_ : (if x9_3 < t504 then t504 else x9_3) = ji14 := hji14
    have H' := xA.mk H
    clear H
    have p500 : 0 ≤ (x6_1 : Int) := qn (by assumption)
    have q500 : x6_1 < (l0.length : Int) := qn (by assumption)
    obtain ⟨ad500, A500_0, c500_0, e500, hx500_0, hl500_0, hi500_0⟩ := at_L1 HR0.out x6_1 p500 q500
    cases e500
    replace hx500_0 := (HB.out.cell (World.block_lt_of_cell? w _ hx500_0)).trans hx500_0
    have HR500_0 := xA.mk hi500_0
    have HC500_0 := xA.mk hl500_0
    clear hi500_0 hl500_0
    replace p500 := eq_true p500
    replace q500 := eq_true q500
    have p501 : 0 ≤ (x10_3 : Int) := qn (by assumption)
    have q501 : x10_3 < ((rd_L1 l0 x6_1).length : Int) := qn (by assumption)
    obtain ⟨ad501, e501, hx501_0⟩ := Kd.xU HR500_0.out x10_3 p501 q501
    cases e501
    replace hx501_0 := (HB.out.cell (World.block_lt_of_cell? w _ hx501_0)).trans hx501_0
    replace p501 := eq_true p501
    replace q501 := eq_true q501
    have p502 : 0 ≤ (x10_3 : Int) := qn (by assumption)
    have q502 : x10_3 < (l1.length : Int) := qn (by assumption)
    obtain ⟨ad502, A502_0, c502_0, e502, hx502_0, hl502_0, hi502_0⟩ := at_L1 HR1.out x10_3 p502 q502
    cases e502
    replace hx502_0 := (HB.out.cell (World.block_lt_of_cell? w _ hx502_0)).trans hx502_0
    have HR502_0 := xA.mk hi502_0
    have HC502_0 := xA.mk hl502_0
    clear hi502_0 hl502_0
    replace p502 := eq_true p502
    replace q502 := eq_true q502
    have p503 : 0 ≤ (x8_2 : Int) := qn (by assumption)
    have q503 : x8_2 < ((rd_L1 l1 x10_3).length : Int) := qn (by assumption)
    obtain ⟨ad503, e503, hx503_0⟩ := Kd.xU HR502_0.out x8_2 p503 q503
    cases e503
    replace hx503_0 := (HB.out.cell (World.block_lt_of_cell? w _ hx503_0)).trans hx503_0
    replace p503 := eq_true p503
    replace q503 := eq_true q503
    go_wp2_with (first | (go_at_call 77; (with_reducible refine (r5plus.calls (rd (rd_L1 l0 x6_1) x10_3) (rd (rd_L1 l1 x10_3) x8_2) t504 _ A13.out).mono ?_); rintro e w' ⟨rfl, ⟨nd, rfl⟩⟩; (try first | exact ⟨rfl, _, World.drewN_drewN _ _ _⟩ | exact ⟨rfl, _, Eq.trans (World.drewN_drewN _ _ _) (congrArg (World.drewN _) (Nat.add_assoc _ _ _))⟩)))
    repeat (go_quiet (first | (go_at_call 77; (with_reducible refine (r5plus.calls (rd (rd_L1 l0 x6_1) x10_3) (rd (rd_L1 l1 x10_3) x8_2) t504 _ A13.out).mono ?_); rintro e w' ⟨rfl, ⟨nd, rfl⟩⟩; (try first | exact ⟨rfl, _, World.drewN_drewN _ _ _⟩ | exact ⟨rfl, _, Eq.trans (World.drewN_drewN _ _ _) (congrArg (World.drewN _) (Nat.add_assoc _ _ _))⟩))); try go_wp2_with (first | (go_at_call 77; (with_reducible refine (r5plus.calls (rd (rd_L1 l0 x6_1) x10_3) (rd (rd_L1 l1 x10_3) x8_2) t504 _ A13.out).mono ?_); rintro e w' ⟨rfl, ⟨nd, rfl⟩⟩; (try first | exact ⟨rfl, _, World.drewN_drewN _ _ _⟩ | exact ⟨rfl, _, Eq.trans (World.drewN_drewN _ _ _) (congrArg (World.drewN _) (Nat.add_assoc _ _ _))⟩))))
    go_roundg k3
    case measure => have := HK1.out; have := HK2.out; have := HK3.out; omega
    case rel => exact ⟨(ji14), (wrap64 (x10_3 + 1)), (by first | rfl | (simp; done) | (simp only [← hji14] <;> (first | rfl | simp)) | (simp [*]; done)), rfl, H', ⟨by have := HK1.out; have := HK2.out; have := HK3.out; omega⟩, ⟨by exact HO_5.out⟩, ⟨by exact HO_7.out⟩, ⟨qb⟩⟩
end Go.Proofs.Ythjmfbmffchicaa.V
