/- Walks of functions that the law LineRegimes reaches: each theorem '.calls' says that the call comes to what its printed plain function says, under the conditions that stand in it. -/
import Derived.Test.YthjmfbmffchicaaKGHub
import Derived.Test.YthjmfbmffchicaaKGf0
import Derived.Test.YthjmfbmffchicaaKGf1
import Derived.Test.YthjmfbmffchicaaKGf2
import Derived.Test.YthjmfbmffchicaaKGf3
namespace Go.Proofs.Ythjmfbmffchicaa.V
open Go.RowKit Go.Proofs.YthjmfbmffchicaaW.PrintWords Go.Proofs.YthjmfbmffchicaaW.PrintLast Go.Proofs.YthjmfbmffchicaaW.PrintMore
attribute [local go_sem] max2_int min2_int max_two min_two max_three min_three max_four min_four
set_option maxHeartbeats 8000000
set_option maxRecDepth 100000
set_option linter.unusedVariables false
set_option linter.unusedSimpArgs false
mutual
def r5Eigen.j0 : Nat → List (List Int) → Bool → Int → Int → Option (List Int × Int)
 | 0, _, _, _, _ => none
 | k + 1, x0, x26, x568000, x568001 => if x26 = true then (some (([] : List Int), 10)) else ((r5critical.f k x0 x568000 x568001).bind fun t569 => (if 0 < (t569.length : Int) then ((r5scaled.f k x0 x568000 x568001).bind fun t573 => ((r5walks.f k t573).bind fun t576 => (if 0 < (t576.length : Int) then (if 0 ≤ (rd t569 0) then (if (rd t569 0) < ((rd_L1 t576 0).length : Int) then (r5Eigen.l0 k x0 (rd t569 0) t576 (rd (rd_L1 t576 0) (rd t569 0)) 1) else (none)) else (none)) else (none)))) else (none)))
def r5Eigen.l0 : Nat → List (List Int) → Int → List (List Int) → Int → Int → Option (List Int × Int)
 | 0, _, _, _, _, _ => none
 | k + 1, x0, x6, x7, x8, x9 => if x9 < (x0.length : Int) then (if 0 ≤ x9 then (if x9 < (x7.length : Int) then (if 0 ≤ x6 then (if x6 < ((rd_L1 x7 x9).length : Int) then (r5Eigen.l0 k x0 x6 x7 (mn x8 (rd (rd_L1 x7 x9) x6)) (wrap64 (x9 + 1))) else (none)) else (none)) else (none)) else (none)) else (r5Eigen.l1 k x0 x6 x7 x8 ([] : List Int) 0)
def r5Eigen.l1 : Nat → List (List Int) → Int → List (List Int) → Int → List Int → Int → Option (List Int × Int)
 | 0, _, _, _, _, _, _ => none
 | k + 1, x0, x6, x7, x8, x10, x11 => if x11 < (x0.length : Int) then (if 0 ≤ x11 then (if x11 < (x7.length : Int) then (if 0 ≤ x6 then (if x6 < ((rd_L1 x7 x11).length : Int) then (if x10.length < 17592186044416 then (r5Eigen.l1 k x0 x6 x7 x8 (x10 ++ [wrap64 ((rd (rd_L1 x7 x11) x6) - x8)]) (wrap64 (x11 + 1))) else (none)) else (none)) else (none)) else (none)) else (none)) else (some (x10, 0))
end
def r5Eigen.f (k : Nat) (l0 : List (List Int)) : Option (List Int × Int) := (r5Matrix.f k l0).bind fun t563 => (if t563 = true then ((r5Speed.f k l0).bind fun bt564 => (if bt564.2.2 = 0 then ((r5connected.f k l0).bind fun t568 => (r5Eigen.j0 k l0 (!t568) bt564.1 bt564.2.1)) else (r5Eigen.j0 k l0 true bt564.1 bt564.2.1))) else (some (([] : List Int), 2)))
theorem r5Eigen.calls (k : Nat) (A0 : Option Addr) (c0 : Nat) (l0 : List (List Int)) (r1 : List Int) (r2 : Int) (w : World) (hr0 : Kd.C (Kd.slice 3 (Kd.int .i64)) w A0 l0.length l0) (hc0 : l0.length ≤ c0) (h : r5Eigen.f k l0 = some (r1, r2)) :
  Calls Try.prog 16 #[.slice A0 l0.length c0] w fun e w' => ∃ v0_ : Value, e = .returned (.tuple #[v0_, .int .i64 r2]) ∧ Kd.R (Kd.int .i64) 3 w' w.heap.size (fun _ => True) v0_ r1 ∧ Below w.heap.size w w' := by
 have hu37 := Try.underlying37
 have HR0 := xA.mk hr0
 have HC0 := xA.mk hc0
 clear hr0 hc0
 have HB := xA.mk (Below.refl w.heap.size w)
 have H : ((r5Matrix.f k l0).bind fun t563 => (if t563 = true then ((r5Speed.f k l0).bind fun bt564 => (if bt564.2.2 = 0 then ((r5connected.f k l0).bind fun t568 => (r5Eigen.j0 k l0 (!t568) bt564.1 bt564.2.1)) else (r5Eigen.j0 k l0 true bt564.1 bt564.2.1))) else (some (([] : List Int), 2)))) = some (r1, r2) := h
 clear h
 replace H := qw H
 obtain ⟨t563, A20, H⟩ := H
 replace H : (if t563 = true then ((r5Speed.f k l0).bind fun bt564 => (if bt564.2.2 = 0 then ((r5connected.f k l0).bind fun t568 => (r5Eigen.j0 k l0 (!t568) bt564.1 bt564.2.1)) else (r5Eigen.j0 k l0 true bt564.1 bt564.2.1))) else (some (([] : List Int), 2))) = some (r1, r2) := H
 have A2 := xA.mk A20
 clear A20
 by_cases c3 : t563 = true
 rotate_left
 ·
  replace c3 := Bool.eq_false_iff.mpr c3
  subst c3
  have H1 : (some (([] : List Int), 2)) = some (r1, r2) := by rw [if_neg (show ¬ (false = true) by decide)] at H; exact H
  clear H
  have H := H1
  clear H1
  simp only [Option.some.injEq, Prod.mk.injEq] at H
  obtain ⟨rfl, rfl⟩ := H
  go_enter Try.func16, Try.ntmps16
  go_wp2_with (first | ((with_reducible refine xG (f := 49) rfl ?_); refine xM (some 13) rfl rfl Try.func49 jk rfl #[.slice A0 l0.length c0] rfl qd ?_; (with_reducible refine (r5Matrix.calls k _ _ l0 false _ ?side1 ?side2 A2.out).mono ?_); (case side1 => repeat (first | exact HR0.out)); (case side2 => exact HC0.out); rintro e w' ⟨rfl, ⟨nd, rfl⟩⟩; refine ⟨_, rfl, ?_⟩))
  go_ret2
  exact ⟨_, rfl, by first | exact Kd.R_nil _ _ _ _ _ | exact Kd.N_nil _ _ _ _ _ | exact Kd.V_nil _ _ _ _ _ | exact Kd.Q_nil _ _ _ _ _ | exact Kd.S_nil _ _ _ _ _, qb⟩
 subst c3
 have H1 : ((r5Speed.f k l0).bind fun bt564 => (if bt564.2.2 = 0 then ((r5connected.f k l0).bind fun t568 => (r5Eigen.j0 k l0 (!t568) bt564.1 bt564.2.1)) else (r5Eigen.j0 k l0 true bt564.1 bt564.2.1))) = some (r1, r2) := by rw [if_pos rfl] at H; exact H
 clear H
 have H := H1
 clear H1
 replace H := qw H
 obtain ⟨⟨t564, t565, t566⟩, A40, H⟩ := H
 replace H : (if t566 = 0 then ((r5connected.f k l0).bind fun t568 => (r5Eigen.j0 k l0 (!t568) t564 t565)) else (r5Eigen.j0 k l0 true t564 t565)) = some (r1, r2) := H
 have A4 := xA.mk A40
 clear A40
 have HC5 := xA.mk H
 clear H
 go_enter Try.func16, Try.ntmps16
 go_upto_region 4 with (first | ((with_reducible refine xG (f := 49) rfl ?_); refine xM (some 13) rfl rfl Try.func49 jk rfl #[.slice A0 l0.length c0] rfl qc ?_; (with_reducible refine (r5Matrix.calls k _ _ l0 true _ ?side1 ?side2 A2.out).mono ?_); (case side1 => exact qm HR0.out); (case side2 => exact HC0.out); rintro e w' ⟨rfl, ⟨nd, rfl⟩⟩; refine ⟨_, rfl, ?_⟩) | ((with_reducible refine xG (f := 32) rfl ?_); refine xM (some 17) rfl rfl Try.func32 jk rfl #[.slice A0 l0.length c0] rfl qc ?_; (with_reducible refine (r5Speed.calls k _ _ l0 t564 t565 t566 _ ?side1 ?side2 A4.out).mono ?_); (case side1 => exact qm HR0.out); (case side2 => exact HC0.out); rintro e w6 ⟨rfl, hb⟩; refine ⟨_, rfl, ?_⟩; replace HB := xA.mk (xD qa hb); (try clear hb); (try clear hb2); (try clear hk); (try clear hi)) | ((with_reducible refine xZ (N := 4) rfl ?_); refine yD ?hg (N := 4) ?hd (cs := #[.int .i64 0, .int .i64 0]) (t := 37) ?hr ?_; (case hd => rfl); (case hg => rfl); (case hr => first | (go_simp; done) | (go_simp; rfl)); intro gb567 hg w7 hbox hb; have n0_ := xA.mk (xD qa hb); have n1_ := xA.mk (hbox); have n2_ := xA.mk ((by rw [hg]; exact (xB qa) : w.heap.size ≤ gb567)); have n3_ := xA.mk ((by rw [hg]; exact (xB qa) : w.heap.size ≤ gb567)); clear HB; have HB := n0_; have BK567 := n1_; have GW567 := n2_; have GE567 := n3_; clear n0_ n1_ n2_ n3_; clear hb hbox hg; have hcz8_0 : w7.cell? ⟨gb567, 0, none⟩ = some (.int .i64 0) := (xE BK567.out 0).trans rfl; have hcz8_1 : w7.cell? ⟨gb567, 1, none⟩ = some (.int .i64 0) := (xE BK567.out 1).trans rfl; have hfz8_0 := xC BK567.out 0; have hfz8_1 := xC BK567.out 1))
 (try simp only [Act.put, qy, qz, ja])
 go_cut [26] (fun v26 wc => ∃ (kq : Nat) (x26_4 : Bool), v26 = .bool x26_4 ∧ xA (r5Eigen.j0 kq l0 x26_4 t564 t565 = some (r1, r2)) ∧ xA (kq ≤ k) ∧ xA (wc.heap[gb567]? = some (.cells #[.int .i64 t564, .int .i64 t565] 37 (0, 0))) ∧ xA (Below w.heap.size w wc))
 case first =>
  have H := HC5.out
  clear HC5
  by_cases c9 : t566 = 0
  rotate_left
  ·
   rw [if_neg c9] at H
   have c9b0 : (t566 == 0) = false := jg c9
   (first | rw [c9b0] | skip)
   have H' := xA.mk H
   clear H
   go_wp2
   go_meet
   case rel => exact ⟨_, (true), rfl, H', ⟨by first | omega | exact Nat.le_refl _⟩, ⟨by (with_reducible repeat (first | refine xK ?_ _ | refine xI ?_ | refine xJ ?_ _)); refine xV (cs := #[.int .i64 t564, .int .i64 0]) ?_ 1 _ rfl; (with_reducible repeat (first | refine xK ?_ _ | refine xI ?_ | refine xJ ?_ _)); refine xV (cs := #[.int .i64 0, .int .i64 0]) ?_ 0 _ rfl; (with_reducible repeat (first | refine xK ?_ _ | refine xI ?_ | refine xJ ?_ _)); exact BK567.out⟩, ⟨qo GE567.out⟩⟩
  rw [if_pos c9] at H
  have c9b0 : (t566 == 0) = true := beq_iff_eq.mpr c9
  have c9b1 : (t566 != 0) = false := bne_eq_false_iff_eq.mpr c9
  clear c9
  (first | rw [c9b0] | (simp only [i64_w, i32_w]; rw [c9b0]) | skip)
  replace H := qw H
  obtain ⟨t568, A100, H⟩ := H
  replace H : (r5Eigen.j0 k l0 (!t568) t564 t565) = some (r1, r2) := H
  have A10 := xA.mk A100
  clear A100
  have H' := xA.mk H
  clear H
  go_wp2_with (first | (go_at_call 50; (with_reducible refine (r5connected.calls k _ _ l0 t568 _ ?side1 ?side2 A10.out).mono ?_); (case side1 => exact Kd.xQ HR0.out (qo GE567.out)); (case side2 => exact HC0.out); rintro e w11 ⟨rfl, hb⟩; have n0_ := xA.mk (xO (g := gb567) (o := .cells #[.int .i64 t564, .int .i64 t565] 37 (0, 0)) (by (with_reducible repeat (first | refine xK ?_ _ | refine xI ?_ | refine xJ ?_ _)); refine xV (cs := #[.int .i64 t564, .int .i64 0]) ?_ 1 _ rfl; (with_reducible repeat (first | refine xK ?_ _ | refine xI ?_ | refine xJ ?_ _)); refine xV (cs := #[.int .i64 0, .int .i64 0]) ?_ 0 _ rfl; (with_reducible repeat (first | refine xK ?_ _ | refine xI ?_ | refine xJ ?_ _)); exact BK567.out) hb); have n1_ := xA.mk (xD (qo GE567.out) hb); clear BK567; clear HB; have BK567 := n0_; have HB := n1_; clear n0_ n1_))
  go_meet
  case rel => exact ⟨_, (!t568), rfl, H', ⟨by first | omega | exact Nat.le_refl _⟩, ⟨qn BK567.out⟩, ⟨qo GE567.out⟩⟩
 case rest =>
  clear HC5
  obtain ⟨kq, x26_4, rfl, HA, HJ4, BK567, HB⟩ := hcut
  obtain _ | kj4 := kq
  · exact absurd HA.out (by simp [r5Eigen.j0])
  have H := HA.out
  clear HA
  simp only [r5Eigen.j0] at H
  by_cases c12 : x26_4 = true
  ·
   subst c12
   have H1 : (some (([] : List Int), 10)) = some (r1, r2) := by rw [if_pos rfl] at H; exact H
   clear H
   have H := H1
   clear H1
   simp only [Option.some.injEq, Prod.mk.injEq] at H
   obtain ⟨rfl, rfl⟩ := H
   go_wp2
   go_ret2
   exact ⟨_, rfl, by first | exact Kd.R_nil _ _ _ _ _ | exact Kd.N_nil _ _ _ _ _ | exact Kd.V_nil _ _ _ _ _ | exact Kd.Q_nil _ _ _ _ _ | exact Kd.S_nil _ _ _ _ _, HB.out⟩
  replace c12 := Bool.eq_false_iff.mpr c12
  subst c12
  have H1 : ((r5critical.f kj4 l0 t564 t565).bind fun t569 => (if 0 < (t569.length : Int) then ((r5scaled.f kj4 l0 t564 t565).bind fun t573 => ((r5walks.f kj4 t573).bind fun t576 => (if 0 < (t576.length : Int) then (if 0 ≤ (rd t569 0) then (if (rd t569 0) < ((rd_L1 t576 0).length : Int) then (r5Eigen.l0 kj4 l0 (rd t569 0) t576 (rd (rd_L1 t576 0) (rd t569 0)) 1) else (none)) else (none)) else (none)))) else (none))) = some (r1, r2) := by rw [if_neg (show ¬ (false = true) by decide)] at H; exact H
  clear H
  have H := H1
  clear H1
  replace H := qw H
  obtain ⟨t569, A130, H⟩ := H
  replace H : (if 0 < (t569.length : Int) then ((r5scaled.f kj4 l0 t564 t565).bind fun t573 => ((r5walks.f kj4 t573).bind fun t576 => (if 0 < (t576.length : Int) then (if 0 ≤ (rd t569 0) then (if (rd t569 0) < ((rd_L1 t576 0).length : Int) then (r5Eigen.l0 kj4 l0 (rd t569 0) t576 (rd (rd_L1 t576 0) (rd t569 0)) 1) else (none)) else (none)) else (none)))) else (none)) = some (r1, r2) := H
  have A13 := xA.mk A130
  clear A130
  obtain ⟨c14b0, H⟩ := xF H
  replace H := qw H
  obtain ⟨t573, A150, H⟩ := H
  replace H : ((r5walks.f kj4 t573).bind fun t576 => (if 0 < (t576.length : Int) then (if 0 ≤ (rd t569 0) then (if (rd t569 0) < ((rd_L1 t576 0).length : Int) then (r5Eigen.l0 kj4 l0 (rd t569 0) t576 (rd (rd_L1 t576 0) (rd t569 0)) 1) else (none)) else (none)) else (none))) = some (r1, r2) := H
  have A15 := xA.mk A150
  clear A150
  replace H := qw H
  obtain ⟨t576, A160, H⟩ := H
  replace H : (if 0 < (t576.length : Int) then (if 0 ≤ (rd t569 0) then (if (rd t569 0) < ((rd_L1 t576 0).length : Int) then (r5Eigen.l0 kj4 l0 (rd t569 0) t576 (rd (rd_L1 t576 0) (rd t569 0)) 1) else (none)) else (none)) else (none)) = some (r1, r2) := H
  have A16 := xA.mk A160
  clear A160
  obtain ⟨c17b0, H⟩ := xF H
  obtain ⟨c18b0, H⟩ := xF H
  obtain ⟨c19b0, H⟩ := xF H
  have H' := xA.mk H
  clear H
  have hcz20_0 : wc.cell? ⟨gb567, 0, none⟩ = some (.int .i64 t564) := (xE BK567.out 0).trans rfl
  have hcz20_1 : wc.cell? ⟨gb567, 1, none⟩ = some (.int .i64 t565) := (xE BK567.out 1).trans rfl
  have hfz20_0 := xC BK567.out 0
  have hfz20_1 := xC BK567.out 1
  go_wp2_with (first | ((with_reducible refine xG (f := 51) rfl ?_); refine xM (some 29) rfl rfl Try.func51 jk rfl #[.slice A0 l0.length c0, .agg #[.int .i64 t564, .int .i64 t565]] rfl qd ?_; (with_reducible refine (r5critical.calls kj4 _ _ l0 t564 t565 t569 _ ?side1 ?side2 A13.out).mono ?_); (case side1 => repeat (first | exact (Kd.xQ HR0.out HB.out))); (case side2 => exact HC0.out); rintro e w21 ⟨v570, rfl, ho0, hb⟩; refine ⟨_, rfl, ?_⟩; have HO571 := xA.mk (Kd.R_lower ho0 (xB (HB.out))); replace BK567 := xA.mk (xO (g := gb567) (o := .cells #[.int .i64 t564, .int .i64 t565] 37 (0, 0)) (by exact BK567.out) hb); replace HB := xA.mk (xD (HB.out) hb); obtain ⟨Ao22, co22, eo22⟩ := Kd.R_slice HO571.out; subst eo22; have p572 : 0 ≤ (0 : Int) := jj; have q572 : 0 < (t569.length : Int) := qq; obtain ⟨ad572, e572, hx572_0⟩ := Kd.xU (Kd.R_reads' HO571.out).2.2 0 p572 q572; cases e572; have qi572 : (0 < t569.length) = True := eq_true jj; (try rw [show ((0 : Int)).toNat = 0 from rfl] at hx572_0); (try rw [Addr.add_zero'] at hx572_0); replace p572 := eq_true p572; replace q572 := eq_true q572; have hcz23_0 : w21.cell? ⟨gb567, 0, none⟩ = some (.int .i64 t564) := (xE BK567.out 0).trans rfl; have hcz23_1 : w21.cell? ⟨gb567, 1, none⟩ = some (.int .i64 t565) := (xE BK567.out 1).trans rfl; have hfz23_0 := xC BK567.out 0; have hfz23_1 := xC BK567.out 1) | ((with_reducible refine xG (f := 53) rfl ?_); refine xM (some 34) rfl rfl Try.func53 jk rfl #[.slice A0 l0.length c0, .agg #[.int .i64 t564, .int .i64 t565]] rfl qd ?_; (with_reducible refine (r5scaled.calls kj4 _ _ l0 t564 t565 t573 _ ?side1 ?side2 A15.out).mono ?_); (case side1 => repeat (first | exact (Kd.xQ HR0.out HB.out))); (case side2 => exact HC0.out); rintro e w24 ⟨v574, rfl, ho0, hb⟩; refine ⟨_, rfl, ?_⟩; have HO575 := xA.mk (Kd.S_lower (Kd.S_new' ho0 (Kd.R_lt (by exact HO571.out))) (xB (HB.out))); replace HO571 := xA.mk (Kd.R_below (by exact HO571.out) hb); replace BK567 := xA.mk (xO (g := gb567) (o := .cells #[.int .i64 t564, .int .i64 t565] 37 (0, 0)) (by exact BK567.out) hb); replace HB := xA.mk (xD (HB.out) hb); obtain ⟨Ao25, co25, eo25⟩ := Kd.yC HO575.out; subst eo25) | ((with_reducible refine xG (f := 52) rfl ?_); refine xM (some 35) rfl rfl Try.func52 jk rfl #[.slice Ao25 t573.length co25] rfl qd ?_; (with_reducible refine (r5walks.calls kj4 _ _ t573 t576 _ ?side1 ?side2 A16.out).mono ?_); (case side1 => repeat (first | exact (Kd.xH HO575.out).2.2)); (case side2 => exact (Kd.xH HO575.out).2.1); rintro e w26 ⟨v577, rfl, ho0, hb⟩; refine ⟨_, rfl, ?_⟩; have HO578 := xA.mk (Kd.S_lower (Kd.S_new' (Kd.S_new' ho0 (Kd.R_lt (by exact HO571.out))) (Kd.S_lt (by exact HO575.out))) (xB (HB.out))); replace HO571 := xA.mk (Kd.R_below (by exact HO571.out) hb); replace HO575 := xA.mk (Kd.S_elder' (by exact HO575.out) (Kd.S_base ho0) hb); replace BK567 := xA.mk (xO (g := gb567) (o := .cells #[.int .i64 t564, .int .i64 t565] 37 (0, 0)) (by exact BK567.out) hb); replace HB := xA.mk (xD (HB.out) hb); obtain ⟨Ao27, co27, eo27⟩ := Kd.yC HO578.out; subst eo27; have p579 : 0 ≤ (0 : Int) := jj; have q579 : 0 < (t576.length : Int) := qq; obtain ⟨ad579, A579_0, c579_0, e579, hx579_0, hl579_0, hi579_0⟩ := at_L1 (Kd.xH HO578.out).2.2 0 p579 q579; cases e579; obtain ⟨ce579, hce579, hMe579, hcc579⟩ := Kd.S_get HO578.out [] 0 p579 (by first | exact q579 | exact qq | (have e_ := (Kd.xH HO578.out).1; omega)); obtain ⟨ve579_0, rfl, ge579_0⟩ := hMe579; have hv579_0 := hcc579 0 _ rfl; rw [Nat.add_zero, show ((Kd.slice 3 (Kd.int .i64))).sz = 1 from rfl, Nat.mul_one] at hv579_0; replace hv579_0 := qx (hv579_0.symm.trans hx579_0); rw [hv579_0] at ge579_0; have HL579_0 := xA.mk (show Kd.R (Kd.int .i64) 3 _ _ _ _ (rd_L1 t576 0) from ge579_0); clear hv579_0 ge579_0; clear hcc579 hce579; have qi579 : (0 < t576.length) = True := eq_true jj; (try rw [show ((0 : Int)).toNat = 0 from rfl] at hx579_0); (try rw [Addr.add_zero'] at hx579_0); have HR579_0 := xA.mk hi579_0; have HC579_0 := xA.mk hl579_0; clear hi579_0 hl579_0; replace p579 := eq_true p579; replace q579 := eq_true q579; have p580 : 0 ≤ ((rd t569 0) : Int) := qq; have q580 : (rd t569 0) < ((rd_L1 t576 0).length : Int) := qq; obtain ⟨ad580, e580, hx580_0⟩ := Kd.xU (by repeat (first | (with_reducible exact HR579_0.out) | exact HR579_0.out)) (rd t569 0) p580 q580; cases e580; replace p580 := eq_true p580; replace q580 := eq_true q580))
  go_loopg [8, 9] kj4 (fun kq v8 v9 w' => ∃ (x8_2 : Int) (x9_2 : Int), v8 = .int .i64 x8_2 ∧ v9 = .int .i64 x9_2 ∧ xA (r5Eigen.l0 kq l0 (rd t569 0) t576 x8_2 x9_2 = some (r1, r2)) ∧ xA (kq ≤ kj4) ∧ xA (Kd.S (Kd.slice 3 (Kd.int .i64)) 26 w' w.heap.size (fun _ => True) (.slice (some ad579) t576.length co27) t576) ∧ xA (w'.heap[gb567]? = some (.cells #[.int .i64 t564, .int .i64 t565] 37 (0, 0))) ∧ xA (Kd.C (Kd.int .i64) w' (some ad580) (rd_L1 t576 0).length (rd_L1 t576 0)) ∧ xA (Below w.heap.size w w'))
  case atStart => exact ⟨(rd (rd_L1 t576 0) (rd t569 0)), (1), rfl, rfl, H', ⟨Nat.le_refl _⟩, ⟨by exact Kd.xT HO578.out (fun _ hk => trivial)⟩, ⟨by exact BK567.out⟩, ⟨by repeat (first | (with_reducible exact HR579_0.out) | exact HR579_0.out)⟩, ⟨HB.out⟩⟩
  case round =>
   clear H'
   obtain ⟨x8_2, x9_2, rfl, rfl, HA, HK2, HO_7, BK567, HR579_0, HB⟩ := hrel
   obtain _ | k2 := gk
   · exact absurd HA.out (by simp [r5Eigen.l0])
   have H := HA.out
   clear HA
   simp only [r5Eigen.l0] at H
   obtain ⟨c28b0, H⟩ | ⟨c28b0, H⟩ := yA H
   ·
    obtain ⟨c29b0, H⟩ := xF H
    obtain ⟨c30b0, H⟩ := xF H
    obtain ⟨c31b0, H⟩ := xF H
    obtain ⟨c32b0, H⟩ := xF H
    obtain ⟨ji33, hji33⟩ : ∃ j_ : Int, (mn x8_2 (rd (rd_L1 t576 x9_2) (rd t569 0))) = j_ := ⟨_, rfl⟩
    replace H : (r5Eigen.l0 k2 l0 (rd t569 0) t576 ji33 (wrap64 (x9_2 + 1))) = some (r1, r2) := by first | (rw [hji33] at H; exact H) | (simp only [hji33] at H ⊢; exact H)
    have hji33_ : (if (rd (rd_L1 t576 x9_2) (rd t569 0)) < x8_2 then (rd (rd_L1 t576 x9_2) (rd t569 0)) else x8_2) = ji33 := hji33
    have H' := xA.mk H
    clear H
    have p581 : 0 ≤ (x9_2 : Int) := qq
    have q581 : x9_2 < (t576.length : Int) := qq
    obtain ⟨ad581, A581_0, c581_0, e581, hx581_0, hl581_0, hi581_0⟩ := at_L1 (Kd.xH HO_7.out).2.2 x9_2 p581 q581
    obtain rfl : ad579 = ad581 := (by injection e581)
    obtain ⟨ce581, hce581, hMe581, hcc581⟩ := Kd.S_get HO_7.out [] x9_2 p581 (by first | exact q581 | exact qq | (have e_ := (Kd.xH HO_7.out).1; omega))
    obtain ⟨ve581_0, rfl, ge581_0⟩ := hMe581
    have hv581_0 := hcc581 0 _ rfl
    rw [Nat.add_zero, show ((Kd.slice 3 (Kd.int .i64))).sz = 1 from rfl, Nat.mul_one] at hv581_0
    replace hv581_0 := qx (hv581_0.symm.trans hx581_0)
    rw [hv581_0] at ge581_0
    have HL581_0 := xA.mk (show Kd.R (Kd.int .i64) 3 _ _ _ _ (rd_L1 t576 x9_2) from ge581_0)
    clear hv581_0 ge581_0
    clear hcc581 hce581
    have HR581_0 := xA.mk hi581_0
    have HC581_0 := xA.mk hl581_0
    clear hi581_0 hl581_0
    replace p581 := eq_true p581
    replace q581 := eq_true q581
    have p582 : 0 ≤ ((rd t569 0) : Int) := qq
    have q582 : (rd t569 0) < ((rd_L1 t576 x9_2).length : Int) := qq
    obtain ⟨ad582, e582, hx582_0⟩ := Kd.xU (by repeat (first | (with_reducible exact HR581_0.out) | exact HR581_0.out)) (rd t569 0) p582 q582
    cases e582
    replace p582 := eq_true p582
    replace q582 := eq_true q582
    go_wp2
    go_roundg k2
    case measure => have := HJ4.out; have := HK2.out; omega
    case rel => exact ⟨(ji33), (wrap64 (x9_2 + 1)), (by first | rfl | (simp; done) | (simp only [← hji33] <;> (first | rfl | simp)) | (simp [*]; done)), rfl, H', ⟨by have := HJ4.out; have := HK2.out; omega⟩, ⟨by exact HO_7.out⟩, ⟨by exact BK567.out⟩, ⟨by repeat (first | (with_reducible exact HR579_0.out) | exact HR579_0.out)⟩, ⟨HB.out⟩⟩
   have H' := xA.mk H
   clear H
   go_wp2
   go_loopg [10, 11] k2 (fun kq v10 v11 w' => ∃ (x10_3 : List Int) (x11_3 : Int), v11 = .int .i64 x11_3 ∧ xA (r5Eigen.l1 kq l0 (rd t569 0) t576 x8_2 x10_3 x11_3 = some (r1, r2)) ∧ xA (kq ≤ k2) ∧ xA (Kd.S (Kd.slice 3 (Kd.int .i64)) 26 w' w.heap.size (fun k_ => some k_ ≠ (v10 : Value).ownBlock) (.slice (some ad579) t576.length co27) t576) ∧ xA (Kd.R (Kd.int .i64) 3 w' w.heap.size (fun _ => True) v10 x10_3) ∧ xA (w'.heap[gb567]? = some (.cells #[.int .i64 t564, .int .i64 t565] 37 (0, 0))) ∧ xA (Below w.heap.size w w'))
   case atStart => exact ⟨(([] : List Int)), (0), rfl, H', ⟨Nat.le_refl _⟩, ⟨by exact Kd.xT HO_7.out (fun _ hk => (by simp [Value.ownBlock]))⟩, ⟨by first | exact Kd.R_nil _ _ _ _ _ | exact Kd.N_nil _ _ _ _ _ | exact Kd.V_nil _ _ _ _ _ | exact Kd.Q_nil _ _ _ _ _ | exact Kd.S_nil _ _ _ _ _⟩, ⟨by exact BK567.out⟩, ⟨HB.out⟩⟩
   case round =>
    clear H'
    obtain ⟨x10_3, x11_3, rfl, HA, HK3, HO_7, HO_10, BK567, HB⟩ := hrel
    obtain _ | k3 := gk
    · exact absurd HA.out (by simp [r5Eigen.l1])
    have H := HA.out
    clear HA
    simp only [r5Eigen.l1] at H
    obtain ⟨c34b0, H⟩ | ⟨c34b0, H⟩ := yA H
    rotate_left
    ·
     simp only [Option.some.injEq, Prod.mk.injEq] at H
     obtain ⟨rfl, rfl⟩ := H
     go_wp2
     go_ret2
     exact ⟨_, rfl, by exact HO_10.out, HB.out⟩
    obtain ⟨c35b0, H⟩ := xF H
    obtain ⟨c36b0, H⟩ := xF H
    obtain ⟨c37b0, H⟩ := xF H
    obtain ⟨c38b0, H⟩ := xF H
    obtain ⟨c39, H⟩ := yF H
    have LMc39 := xA.mk c39
    clear c39
    obtain ⟨y585, hy585⟩ : ∃ y_ : List Int, y_ = (x10_3 ++ [wrap64 ((rd (rd_L1 t576 x11_3) (rd t569 0)) - x8_2)]) := ⟨_, rfl⟩
    replace H : (r5Eigen.l1 k3 l0 (rd t569 0) t576 x8_2 y585 (wrap64 (x11_3 + 1))) = some (r1, r2) := by rw [hy585]; exact H
    have Ny585 := xA.mk hy585
    clear hy585
    have H' := xA.mk H
    clear H
    have p583 : 0 ≤ (x11_3 : Int) := qq
    have q583 : x11_3 < (t576.length : Int) := qq
    obtain ⟨ad583, A583_0, c583_0, e583, hx583_0, hl583_0, hi583_0⟩ := at_L1 (Kd.xH HO_7.out).2.2 x11_3 p583 q583
    obtain rfl : ad579 = ad583 := (by injection e583)
    obtain ⟨ce583, hce583, hMe583, hcc583⟩ := Kd.S_get HO_7.out [] x11_3 p583 (by first | exact q583 | exact qq | (have e_ := (Kd.xH HO_7.out).1; omega))
    obtain ⟨ve583_0, rfl, ge583_0⟩ := hMe583
    have hv583_0 := hcc583 0 _ rfl
    rw [Nat.add_zero, show ((Kd.slice 3 (Kd.int .i64))).sz = 1 from rfl, Nat.mul_one] at hv583_0
    replace hv583_0 := qx (hv583_0.symm.trans hx583_0)
    rw [hv583_0] at ge583_0
    have HL583_0 := xA.mk (show Kd.R (Kd.int .i64) 3 _ _ _ _ (rd_L1 t576 x11_3) from ge583_0)
    clear hv583_0 ge583_0
    clear hcc583 hce583
    have HR583_0 := xA.mk hi583_0
    have HC583_0 := xA.mk hl583_0
    clear hi583_0 hl583_0
    replace p583 := eq_true p583
    replace q583 := eq_true q583
    have p584 : 0 ≤ ((rd t569 0) : Int) := qq
    have q584 : (rd t569 0) < ((rd_L1 t576 x11_3).length : Int) := qq
    obtain ⟨ad584, e584, hx584_0⟩ := Kd.xU (by repeat (first | (with_reducible exact HR583_0.out) | exact HR583_0.out)) (rd t569 0) p584 q584
    cases e584
    replace p584 := eq_true p584
    replace q584 := eq_true q584
    go_wp2_with (first | ((with_reducible refine gate_builtin (b := .append) (xs := #[.tmp 63, .tmp 73]) rfl ?_); at_builtin; refine Kd.R_append (Kd.int .i64) (w0 := w) w.heap.size rfl (.tmp 63) (.tmp 73) 26 3 (.int .i64 0) 8 rfl Try.underlying26 info3 rfl (by decide) jj u10 x10_3 (wrap64 ((rd (rd_L1 t576 x11_3) (rd t569 0)) - x8_2)) [.int .i64 (wrap64 ((rd (rd_L1 t576 x11_3) (rd t569 0)) - x8_2))] (fun _ => True) (fun _ => False) rfl rfl ?aP (fun _ hk => hk.elim) ?aF ?aO ?aB ?aS ?aL ?_; (case aP => exact rfl); (case aB => exact (HB.out)); (case aF => exact (fun _ _ => trivial)); (case aO => exact (by exact HO_10.out)); (case aS => exact (xB (HB.out))); (case aL => have := LMc39.out; omega); intro v586 w40 ho hb hg hat; rw [← Ny585.out] at ho; have n0_ := xA.mk (Kd.S_after (ok := (fun _ => True)) (by exact Kd.xT HO_7.out (fun _ hk => ⟨trivial, hk⟩)) hg hat); have n1_ := xA.mk (blk_grown (g := gb567) (o := .cells #[.int .i64 t564, .int .i64 t565] 37 (0, 0)) (by exact BK567.out) hg (Kd.R_ne HO_10.out BK567.out (by decide))); have n2_ := xA.mk (Kd.R_after (ok := (fun k_ => some k_ ≠ (.slice (some ad579) t576.length co27 : Value).ownBlock)) (by exact Kd.R_mono HL583_0.out (fun _ hk => ⟨hk.2, hk.1⟩)) hg hat); have n3_ := xA.mk (hb); have n4_ := xA.mk (ho); clear HO_7; clear BK567; clear HL583_0; clear HB; clear HO_10; have HO_7 := n0_; have BK567 := n1_; have HL583_0 := n2_; have HB := n3_; have HO587 := n4_; clear n0_ n1_ n2_ n3_ n4_; clear ho hb hg hat))
    go_roundg k3
    case measure => have := HJ4.out; have := HK2.out; have := HK3.out; omega
    case rel => exact ⟨(y585), (wrap64 (x11_3 + 1)), rfl, H', ⟨by have := HJ4.out; have := HK2.out; have := HK3.out; omega⟩, ⟨by exact Kd.xT HO_7.out (fun _ hk => hk.2)⟩, ⟨by exact HO587.out⟩, ⟨by exact BK567.out⟩, ⟨HB.out⟩⟩
mutual
def r5ahead.l0 : Nat → List (List Int) → List (List Int) → Int → Int → Int → Option (Bool)
 | 0, _, _, _, _, _ => none
 | k + 1, x0, x1, x2, x3, x9 => if x9 < (x0.length : Int) then (r5ahead.l1 k x0 x1 x2 x3 x9 0) else (some true)
def r5ahead.l1 : Nat → List (List Int) → List (List Int) → Int → Int → Int → Int → Option (Bool)
 | 0, _, _, _, _, _, _ => none
 | k + 1, x0, x1, x2, x3, x9, x10 => if x10 < (x0.length : Int) then (if 0 ≤ x9 then (if x9 < (x0.length : Int) then (if 0 ≤ x10 then (if x10 < ((rd_L1 x0 x9).length : Int) then (if x9 < (x1.length : Int) then (if x10 < ((rd_L1 x1 x9).length : Int) then (if x3 = 0 then (none) else ((r5plus.f (rd (rd_L1 x1 x9) x10) (wrap64 (Int.tdiv x2 x3))).bind fun t592 => (if (rd (rd_L1 x0 x9) x10) = t592 then (r5ahead.l1 k x0 x1 x2 x3 x9 (wrap64 (x10 + 1))) else (some false)))) else (none)) else (none)) else (none)) else (none)) else (none)) else (none)) else (r5ahead.l0 k x0 x1 x2 x3 (wrap64 (x9 + 1)))
end
def r5ahead.f (k : Nat) (l0 : List (List Int)) (l1 : List (List Int)) (a2 : Int) (a3 : Int) : Option (Bool) := if a3 = 0 then (none) else (if (Int.tmod a2 a3) = 0 then (r5ahead.l0 k l0 l1 a2 a3 0) else (some false))
theorem r5ahead.calls (k : Nat) (A0 : Option Addr) (c0 : Nat) (l0 : List (List Int)) (A1 : Option Addr) (c1 : Nat) (l1 : List (List Int)) (a2 : Int) (a3 : Int) (r : Bool) (w : World) (hr0 : Kd.C (Kd.slice 3 (Kd.int .i64)) w A0 l0.length l0) (hc0 : l0.length ≤ c0) (hr1 : Kd.C (Kd.slice 3 (Kd.int .i64)) w A1 l1.length l1) (hc1 : l1.length ≤ c1) (h : r5ahead.f k l0 l1 a2 a3 = some r) :
  Calls Try.prog 63 #[.slice A0 l0.length c0, .slice A1 l1.length c1, .int .i64 a2, .int .i64 a3] w fun e w' => e = .returned (.bool r) ∧ Drawn0 w w' := by
 have HR0 := xA.mk hr0
 have HC0 := xA.mk hc0
 clear hr0 hc0
 have HR1 := xA.mk hr1
 have HC1 := xA.mk hc1
 clear hr1 hc1
 have H : (if a3 = 0 then (none) else (if (Int.tmod a2 a3) = 0 then (r5ahead.l0 k l0 l1 a2 a3 0) else (some false))) = some r := h
 clear h
 by_cases c5 : a3 = 0
 ·
  rw [if_pos c5] at H
  exact absurd H (by simp)
 rw [if_neg c5] at H
 have c5b0 : (a3 == 0) = false := jg c5
 by_cases c6 : (Int.tmod a2 a3) = 0
 rotate_left
 ·
  rw [if_neg c6] at H
  have c6b0 : ((Int.tmod a2 a3) == 0) = false := jg c6
  obtain rfl := qx H
  go_enter Try.func63, Try.ntmps63
  go_wp2
  go_ret
  exact ⟨qf, qe⟩
 rw [if_pos c6] at H
 have c6b0 : ((Int.tmod a2 a3) == 0) = true := beq_iff_eq.mpr c6
 clear c6
 have H' := xA.mk H
 clear H
 go_enter Try.func63, Try.ntmps63
 go_wp2
 go_loopg [9] k (fun kq v9 w' => ∃ (x9_1 : Int), v9 = .int .i64 x9_1 ∧ xA (r5ahead.l0 kq l0 l1 a2 a3 x9_1 = some r) ∧ xA (kq ≤ k) ∧ Drawn0 w w')
 case atStart => exact ⟨(0), rfl, H', ⟨Nat.le_refl _⟩, qe⟩
 case round =>
  clear H'
  obtain ⟨x9_1, rfl, HA, HK1, ⟨m1, rfl⟩⟩ := hrel
  obtain _ | k1 := gk
  · exact absurd HA.out (by simp [r5ahead.l0])
  have H := HA.out
  clear HA
  simp only [r5ahead.l0] at H
  obtain ⟨c7b0, H⟩ | ⟨c7b0, H⟩ := yA H
  rotate_left
  ·
   obtain rfl := qx H
   go_wp2
   go_ret
   exact ⟨qf, qe⟩
  have H' := xA.mk H
  clear H
  go_wp2
  go_loopg [10] k1 (fun kq v10 w' => ∃ (x10_2 : Int), v10 = .int .i64 x10_2 ∧ xA (r5ahead.l1 kq l0 l1 a2 a3 x9_1 x10_2 = some r) ∧ xA (kq ≤ k1) ∧ Drawn0 w w')
  case atStart => exact ⟨(0), rfl, H', ⟨Nat.le_refl _⟩, qe⟩
  case round =>
   clear H'
   obtain ⟨x10_2, rfl, HA, HK2, ⟨m2, rfl⟩⟩ := hrel
   obtain _ | k2 := gk
   · exact absurd HA.out (by simp [r5ahead.l1])
   have H := HA.out
   clear HA
   simp only [r5ahead.l1] at H
   obtain ⟨c8b0, H⟩ | ⟨c8b0, H⟩ := yA H
   rotate_left
   ·
    have H' := xA.mk H
    clear H
    go_wp2
    go_roundg k2
    case measure => have := HK1.out; have := HK2.out; omega
    case rel => exact ⟨(wrap64 (x9_1 + 1)), rfl, H', ⟨by have := HK1.out; have := HK2.out; omega⟩, qe⟩
   obtain ⟨c9b0, H⟩ := xF H
   obtain ⟨c10b0, H⟩ := xF H
   obtain ⟨c11b0, H⟩ := xF H
   obtain ⟨c12b0, H⟩ := xF H
   obtain ⟨c13b0, H⟩ := xF H
   obtain ⟨c14b0, H⟩ := xF H
   by_cases c15 : a3 = 0
   ·
    rw [if_pos c15] at H
    exact absurd H (by simp)
   rw [if_neg c15] at H
   have c15b0 : (a3 == 0) = false := jg c15
   replace H := qw H
   obtain ⟨t592, A160, H⟩ := H
   replace H : (if (rd (rd_L1 l0 x9_1) x10_2) = t592 then (r5ahead.l1 k2 l0 l1 a2 a3 x9_1 (wrap64 (x10_2 + 1))) else (some false)) = some r := H
   have A16 := xA.mk A160
   clear A160
   by_cases c17 : (rd (rd_L1 l0 x9_1) x10_2) = t592
   rotate_left
   ·
    rw [if_neg c17] at H
    have c17b0 : ((rd (rd_L1 l0 x9_1) x10_2) == t592) = false := jg c17
    obtain rfl := qx H
    have p588 : 0 ≤ (x9_1 : Int) := qq
    have q588 : x9_1 < (l0.length : Int) := qq
    obtain ⟨ad588, A588_0, c588_0, e588, hx588_0, hl588_0, hi588_0⟩ := at_L1 HR0.out x9_1 p588 q588
    cases e588
    have HR588_0 := xA.mk hi588_0
    have HC588_0 := xA.mk hl588_0
    clear hi588_0 hl588_0
    replace p588 := eq_true p588
    replace q588 := eq_true q588
    have p589 : 0 ≤ (x10_2 : Int) := qq
    have q589 : x10_2 < ((rd_L1 l0 x9_1).length : Int) := qq
    obtain ⟨ad589, e589, hx589_0⟩ := Kd.xU HR588_0.out x10_2 p589 q589
    cases e589
    replace p589 := eq_true p589
    replace q589 := eq_true q589
    have p590 : 0 ≤ (x9_1 : Int) := qq
    have q590 : x9_1 < (l1.length : Int) := qq
    obtain ⟨ad590, A590_0, c590_0, e590, hx590_0, hl590_0, hi590_0⟩ := at_L1 HR1.out x9_1 p590 q590
    cases e590
    have HR590_0 := xA.mk hi590_0
    have HC590_0 := xA.mk hl590_0
    clear hi590_0 hl590_0
    replace p590 := eq_true p590
    replace q590 := eq_true q590
    have p591 : 0 ≤ (x10_2 : Int) := qq
    have q591 : x10_2 < ((rd_L1 l1 x9_1).length : Int) := qq
    obtain ⟨ad591, e591, hx591_0⟩ := Kd.xU HR590_0.out x10_2 p591 q591
    cases e591
    replace p591 := eq_true p591
    replace q591 := eq_true q591
    go_wp2_with (first | (go_at_call 77; (with_reducible refine (r5plus.calls (rd (rd_L1 l1 x9_1) x10_2) (wrap64 (Int.tdiv a2 a3)) t592 _ A16.out).mono ?_); rintro e w' ⟨rfl, ⟨nd, rfl⟩⟩; (try exact qp)))
    repeat (go_quiet (first | (go_at_call 77; (with_reducible refine (r5plus.calls (rd (rd_L1 l1 x9_1) x10_2) (wrap64 (Int.tdiv a2 a3)) t592 _ A16.out).mono ?_); rintro e w' ⟨rfl, ⟨nd, rfl⟩⟩; (try exact qp))); try go_wp2_with (first | (go_at_call 77; (with_reducible refine (r5plus.calls (rd (rd_L1 l1 x9_1) x10_2) (wrap64 (Int.tdiv a2 a3)) t592 _ A16.out).mono ?_); rintro e w' ⟨rfl, ⟨nd, rfl⟩⟩; (try exact qp))))
    go_ret
    exact ⟨qf, qe⟩
   rw [if_pos c17] at H
   have c17b0 : ((rd (rd_L1 l0 x9_1) x10_2) == t592) = true := beq_iff_eq.mpr c17
   clear c17
   have H' := xA.mk H
   clear H
   have p588 : 0 ≤ (x9_1 : Int) := qq
   have q588 : x9_1 < (l0.length : Int) := qq
   obtain ⟨ad588, A588_0, c588_0, e588, hx588_0, hl588_0, hi588_0⟩ := at_L1 HR0.out x9_1 p588 q588
   cases e588
   have HR588_0 := xA.mk hi588_0
   have HC588_0 := xA.mk hl588_0
   clear hi588_0 hl588_0
   replace p588 := eq_true p588
   replace q588 := eq_true q588
   have p589 : 0 ≤ (x10_2 : Int) := qq
   have q589 : x10_2 < ((rd_L1 l0 x9_1).length : Int) := qq
   obtain ⟨ad589, e589, hx589_0⟩ := Kd.xU HR588_0.out x10_2 p589 q589
   cases e589
   replace p589 := eq_true p589
   replace q589 := eq_true q589
   have p590 : 0 ≤ (x9_1 : Int) := qq
   have q590 : x9_1 < (l1.length : Int) := qq
   obtain ⟨ad590, A590_0, c590_0, e590, hx590_0, hl590_0, hi590_0⟩ := at_L1 HR1.out x9_1 p590 q590
   cases e590
   have HR590_0 := xA.mk hi590_0
   have HC590_0 := xA.mk hl590_0
   clear hi590_0 hl590_0
   replace p590 := eq_true p590
   replace q590 := eq_true q590
   have p591 : 0 ≤ (x10_2 : Int) := qq
   have q591 : x10_2 < ((rd_L1 l1 x9_1).length : Int) := qq
   obtain ⟨ad591, e591, hx591_0⟩ := Kd.xU HR590_0.out x10_2 p591 q591
   cases e591
   replace p591 := eq_true p591
   replace q591 := eq_true q591
   go_wp2_with (first | (go_at_call 77; (with_reducible refine (r5plus.calls (rd (rd_L1 l1 x9_1) x10_2) (wrap64 (Int.tdiv a2 a3)) t592 _ A16.out).mono ?_); rintro e w' ⟨rfl, ⟨nd, rfl⟩⟩; (try exact qp)))
   repeat (go_quiet (first | (go_at_call 77; (with_reducible refine (r5plus.calls (rd (rd_L1 l1 x9_1) x10_2) (wrap64 (Int.tdiv a2 a3)) t592 _ A16.out).mono ?_); rintro e w' ⟨rfl, ⟨nd, rfl⟩⟩; (try exact qp))); try go_wp2_with (first | (go_at_call 77; (with_reducible refine (r5plus.calls (rd (rd_L1 l1 x9_1) x10_2) (wrap64 (Int.tdiv a2 a3)) t592 _ A16.out).mono ?_); rintro e w' ⟨rfl, ⟨nd, rfl⟩⟩; (try exact qp))))
   go_roundg k2
   case measure => have := HK1.out; have := HK2.out; omega
   case rel => exact ⟨(wrap64 (x10_2 + 1)), rfl, H', ⟨by have := HK1.out; have := HK2.out; omega⟩, qe⟩
mutual
def r5Regime.j0 : Nat → List (List Int) → Bool → Int → Int → Option (Int × Int × Int)
 | 0, _, _, _, _ => none
 | k + 1, x0, x28, x598000, x598001 => if x28 = true then (some (0, 0, 10)) else ((r5One.f k (x0.length : Int)).bind fun t599 => (r5Regime.l0 k x0 (([t599] : List (List (List Int)))) 0 x598000 x598001))
def r5Regime.l0 : Nat → List (List Int) → List (List (List Int)) → Int → Int → Int → Option (Int × Int × Int)
 | 0, _, _, _, _, _ => none
 | k + 1, x0, x7, x8, x598000, x598001 => if x8 < 12 then (if 0 ≤ x8 then (if x8 < (x7.length : Int) then ((r5Product.f k x0 (rd_L3 x7 x8)).bind fun t606 => (if x7.length < 5864062014805 then (r5Regime.l0 k x0 (x7 ++ [t606]) (wrap64 (x8 + 1)) x598000 x598001) else (none))) else (none)) else (none)) else (r5Regime.l1 k x0 x7 0 0 x598000 x598001)
def r5Regime.l1 : Nat → List (List Int) → List (List (List Int)) → Int → Int → Int → Int → Option (Int × Int × Int)
 | 0, _, _, _, _, _, _ => none
 | k + 1, x0, x7, x9, x10, x598000, x598001 => if x10 < 200000 then (r5Regime.j3 k x0 x7 x9 x10 (x9 == 0) x598000 x598001) else (r5Regime.j3 k x0 x7 x9 x10 false x598000 x598001)
def r5Regime.j3 : Nat → List (List Int) → List (List (List Int)) → Int → Int → Bool → Int → Int → Option (Int × Int × Int)
 | 0, _, _, _, _, _, _, _ => none
 | k + 1, x0, x7, x9, x10, x51, x598000, x598001 => if x51 = true then (r5Regime.l2 k x0 x7 x9 x10 1 x598000 x598001) else (some (0, 0, 0))
def r5Regime.l2 : Nat → List (List Int) → List (List (List Int)) → Int → Int → Int → Int → Int → Option (Int × Int × Int)
 | 0, _, _, _, _, _, _, _ => none
 | k + 1, x0, x7, x9, x10, x11, x598000, x598001 => if x11 ≤ 12 then (r5Regime.j5 k x0 x7 x9 x10 x11 (x9 == 0) x598000 x598001) else (r5Regime.j5 k x0 x7 x9 x10 x11 false x598000 x598001)
def r5Regime.j5 : Nat → List (List Int) → List (List (List Int)) → Int → Int → Int → Bool → Int → Int → Option (Int × Int × Int)
 | 0, _, _, _, _, _, _, _, _ => none
 | k + 1, x0, x7, x9, x10, x11, x59, x598000, x598001 => if x59 = true then (if 0 ≤ x11 then (if x11 < (x7.length : Int) then (if 0 < (x7.length : Int) then ((r5ahead.f k (rd_L3 x7 x11) (rd_L3 x7 0) (wrap64 (x11 * x598000)) x598001).bind fun t614 => (if t614 = true then (r5Regime.l2 k x0 x7 x11 x10 (wrap64 (x11 + 1)) x598000 x598001) else (r5Regime.l2 k x0 x7 x9 x10 (wrap64 (x11 + 1)) x598000 x598001))) else (none)) else (none)) else (none)) else (if x9 > 0 then (some (x9, x10, 0)) else (if 12 < (x7.length : Int) then ((r5Product.f k x0 (rd_L3 x7 12)).bind fun t616 => (r5Regime.l3 k x0 x7 x9 x10 t616 0 x598000 x598001)) else (none)))
def r5Regime.l3 : Nat → List (List Int) → List (List (List Int)) → Int → Int → List (List Int) → Int → Int → Int → Option (Int × Int × Int)
 | 0, _, _, _, _, _, _, _, _ => none
 | k + 1, x0, x7, x9, x10, x12, x13, x598000, x598001 => if x13 < 12 then (if 0 ≤ (wrap64 (x13 + 1)) then (if (wrap64 (x13 + 1)) < (x7.length : Int) then (if 0 ≤ x13 then (if x13 < (x7.length : Int) then (r5Regime.l3 k x0 (x7.set (x13 : Int).toNat (rd_L3 x7 (wrap64 (x13 + 1)))) x9 x10 x12 (wrap64 (x13 + 1)) x598000 x598001) else (none)) else (none)) else (none)) else (none)) else (if 12 < (x7.length : Int) then (r5Regime.l1 k x0 (x7.set (12 : Int).toNat x12) x9 (wrap64 (x10 + 1)) x598000 x598001) else (none))
end
def r5Regime.f (k : Nat) (l0 : List (List Int)) : Option (Int × Int × Int) := (r5Matrix.f k l0).bind fun t593 => (if t593 = true then ((r5Speed.f k l0).bind fun bt594 => (if bt594.2.2 = 0 then ((r5connected.f k l0).bind fun t598 => (r5Regime.j0 k l0 (!t598) bt594.1 bt594.2.1)) else (r5Regime.j0 k l0 true bt594.1 bt594.2.1))) else (some (0, 0, 2)))
theorem r5Regime.calls (k : Nat) (A0 : Option Addr) (c0 : Nat) (l0 : List (List Int)) (r1 : Int) (r2 : Int) (r3 : Int) (w : World) (hr0 : Kd.C (Kd.slice 3 (Kd.int .i64)) w A0 l0.length l0) (hc0 : l0.length ≤ c0) (h : r5Regime.f k l0 = some (r1, r2, r3)) :
  Calls Try.prog 19 #[.slice A0 l0.length c0] w fun e w' => e = .returned (.tuple #[.int .i64 r1, .int .i64 r2, .int .i64 r3]) ∧ Below w.heap.size w w' := by
 have hu37 := Try.underlying37
 have HR0 := xA.mk hr0
 have HC0 := xA.mk hc0
 clear hr0 hc0
 have HB := xA.mk (Below.refl w.heap.size w)
 have H : ((r5Matrix.f k l0).bind fun t593 => (if t593 = true then ((r5Speed.f k l0).bind fun bt594 => (if bt594.2.2 = 0 then ((r5connected.f k l0).bind fun t598 => (r5Regime.j0 k l0 (!t598) bt594.1 bt594.2.1)) else (r5Regime.j0 k l0 true bt594.1 bt594.2.1))) else (some (0, 0, 2)))) = some (r1, r2, r3) := h
 clear h
 replace H := qw H
 obtain ⟨t593, A20, H⟩ := H
 replace H : (if t593 = true then ((r5Speed.f k l0).bind fun bt594 => (if bt594.2.2 = 0 then ((r5connected.f k l0).bind fun t598 => (r5Regime.j0 k l0 (!t598) bt594.1 bt594.2.1)) else (r5Regime.j0 k l0 true bt594.1 bt594.2.1))) else (some (0, 0, 2))) = some (r1, r2, r3) := H
 have A2 := xA.mk A20
 clear A20
 by_cases c3 : t593 = true
 rotate_left
 ·
  replace c3 := Bool.eq_false_iff.mpr c3
  subst c3
  have H1 : (some (0, 0, 2)) = some (r1, r2, r3) := by rw [if_neg (show ¬ (false = true) by decide)] at H; exact H
  clear H
  have H := H1
  clear H1
  simp only [Option.some.injEq, Prod.mk.injEq] at H
  obtain ⟨rfl, rfl, rfl⟩ := H
  go_enter Try.func19, Try.ntmps19
  go_wp2_with (first | (go_at_call 49; (with_reducible refine (r5Matrix.calls k _ _ l0 false _ ?side1 ?side2 A2.out).mono ?_); (case side1 => repeat (first | exact HR0.out)); (case side2 => exact HC0.out); rintro e w' ⟨rfl, ⟨nd, rfl⟩⟩; (try exact qp)))
  go_ret3
  exact ⟨rfl, qb⟩
 subst c3
 have H1 : ((r5Speed.f k l0).bind fun bt594 => (if bt594.2.2 = 0 then ((r5connected.f k l0).bind fun t598 => (r5Regime.j0 k l0 (!t598) bt594.1 bt594.2.1)) else (r5Regime.j0 k l0 true bt594.1 bt594.2.1))) = some (r1, r2, r3) := by rw [if_pos rfl] at H; exact H
 clear H
 have H := H1
 clear H1
 replace H := qw H
 obtain ⟨⟨t594, t595, t596⟩, A40, H⟩ := H
 replace H : (if t596 = 0 then ((r5connected.f k l0).bind fun t598 => (r5Regime.j0 k l0 (!t598) t594 t595)) else (r5Regime.j0 k l0 true t594 t595)) = some (r1, r2, r3) := H
 have A4 := xA.mk A40
 clear A40
 have HC5 := xA.mk H
 clear H
 go_enter Try.func19, Try.ntmps19
 go_upto_region 4 with (first | (go_at_call 49; (with_reducible refine (r5Matrix.calls k _ _ l0 true _ ?side1 ?side2 A2.out).mono ?_); (case side1 => exact qm HR0.out); (case side2 => exact HC0.out); rintro e w' ⟨rfl, ⟨nd, rfl⟩⟩; (try exact qp)) | (go_at_call 32; (with_reducible refine (r5Speed.calls k _ _ l0 t594 t595 t596 _ ?side1 ?side2 A4.out).mono ?_); (case side1 => exact qm HR0.out); (case side2 => exact HC0.out); rintro e w6 ⟨rfl, hb⟩; replace HB := xA.mk (xD qa hb); (try clear hb); (try clear hb2); (try clear hk); (try clear hi)) | ((with_reducible refine xZ (N := 5) rfl ?_); refine yD ?hg (N := 5) ?hd (cs := #[.int .i64 0, .int .i64 0]) (t := 37) ?hr ?_; (case hd => rfl); (case hg => rfl); (case hr => first | (go_simp; done) | (go_simp; rfl)); intro gb597 hg w7 hbox hb; have n0_ := xA.mk (xD qa hb); have n1_ := xA.mk (hbox); have n2_ := xA.mk ((by rw [hg]; exact (xB qa) : w.heap.size ≤ gb597)); have n3_ := xA.mk ((by rw [hg]; exact (xB qa) : w.heap.size ≤ gb597)); clear HB; have HB := n0_; have BK597 := n1_; have GW597 := n2_; have GE597 := n3_; clear n0_ n1_ n2_ n3_; clear hb hbox hg; have hcz8_0 : w7.cell? ⟨gb597, 0, none⟩ = some (.int .i64 0) := (xE BK597.out 0).trans rfl; have hcz8_1 : w7.cell? ⟨gb597, 1, none⟩ = some (.int .i64 0) := (xE BK597.out 1).trans rfl; have hfz8_0 := xC BK597.out 0; have hfz8_1 := xC BK597.out 1))
 repeat (go_quiet (first | (go_at_call 49; (with_reducible refine (r5Matrix.calls k _ _ l0 true _ ?side1 ?side2 A2.out).mono ?_); (case side1 => exact qm HR0.out); (case side2 => exact HC0.out); rintro e w' ⟨rfl, ⟨nd, rfl⟩⟩; (try exact qp)) | (go_at_call 32; (with_reducible refine (r5Speed.calls k _ _ l0 t594 t595 t596 _ ?side1 ?side2 A4.out).mono ?_); (case side1 => exact qm HR0.out); (case side2 => exact HC0.out); rintro e w6 ⟨rfl, hb⟩; replace HB := xA.mk (xD qa hb); (try clear hb); (try clear hb2); (try clear hk); (try clear hi)) | ((with_reducible refine xZ (N := 5) rfl ?_); refine yD ?hg (N := 5) ?hd (cs := #[.int .i64 0, .int .i64 0]) (t := 37) ?hr ?_; (case hd => rfl); (case hg => rfl); (case hr => first | (go_simp; done) | (go_simp; rfl)); intro gb597 hg w7 hbox hb; have n0_ := xA.mk (xD qa hb); have n1_ := xA.mk (hbox); have n2_ := xA.mk ((by rw [hg]; exact (xB qa) : w.heap.size ≤ gb597)); have n3_ := xA.mk ((by rw [hg]; exact (xB qa) : w.heap.size ≤ gb597)); clear HB; have HB := n0_; have BK597 := n1_; have GW597 := n2_; have GE597 := n3_; clear n0_ n1_ n2_ n3_; clear hb hbox hg; have hcz8_0 : w7.cell? ⟨gb597, 0, none⟩ = some (.int .i64 0) := (xE BK597.out 0).trans rfl; have hcz8_1 : w7.cell? ⟨gb597, 1, none⟩ = some (.int .i64 0) := (xE BK597.out 1).trans rfl; have hfz8_0 := xC BK597.out 0; have hfz8_1 := xC BK597.out 1)); go_upto_region 4 with (first | (go_at_call 49; (with_reducible refine (r5Matrix.calls k _ _ l0 true _ ?side1 ?side2 A2.out).mono ?_); (case side1 => exact qm HR0.out); (case side2 => exact HC0.out); rintro e w' ⟨rfl, ⟨nd, rfl⟩⟩; (try exact qp)) | (go_at_call 32; (with_reducible refine (r5Speed.calls k _ _ l0 t594 t595 t596 _ ?side1 ?side2 A4.out).mono ?_); (case side1 => exact qm HR0.out); (case side2 => exact HC0.out); rintro e w6 ⟨rfl, hb⟩; replace HB := xA.mk (xD qa hb); (try clear hb); (try clear hb2); (try clear hk); (try clear hi)) | ((with_reducible refine xZ (N := 5) rfl ?_); refine yD ?hg (N := 5) ?hd (cs := #[.int .i64 0, .int .i64 0]) (t := 37) ?hr ?_; (case hd => rfl); (case hg => rfl); (case hr => first | (go_simp; done) | (go_simp; rfl)); intro gb597 hg w7 hbox hb; have n0_ := xA.mk (xD qa hb); have n1_ := xA.mk (hbox); have n2_ := xA.mk ((by rw [hg]; exact (xB qa) : w.heap.size ≤ gb597)); have n3_ := xA.mk ((by rw [hg]; exact (xB qa) : w.heap.size ≤ gb597)); clear HB; have HB := n0_; have BK597 := n1_; have GW597 := n2_; have GE597 := n3_; clear n0_ n1_ n2_ n3_; clear hb hbox hg; have hcz8_0 : w7.cell? ⟨gb597, 0, none⟩ = some (.int .i64 0) := (xE BK597.out 0).trans rfl; have hcz8_1 : w7.cell? ⟨gb597, 1, none⟩ = some (.int .i64 0) := (xE BK597.out 1).trans rfl; have hfz8_0 := xC BK597.out 0; have hfz8_1 := xC BK597.out 1)))
 (try simp only [Act.put, qy, qz, ja])
 go_cut [28] (fun v28 wc => ∃ (kq : Nat) (x28_4 : Bool), v28 = .bool x28_4 ∧ xA (r5Regime.j0 kq l0 x28_4 t594 t595 = some (r1, r2, r3)) ∧ xA (kq ≤ k) ∧ xA (wc.heap[gb597]? = some (.cells #[.int .i64 t594, .int .i64 t595] 37 (0, 0))) ∧ xA (Below w.heap.size w wc))
 case first =>
  have H := HC5.out
  clear HC5
  obtain ⟨⟨c9b0, c9b1⟩, H⟩ | ⟨c9, ⟨c9b0, c9b1⟩, H⟩ := itn_or H
  rotate_left
  ·
   (first | rw [c9b0] | (simp only [i64_w, i32_w]; rw [c9b0]) | skip)
   have H' := xA.mk H
   clear H
   go_wp2
   repeat (go_quiet (fail); try go_wp2)
   go_meet
   case rel => exact ⟨_, (true), rfl, H', ⟨by first | omega | exact Nat.le_refl _⟩, ⟨by (with_reducible repeat (first | refine xK ?_ _ | refine xI ?_ | refine xJ ?_ _)); refine xV (cs := #[.int .i64 t594, .int .i64 0]) ?_ 1 _ rfl; (with_reducible repeat (first | refine xK ?_ _ | refine xI ?_ | refine xJ ?_ _)); refine xV (cs := #[.int .i64 0, .int .i64 0]) ?_ 0 _ rfl; (with_reducible repeat (first | refine xK ?_ _ | refine xI ?_ | refine xJ ?_ _)); exact BK597.out⟩, ⟨by repeat (first | exact HB.out | apply xY | apply xN | apply xS | refine xR ?_ GE597.out)⟩⟩
  (first | rw [c9b0] | (simp only [i64_w, i32_w]; rw [c9b0]) | skip)
  replace H := qw H
  obtain ⟨t598, A100, H⟩ := H
  replace H : (r5Regime.j0 k l0 (!t598) t594 t595) = some (r1, r2, r3) := H
  have A10 := xA.mk A100
  clear A100
  have H' := xA.mk H
  clear H
  go_wp2_with (first | (go_at_call 50; (with_reducible refine (r5connected.calls k _ _ l0 t598 _ ?side1 ?side2 A10.out).mono ?_); (case side1 => exact Kd.xQ HR0.out (qo GE597.out)); (case side2 => exact HC0.out); rintro e w11 ⟨rfl, hb⟩; have n0_ := xA.mk (xO (g := gb597) (o := .cells #[.int .i64 t594, .int .i64 t595] 37 (0, 0)) (by (with_reducible repeat (first | refine xK ?_ _ | refine xI ?_ | refine xJ ?_ _)); refine xV (cs := #[.int .i64 t594, .int .i64 0]) ?_ 1 _ rfl; (with_reducible repeat (first | refine xK ?_ _ | refine xI ?_ | refine xJ ?_ _)); refine xV (cs := #[.int .i64 0, .int .i64 0]) ?_ 0 _ rfl; (with_reducible repeat (first | refine xK ?_ _ | refine xI ?_ | refine xJ ?_ _)); exact BK597.out) hb); have n1_ := xA.mk (xD (qo GE597.out) hb); clear BK597; clear HB; have BK597 := n0_; have HB := n1_; clear n0_ n1_; (try clear hb); (try clear hb2); (try clear hk); (try clear hi)))
  repeat (go_quiet (first | (go_at_call 50; (with_reducible refine (r5connected.calls k _ _ l0 t598 _ ?side1 ?side2 A10.out).mono ?_); (case side1 => exact Kd.xQ HR0.out (qo GE597.out)); (case side2 => exact HC0.out); rintro e w11 ⟨rfl, hb⟩; have n0_ := xA.mk (xO (g := gb597) (o := .cells #[.int .i64 t594, .int .i64 t595] 37 (0, 0)) (by (with_reducible repeat (first | refine xK ?_ _ | refine xI ?_ | refine xJ ?_ _)); refine xV (cs := #[.int .i64 t594, .int .i64 0]) ?_ 1 _ rfl; (with_reducible repeat (first | refine xK ?_ _ | refine xI ?_ | refine xJ ?_ _)); refine xV (cs := #[.int .i64 0, .int .i64 0]) ?_ 0 _ rfl; (with_reducible repeat (first | refine xK ?_ _ | refine xI ?_ | refine xJ ?_ _)); exact BK597.out) hb); have n1_ := xA.mk (xD (qo GE597.out) hb); clear BK597; clear HB; have BK597 := n0_; have HB := n1_; clear n0_ n1_; (try clear hb); (try clear hb2); (try clear hk); (try clear hi))); try go_wp2_with (first | (go_at_call 50; (with_reducible refine (r5connected.calls k _ _ l0 t598 _ ?side1 ?side2 A10.out).mono ?_); (case side1 => exact Kd.xQ HR0.out (qo GE597.out)); (case side2 => exact HC0.out); rintro e w11 ⟨rfl, hb⟩; have n0_ := xA.mk (xO (g := gb597) (o := .cells #[.int .i64 t594, .int .i64 t595] 37 (0, 0)) (by (with_reducible repeat (first | refine xK ?_ _ | refine xI ?_ | refine xJ ?_ _)); refine xV (cs := #[.int .i64 t594, .int .i64 0]) ?_ 1 _ rfl; (with_reducible repeat (first | refine xK ?_ _ | refine xI ?_ | refine xJ ?_ _)); refine xV (cs := #[.int .i64 0, .int .i64 0]) ?_ 0 _ rfl; (with_reducible repeat (first | refine xK ?_ _ | refine xI ?_ | refine xJ ?_ _)); exact BK597.out) hb); have n1_ := xA.mk (xD (qo GE597.out) hb); clear BK597; clear HB; have BK597 := n0_; have HB := n1_; clear n0_ n1_; (try clear hb); (try clear hb2); (try clear hk); (try clear hi))))
  go_meet
  case rel => exact ⟨_, (!t598), qf, H', ⟨by first | omega | exact Nat.le_refl _⟩, ⟨qn BK597.out⟩, ⟨qo GE597.out⟩⟩
 case rest =>
  clear HC5
  obtain ⟨kq, x28_4, rfl, HA, HJ4, BK597, HB⟩ := hcut
  obtain _ | kj4 := kq
  · exact absurd HA.out (by simp [r5Regime.j0])
  have H := HA.out
  clear HA
  simp only [r5Regime.j0] at H
  by_cases c12 : x28_4 = true
  ·
   subst c12
   have H1 : (some (0, 0, 10)) = some (r1, r2, r3) := by rw [if_pos rfl] at H; exact H
   clear H
   have H := H1
   clear H1
   simp only [Option.some.injEq, Prod.mk.injEq] at H
   obtain ⟨rfl, rfl, rfl⟩ := H
   go_wp2
   go_ret3
   exact ⟨rfl, HB.out⟩
  replace c12 := Bool.eq_false_iff.mpr c12
  subst c12
  have H1 : ((r5One.f kj4 (l0.length : Int)).bind fun t599 => (r5Regime.l0 kj4 l0 (([t599] : List (List (List Int)))) 0 t594 t595)) = some (r1, r2, r3) := by rw [if_neg (show ¬ (false = true) by decide)] at H; exact H
  clear H
  have H := H1
  clear H1
  replace H := qw H
  obtain ⟨t599, A130, H⟩ := H
  replace H : (r5Regime.l0 kj4 l0 (([t599] : List (List (List Int)))) 0 t594 t595) = some (r1, r2, r3) := H
  have A13 := xA.mk A130
  clear A130
  obtain ⟨y602, hy602⟩ : ∃ y_ : List (List (List Int)), y_ = (([t599] : List (List (List Int)))) := ⟨_, rfl⟩
  replace H : (r5Regime.l0 kj4 l0 y602 0 t594 t595) = some (r1, r2, r3) := by rw [hy602]; exact H
  have Ny602 := xA.mk hy602
  clear hy602
  have H' := xA.mk H
  clear H
  go_wp2_with (first | (go_at_call 61; (with_reducible refine (r5One.calls kj4 (l0.length : Int) t599 _ A13.out).mono ?_); rintro e w14 ⟨v600, rfl, ho0, hb⟩; have HO601 := xA.mk (Kd.N_lower (Kd.N_mono (ok' := fun k_ => k_ ≠ gb597) (Kd.S_N (Kd.S_bound ho0)) (fun k_ hk_ => (Kd.freshB (g := gb597) (o := .cells #[.int .i64 t594, .int .i64 t595] 37 (0, 0)) (by exact BK597.out) k_ hk_.2.1))) (xB (HB.out))); replace BK597 := xA.mk (xO (g := gb597) (o := .cells #[.int .i64 t594, .int .i64 t595] 37 (0, 0)) (by exact BK597.out) hb); replace HB := xA.mk (xD (HB.out) hb); obtain ⟨Ao15, co15, eo15⟩ := Kd.N_slice HO601.out; subst eo15) | ((with_reducible refine xZ (N := 32) rfl ?_); refine Kd.N_lit (Kd.slice 26 (Kd.slice 3 (Kd.int .i64))) _ 22 ?hg (N' := 32) ?hd (xs := ([t599] : List (List (List Int)))) (inner := [.slice Ao15 t599.length co15]) (ok := (fun k_ => k_ ≠ gb597)) (okp := (fun k_ => k_ ≠ gb597)) ?hr ?hp (fun _ hk => hk) ((show ∀ k_, w14.heap.size ≤ k_ → (fun k_ => k_ ≠ gb597) k_ from fun k_ hk => Kd.freshB (g := gb597) (o := .cells #[.int .i64 t594, .int .i64 t595] 37 (0, 0)) (by exact BK597.out) k_ hk) _ (Nat.le_refl _)) (Below.refl _ _) (Nat.le_refl _) (by simp) ?_; (case hd => rfl); (case hg => rfl); (case hr => go_simp); (case hp => exact (Reps.one (show Kd.FK (Kd.slice 26 (Kd.slice 3 (Kd.int .i64))) _ _ t599 [.slice Ao15 t599.length co15] from (Kd.FK_slice_mk (Kd.xP (Kd.N_mono (ok' := (fun k_ => k_ ≠ gb597)) (HO601.out) (fun k_ hk => hk))).2.1 (Kd.N_F (Kd.N_mono (ok' := (fun k_ => k_ ≠ gb597)) (HO601.out) (fun k_ hk => hk))))) (Reps.none _ _))); intro v603 w16 ho17 hb hg_ hnew_; clear hg_ hnew_; (first | rw [← Ny602.out] at ho17 | (simp only [Int.reduceToNat] at ho17; rw [← Ny602.out] at ho17)); have n0_ := xA.mk (Kd.N_lower ho17 (xB (HB.out))); have n1_ := xA.mk (xO (g := gb597) (o := .cells #[.int .i64 t594, .int .i64 t595] 37 (0, 0)) (by exact BK597.out) hb); have n2_ := xA.mk (xD (HB.out) hb); clear BK597; clear HB; clear HO601; have HO604 := n0_; have BK597 := n1_; have HB := n2_; clear n0_ n1_ n2_; clear hb ho17))
  go_loopg [7, 8] kj4 (fun kq v7 v8 w' => ∃ (x7_2 : List (List (List Int))) (x8_2 : Int), v8 = .int .i64 x8_2 ∧ xA (r5Regime.l0 kq l0 x7_2 x8_2 t594 t595 = some (r1, r2, r3)) ∧ xA (kq ≤ kj4) ∧ xA (Kd.N (Kd.slice 26 (Kd.slice 3 (Kd.int .i64))) 22 w' w.heap.size (fun k_ => k_ ≠ gb597) v7 x7_2) ∧ xA (w'.heap[gb597]? = some (.cells #[.int .i64 t594, .int .i64 t595] 37 (0, 0))) ∧ xA (Below w.heap.size w w'))
  case atStart => exact ⟨(y602), (0), rfl, H', ⟨Nat.le_refl _⟩, ⟨by exact HO604.out⟩, ⟨by exact BK597.out⟩, ⟨HB.out⟩⟩
  case round =>
   clear H'
   obtain ⟨x7_2, x8_2, rfl, HA, HK2, HO_7, BK597, HB⟩ := hrel
   obtain _ | k2 := gk
   · exact absurd HA.out (by simp [r5Regime.l0])
   have H := HA.out
   clear HA
   simp only [r5Regime.l0] at H
   obtain ⟨c18b0, H⟩ | ⟨c18b0, H⟩ := yA H
   ·
    obtain ⟨c19b0, H⟩ := xF H
    obtain ⟨c20b0, H⟩ := xF H
    replace H := qw H
    obtain ⟨t606, A210, H⟩ := H
    replace H : (if x7_2.length < 5864062014805 then (r5Regime.l0 k2 l0 (x7_2 ++ [t606]) (wrap64 (x8_2 + 1)) t594 t595) else (none)) = some (r1, r2, r3) := H
    have A21 := xA.mk A210
    clear A210
    obtain ⟨c22, H⟩ := yF H
    have LMc22 := xA.mk c22
    clear c22
    obtain ⟨y609, hy609⟩ : ∃ y_ : List (List (List Int)), y_ = (x7_2 ++ [t606]) := ⟨_, rfl⟩
    replace H : (r5Regime.l0 k2 l0 y609 (wrap64 (x8_2 + 1)) t594 t595) = some (r1, r2, r3) := by rw [hy609]; exact H
    have Ny609 := xA.mk hy609
    clear hy609
    have H' := xA.mk H
    clear H
    obtain ⟨Ao23, co23, eo23⟩ := Kd.N_slice HO_7.out
    subst eo23
    have p605 : 0 ≤ (x8_2 : Int) := qq
    have q605 : x8_2 < (x7_2.length : Int) := qq
    obtain ⟨ad605, A605_0, c605_0, e605, hx605_0, hl605_0, hi605_0⟩ := at_L3 (Kd.xP HO_7.out).2.2 x8_2 p605 q605
    cases e605
    obtain ⟨ce605, hce605, hMe605, hcc605⟩ := Kd.N_get HO_7.out [] x8_2 p605 (by first | exact q605 | exact qq | (have e_ := (Kd.xP HO_7.out).1; omega))
    obtain ⟨ua605_0, uc605_0, rfl, ul605_0, ge605_0⟩ := Kd.xX hMe605
    have hv605_0 := hcc605 0 _ rfl
    rw [Nat.add_zero, show ((Kd.slice 26 (Kd.slice 3 (Kd.int .i64)))).sz = 1 from rfl, Nat.mul_one] at hv605_0
    replace hv605_0 := qx (hv605_0.symm.trans hx605_0)
    injection hv605_0 with hva_ hvn_ hvc_
    rw [hva_] at ge605_0
    rw [hvc_] at ul605_0
    have HL605_0 := xA.mk (show Kd.V (Kd.slice 3 (Kd.int .i64)) 26 _ w.heap.size _ _ (rd_L3 x7_2 x8_2) from Kd.V_mk ul605_0 ge605_0)
    clear hva_ hvn_ hvc_ ge605_0 ul605_0
    clear hcc605 hce605
    have HR605_0 := xA.mk hi605_0
    have HC605_0 := xA.mk hl605_0
    clear hi605_0 hl605_0
    replace p605 := eq_true p605
    replace q605 := eq_true q605
    go_wp2_with (first | (go_at_call 62; (with_reducible refine (r5Product.calls k2 _ _ l0 _ _ (rd_L3 x7_2 x8_2) t606 _ ?side1 ?side2 ?side3 ?side4 A21.out).mono ?_); (case side1 => repeat (first | exact (Kd.xQ HR0.out HB.out))); (case side2 => exact HC0.out); (case side3 => repeat (first | exact (by repeat (first | (with_reducible exact HR605_0.out) | exact HR605_0.out)))); (case side4 => exact HC605_0.out); rintro e w24 ⟨v607, rfl, ho0, hb⟩; replace HL605_0 := xA.mk (Kd.V_elder' (by exact HL605_0.out) (by first | exact Kd.N_base ho0 | exact Kd.S_base ho0) hb); have HO608 := xA.mk (Kd.N_lower (Kd.N_mono (ok' := fun k_ => some k_ ≠ (.slice (some ad605) x7_2.length co23 : Value).ownBlock ∧ k_ ≠ gb597) (Kd.S_N (Kd.S_bound ho0)) (fun k_ hk_ => ⟨(Kd.fresh' (Kd.N_lt (by exact HO_7.out)) k_ hk_.2.1), (Kd.freshB (g := gb597) (o := .cells #[.int .i64 t594, .int .i64 t595] 37 (0, 0)) (by exact BK597.out) k_ hk_.2.1)⟩)) (xB (HB.out))); replace HO_7 := xA.mk (Kd.N_elder' (by exact HO_7.out) (by first | exact Kd.N_base ho0 | exact Kd.S_base ho0) hb); replace BK597 := xA.mk (xO (g := gb597) (o := .cells #[.int .i64 t594, .int .i64 t595] 37 (0, 0)) (by exact BK597.out) hb); replace HR605_0 := xA.mk (Kd.xQ (by repeat (first | (with_reducible exact HR605_0.out) | exact HR605_0.out)) hb); replace HB := xA.mk (xD (HB.out) hb); obtain ⟨Ao26, co26, eo26⟩ := Kd.N_slice HO608.out; subst eo26) | ((with_reducible refine gate_builtin (b := .append) (xs := #[.tmp 37, .tmp 44]) rfl ?_); at_builtin; refine Kd.N_append (Kd.slice 26 (Kd.slice 3 (Kd.int .i64))) (w0 := w) w.heap.size rfl (.tmp 37) (.tmp 44) 72 22 (.slice none 0 0) 24 rfl Try.underlying72 info22 rfl (by decide) jj (.slice (some ad605) x7_2.length co23) x7_2 t606 [.slice Ao26 t606.length co26] (fun k_ => k_ ≠ gb597) (fun k_ => ((fun k_ => k_ ≠ gb597)) k_ ∧ some k_ ≠ (.slice (some ad605) x7_2.length co23 : Value).ownBlock) rfl rfl ?aP (fun _ hk => hk) ?aF ?aO ?aB ?aS ?aL ?_; (case aP => exact (Kd.FK_slice_mk (Kd.xP (Kd.N_mono (ok' := (fun k_ => ((fun k_ => k_ ≠ gb597)) k_ ∧ some k_ ≠ (.slice (some ad605) x7_2.length co23 : Value).ownBlock)) (HO608.out) (fun k_ hk => ⟨hk.2, hk.1⟩))).2.1 (Kd.N_F (Kd.N_mono (ok' := (fun k_ => ((fun k_ => k_ ≠ gb597)) k_ ∧ some k_ ≠ (.slice (some ad605) x7_2.length co23 : Value).ownBlock)) (HO608.out) (fun k_ hk => ⟨hk.2, hk.1⟩))))); (case aB => exact (HB.out)); (case aF => exact (fun k_ hk => Kd.freshB (g := gb597) (o := .cells #[.int .i64 t594, .int .i64 t595] 37 (0, 0)) (by exact BK597.out) k_ hk)); (case aO => exact (by exact Kd.N_mono HO_7.out (fun _ hk => hk.1))); (case aS => exact (xB (HB.out))); (case aL => have := LMc22.out; omega); intro v610 w25 ho hb hg hat; rw [← Ny609.out] at ho; have n0_ := xA.mk (blk_grown (g := gb597) (o := .cells #[.int .i64 t594, .int .i64 t595] 37 (0, 0)) (by exact BK597.out) hg (Kd.N_ne HO_7.out BK597.out (by decide))); have n1_ := xA.mk (Kd.V_afterv (ok := (fun k_ => some k_ ≠ (.slice Ao26 t606.length co26 : Value).ownBlock ∧ k_ ≠ gb597)) (by exact Kd.V_mono HL605_0.out (fun _ hk => ⟨⟨hk.2, hk.1.1⟩, hk.1.2⟩)) hg hat); have n2_ := xA.mk (hb); have n3_ := xA.mk (ho); clear BK597; clear HL605_0; clear HB; clear HO_7; clear HO608; have BK597 := n0_; have HL605_0 := n1_; have HB := n2_; have HO611 := n3_; clear n0_ n1_ n2_ n3_; clear ho hb hg hat))
    go_roundg k2
    case measure => have := HJ4.out; have := HK2.out; omega
    case rel => exact ⟨(y609), (wrap64 (x8_2 + 1)), rfl, H', ⟨by have := HJ4.out; have := HK2.out; omega⟩, ⟨by exact HO611.out⟩, ⟨by exact BK597.out⟩, ⟨HB.out⟩⟩
   have H' := xA.mk H
   clear H
   go_wp2
   go_loopg [9, 10] k2 (fun kq v9 v10 w' => ∃ (x7_3 : List (List (List Int))) (x9_3 : Int) (x10_3 : Int), v9 = .int .i64 x9_3 ∧ v10 = .int .i64 x10_3 ∧ xA (r5Regime.l1 kq l0 x7_3 x9_3 x10_3 t594 t595 = some (r1, r2, r3)) ∧ xA (kq ≤ k2) ∧ xA (Kd.N (Kd.slice 26 (Kd.slice 3 (Kd.int .i64))) 22 w' w.heap.size (fun k_ => k_ ≠ gb597) u7 x7_3) ∧ xA (w'.heap[gb597]? = some (.cells #[.int .i64 t594, .int .i64 t595] 37 (0, 0))) ∧ xA (Below w.heap.size w w'))
   case atStart => exact ⟨(x7_2), (0), (0), rfl, rfl, H', ⟨Nat.le_refl _⟩, ⟨by exact HO_7.out⟩, ⟨by exact BK597.out⟩, ⟨HB.out⟩⟩
   case round =>
    clear H'
    obtain ⟨x7_3, x9_3, x10_3, rfl, rfl, HA, HK3, HO_7, BK597, HB⟩ := hrel
    obtain _ | k3 := gk
    · exact absurd HA.out (by simp [r5Regime.l1])
    have H := HA.out
    clear HA
    simp only [r5Regime.l1] at H
    have HC27 := xA.mk H
    clear H
    go_upto_region 13 with (fail)
    go_cut [51] (fun v51 wc => ∃ (kq : Nat) (x51_26 : Bool), v51 = .bool x51_26 ∧ xA (r5Regime.j3 kq l0 x7_3 x9_3 x10_3 x51_26 t594 t595 = some (r1, r2, r3)) ∧ xA (kq ≤ k3) ∧ xA (Kd.N (Kd.slice 26 (Kd.slice 3 (Kd.int .i64))) 22 wc w.heap.size (fun k_ => k_ ≠ gb597) u7 x7_3) ∧ xA (wc.heap[gb597]? = some (.cells #[.int .i64 t594, .int .i64 t595] 37 (0, 0))) ∧ xA (Below w.heap.size w wc))
    case first =>
     have H := HC27.out
     clear HC27
     obtain ⟨c28b0, H⟩ | ⟨c28b0, H⟩ := yA H
     rotate_left
     ·
      (first | rw [c28b0] | skip)
      have H' := xA.mk H
      clear H
      go_wp2
      go_meet
      case rel => exact ⟨_, (false), rfl, H', ⟨by have := HJ4.out; have := HK2.out; have := HK3.out; first | omega | exact Nat.le_refl _⟩, ⟨by exact HO_7.out⟩, ⟨by exact BK597.out⟩, ⟨HB.out⟩⟩
     (first | rw [c28b0] | skip)
     have H' := xA.mk H
     clear H
     go_wp2
     go_meet
     case rel => exact ⟨_, ((x9_3 == 0)), rfl, H', ⟨by have := HJ4.out; have := HK2.out; have := HK3.out; first | omega | exact Nat.le_refl _⟩, ⟨by exact HO_7.out⟩, ⟨by exact BK597.out⟩, ⟨HB.out⟩⟩
    case rest =>
     clear HC27
     obtain ⟨kq, x51_26, rfl, HA, HJ26, HO_7, BK597, HB⟩ := hcut
     obtain _ | kj26 := kq
     · exact absurd HA.out (by simp [r5Regime.j3])
     have H := HA.out
     clear HA
     simp only [r5Regime.j3] at H
     by_cases c29 : x51_26 = true
     rotate_left
     ·
      replace c29 := Bool.eq_false_iff.mpr c29
      subst c29
      have H1 : (some (0, 0, 0)) = some (r1, r2, r3) := by rw [if_neg (show ¬ (false = true) by decide)] at H; exact H
      clear H
      have H := H1
      clear H1
      simp only [Option.some.injEq, Prod.mk.injEq] at H
      obtain ⟨rfl, rfl, rfl⟩ := H
      go_wp2
      go_ret3
      exact ⟨rfl, HB.out⟩
     subst c29
     have H1 : (r5Regime.l2 kj26 l0 x7_3 x9_3 x10_3 1 t594 t595) = some (r1, r2, r3) := by rw [if_pos rfl] at H; exact H
     clear H
     have H := H1
     clear H1
     have H' := xA.mk H
     clear H
     go_wp2
     go_loopg [9, 11] kj26 (fun kq v9 v11 w' => ∃ (x9_5 : Int) (x11_5 : Int), v9 = .int .i64 x9_5 ∧ v11 = .int .i64 x11_5 ∧ xA (r5Regime.l2 kq l0 x7_3 x9_5 x10_3 x11_5 t594 t595 = some (r1, r2, r3)) ∧ xA (kq ≤ kj26) ∧ xA (Kd.N (Kd.slice 26 (Kd.slice 3 (Kd.int .i64))) 22 w' w.heap.size (fun k_ => k_ ≠ gb597) u7 x7_3) ∧ xA (w'.heap[gb597]? = some (.cells #[.int .i64 t594, .int .i64 t595] 37 (0, 0))) ∧ xA (Below w.heap.size w w'))
     case atStart => exact ⟨(x9_3), (1), rfl, rfl, H', ⟨Nat.le_refl _⟩, ⟨by exact HO_7.out⟩, ⟨by exact BK597.out⟩, ⟨HB.out⟩⟩
     case round =>
      clear H'
      obtain ⟨x9_5, x11_5, rfl, rfl, HA, HK5, HO_7, BK597, HB⟩ := hrel
      obtain _ | k5 := gk
      · exact absurd HA.out (by simp [r5Regime.l2])
      have H := HA.out
      clear HA
      simp only [r5Regime.l2] at H
      have HC30 := xA.mk H
      clear H
      go_upto_region 16 with (fail)
      go_cut [59] (fun v59 wc => ∃ (kq : Nat) (x59_29 : Bool), v59 = .bool x59_29 ∧ xA (r5Regime.j5 kq l0 x7_3 x9_5 x10_3 x11_5 x59_29 t594 t595 = some (r1, r2, r3)) ∧ xA (kq ≤ k5) ∧ xA (Kd.N (Kd.slice 26 (Kd.slice 3 (Kd.int .i64))) 22 wc w.heap.size (fun k_ => k_ ≠ gb597) u7 x7_3) ∧ xA (wc.heap[gb597]? = some (.cells #[.int .i64 t594, .int .i64 t595] 37 (0, 0))) ∧ xA (Below w.heap.size w wc))
      case first =>
       have H := HC30.out
       clear HC30
       obtain ⟨c31b0, H⟩ | ⟨c31b0, H⟩ := yA H
       rotate_left
       ·
        (first | rw [c31b0] | skip)
        have H' := xA.mk H
        clear H
        go_wp2
        go_meet
        case rel => exact ⟨_, (false), rfl, H', ⟨by have := HJ4.out; have := HK2.out; have := HK3.out; have := HJ26.out; have := HK5.out; first | omega | exact Nat.le_refl _⟩, ⟨by exact HO_7.out⟩, ⟨by exact BK597.out⟩, ⟨HB.out⟩⟩
       (first | rw [c31b0] | skip)
       have H' := xA.mk H
       clear H
       go_wp2
       go_meet
       case rel => exact ⟨_, ((x9_5 == 0)), rfl, H', ⟨by have := HJ4.out; have := HK2.out; have := HK3.out; have := HJ26.out; have := HK5.out; first | omega | exact Nat.le_refl _⟩, ⟨by exact HO_7.out⟩, ⟨by exact BK597.out⟩, ⟨HB.out⟩⟩
      case rest =>
       clear HC30
       obtain ⟨kq, x59_29, rfl, HA, HJ29, HO_7, BK597, HB⟩ := hcut
       obtain _ | kj29 := kq
       · exact absurd HA.out (by simp [r5Regime.j5])
       have H := HA.out
       clear HA
       simp only [r5Regime.j5] at H
       by_cases c32 : x59_29 = true
       ·
        subst c32
        have H1 : (if 0 ≤ x11_5 then (if x11_5 < (x7_3.length : Int) then (if 0 < (x7_3.length : Int) then ((r5ahead.f kj29 (rd_L3 x7_3 x11_5) (rd_L3 x7_3 0) (wrap64 (x11_5 * t594)) t595).bind fun t614 => (if t614 = true then (r5Regime.l2 kj29 l0 x7_3 x11_5 x10_3 (wrap64 (x11_5 + 1)) t594 t595) else (r5Regime.l2 kj29 l0 x7_3 x9_5 x10_3 (wrap64 (x11_5 + 1)) t594 t595))) else (none)) else (none)) else (none)) = some (r1, r2, r3) := by rw [if_pos rfl] at H; exact H
        clear H
        have H := H1
        clear H1
        obtain ⟨c33b0, H⟩ := xF H
        obtain ⟨c34b0, H⟩ := xF H
        obtain ⟨c35b0, H⟩ := xF H
        replace H := qw H
        obtain ⟨t614, A360, H⟩ := H
        replace H : (if t614 = true then (r5Regime.l2 kj29 l0 x7_3 x11_5 x10_3 (wrap64 (x11_5 + 1)) t594 t595) else (r5Regime.l2 kj29 l0 x7_3 x9_5 x10_3 (wrap64 (x11_5 + 1)) t594 t595)) = some (r1, r2, r3) := H
        have A36 := xA.mk A360
        clear A360
        by_cases c37 : t614 = true
        ·
         subst c37
         have H1 : (r5Regime.l2 kj29 l0 x7_3 x11_5 x10_3 (wrap64 (x11_5 + 1)) t594 t595) = some (r1, r2, r3) := by rw [if_pos rfl] at H; exact H
         clear H
         have H := H1
         clear H1
         have H' := xA.mk H
         clear H
         obtain ⟨Ao38, co38, eo38⟩ := Kd.N_slice HO_7.out
         subst eo38
         have p612 : 0 ≤ (x11_5 : Int) := qq
         have q612 : x11_5 < (x7_3.length : Int) := qq
         obtain ⟨ad612, A612_0, c612_0, e612, hx612_0, hl612_0, hi612_0⟩ := at_L3 (Kd.xP HO_7.out).2.2 x11_5 p612 q612
         cases e612
         obtain ⟨ce612, hce612, hMe612, hcc612⟩ := Kd.N_get HO_7.out [] x11_5 p612 (by first | exact q612 | exact qq | (have e_ := (Kd.xP HO_7.out).1; omega))
         obtain ⟨ua612_0, uc612_0, rfl, ul612_0, ge612_0⟩ := Kd.xX hMe612
         have hv612_0 := hcc612 0 _ rfl
         rw [Nat.add_zero, show ((Kd.slice 26 (Kd.slice 3 (Kd.int .i64)))).sz = 1 from rfl, Nat.mul_one] at hv612_0
         replace hv612_0 := qx (hv612_0.symm.trans hx612_0)
         injection hv612_0 with hva_ hvn_ hvc_
         rw [hva_] at ge612_0
         rw [hvc_] at ul612_0
         have HL612_0 := xA.mk (show Kd.V (Kd.slice 3 (Kd.int .i64)) 26 _ w.heap.size _ _ (rd_L3 x7_3 x11_5) from Kd.V_mk ul612_0 ge612_0)
         clear hva_ hvn_ hvc_ ge612_0 ul612_0
         clear hcc612 hce612
         have HR612_0 := xA.mk hi612_0
         have HC612_0 := xA.mk hl612_0
         clear hi612_0 hl612_0
         replace p612 := eq_true p612
         replace q612 := eq_true q612
         have p613 : 0 ≤ (0 : Int) := jj
         have q613 : 0 < (x7_3.length : Int) := qq
         obtain ⟨ad613, A613_0, c613_0, e613, hx613_0, hl613_0, hi613_0⟩ := at_L3 (Kd.xP HO_7.out).2.2 0 p613 q613
         obtain rfl : ad612 = ad613 := (by injection e613)
         obtain ⟨ce613, hce613, hMe613, hcc613⟩ := Kd.N_get HO_7.out [] 0 p613 (by first | exact q613 | exact qq | (have e_ := (Kd.xP HO_7.out).1; omega))
         obtain ⟨ua613_0, uc613_0, rfl, ul613_0, ge613_0⟩ := Kd.xX hMe613
         have hv613_0 := hcc613 0 _ rfl
         rw [Nat.add_zero, show ((Kd.slice 26 (Kd.slice 3 (Kd.int .i64)))).sz = 1 from rfl, Nat.mul_one] at hv613_0
         replace hv613_0 := qx (hv613_0.symm.trans hx613_0)
         injection hv613_0 with hva_ hvn_ hvc_
         rw [hva_] at ge613_0
         rw [hvc_] at ul613_0
         have HL613_0 := xA.mk (show Kd.V (Kd.slice 3 (Kd.int .i64)) 26 _ w.heap.size _ _ (rd_L3 x7_3 0) from Kd.V_mk ul613_0 ge613_0)
         clear hva_ hvn_ hvc_ ge613_0 ul613_0
         clear hcc613 hce613
         have qi613 : (0 < x7_3.length) = True := eq_true jj
         (try rw [show ((0 : Int)).toNat = 0 from rfl] at hx613_0)
         (try rw [Addr.add_zero'] at hx613_0)
         have HR613_0 := xA.mk hi613_0
         have HC613_0 := xA.mk hl613_0
         clear hi613_0 hl613_0
         replace p613 := eq_true p613
         replace q613 := eq_true q613
         have hcz39_0 : wc.cell? ⟨gb597, 0, none⟩ = some (.int .i64 t594) := (xE BK597.out 0).trans rfl
         have hcz39_1 : wc.cell? ⟨gb597, 1, none⟩ = some (.int .i64 t595) := (xE BK597.out 1).trans rfl
         have hfz39_0 := xC BK597.out 0
         have hfz39_1 := xC BK597.out 1
         go_wp2_with (first | (go_at_call 63; (with_reducible refine (r5ahead.calls kj29 _ _ (rd_L3 x7_3 x11_5) _ _ (rd_L3 x7_3 0) (wrap64 (x11_5 * t594)) t595 true _ ?side1 ?side2 ?side3 ?side4 A36.out).mono ?_); (case side1 => repeat (first | exact (by repeat (first | (with_reducible exact HR612_0.out) | exact HR612_0.out)))); (case side2 => exact HC612_0.out); (case side3 => repeat (first | exact (by repeat (first | (with_reducible exact HR613_0.out) | exact HR613_0.out)))); (case side4 => exact HC613_0.out); rintro e w' ⟨rfl, ⟨nd, rfl⟩⟩; (try exact qp)))
         repeat (go_quiet (first | (go_at_call 63; (with_reducible refine (r5ahead.calls kj29 _ _ (rd_L3 x7_3 x11_5) _ _ (rd_L3 x7_3 0) (wrap64 (x11_5 * t594)) t595 true _ ?side1 ?side2 ?side3 ?side4 A36.out).mono ?_); (case side1 => repeat (first | exact (by repeat (first | (with_reducible exact HR612_0.out) | exact HR612_0.out)))); (case side2 => exact HC612_0.out); (case side3 => repeat (first | exact (by repeat (first | (with_reducible exact HR613_0.out) | exact HR613_0.out)))); (case side4 => exact HC613_0.out); rintro e w' ⟨rfl, ⟨nd, rfl⟩⟩; (try exact qp))); try go_wp2_with (first | (go_at_call 63; (with_reducible refine (r5ahead.calls kj29 _ _ (rd_L3 x7_3 x11_5) _ _ (rd_L3 x7_3 0) (wrap64 (x11_5 * t594)) t595 true _ ?side1 ?side2 ?side3 ?side4 A36.out).mono ?_); (case side1 => repeat (first | exact (by repeat (first | (with_reducible exact HR612_0.out) | exact HR612_0.out)))); (case side2 => exact HC612_0.out); (case side3 => repeat (first | exact (by repeat (first | (with_reducible exact HR613_0.out) | exact HR613_0.out)))); (case side4 => exact HC613_0.out); rintro e w' ⟨rfl, ⟨nd, rfl⟩⟩; (try exact qp))))
         go_roundg kj29
         case measure => have := HJ4.out; have := HK2.out; have := HK3.out; have := HJ26.out; have := HK5.out; have := HJ29.out; omega
         case rel => exact ⟨(x11_5), (wrap64 (x11_5 + 1)), rfl, rfl, H', ⟨by have := HJ4.out; have := HK2.out; have := HK3.out; have := HJ26.out; have := HK5.out; have := HJ29.out; omega⟩, ⟨by exact HO_7.out⟩, ⟨qn BK597.out⟩, ⟨qo GE597.out⟩⟩
        replace c37 := Bool.eq_false_iff.mpr c37
        subst c37
        have H1 : (r5Regime.l2 kj29 l0 x7_3 x9_5 x10_3 (wrap64 (x11_5 + 1)) t594 t595) = some (r1, r2, r3) := by rw [if_neg (show ¬ (false = true) by decide)] at H; exact H
        clear H
        have H := H1
        clear H1
        have H' := xA.mk H
        clear H
        obtain ⟨Ao40, co40, eo40⟩ := Kd.N_slice HO_7.out
        subst eo40
        have p612 : 0 ≤ (x11_5 : Int) := qq
        have q612 : x11_5 < (x7_3.length : Int) := qq
        obtain ⟨ad612, A612_0, c612_0, e612, hx612_0, hl612_0, hi612_0⟩ := at_L3 (Kd.xP HO_7.out).2.2 x11_5 p612 q612
        cases e612
        obtain ⟨ce612, hce612, hMe612, hcc612⟩ := Kd.N_get HO_7.out [] x11_5 p612 (by first | exact q612 | exact qq | (have e_ := (Kd.xP HO_7.out).1; omega))
        obtain ⟨ua612_0, uc612_0, rfl, ul612_0, ge612_0⟩ := Kd.xX hMe612
        have hv612_0 := hcc612 0 _ rfl
        rw [Nat.add_zero, show ((Kd.slice 26 (Kd.slice 3 (Kd.int .i64)))).sz = 1 from rfl, Nat.mul_one] at hv612_0
        replace hv612_0 := qx (hv612_0.symm.trans hx612_0)
        injection hv612_0 with hva_ hvn_ hvc_
        rw [hva_] at ge612_0
        rw [hvc_] at ul612_0
        have HL612_0 := xA.mk (show Kd.V (Kd.slice 3 (Kd.int .i64)) 26 _ w.heap.size _ _ (rd_L3 x7_3 x11_5) from Kd.V_mk ul612_0 ge612_0)
        clear hva_ hvn_ hvc_ ge612_0 ul612_0
        clear hcc612 hce612
        have HR612_0 := xA.mk hi612_0
        have HC612_0 := xA.mk hl612_0
        clear hi612_0 hl612_0
        replace p612 := eq_true p612
        replace q612 := eq_true q612
        have p613 : 0 ≤ (0 : Int) := jj
        have q613 : 0 < (x7_3.length : Int) := qq
        obtain ⟨ad613, A613_0, c613_0, e613, hx613_0, hl613_0, hi613_0⟩ := at_L3 (Kd.xP HO_7.out).2.2 0 p613 q613
        obtain rfl : ad612 = ad613 := (by injection e613)
        obtain ⟨ce613, hce613, hMe613, hcc613⟩ := Kd.N_get HO_7.out [] 0 p613 (by first | exact q613 | exact qq | (have e_ := (Kd.xP HO_7.out).1; omega))
        obtain ⟨ua613_0, uc613_0, rfl, ul613_0, ge613_0⟩ := Kd.xX hMe613
        have hv613_0 := hcc613 0 _ rfl
        rw [Nat.add_zero, show ((Kd.slice 26 (Kd.slice 3 (Kd.int .i64)))).sz = 1 from rfl, Nat.mul_one] at hv613_0
        replace hv613_0 := qx (hv613_0.symm.trans hx613_0)
        injection hv613_0 with hva_ hvn_ hvc_
        rw [hva_] at ge613_0
        rw [hvc_] at ul613_0
        have HL613_0 := xA.mk (show Kd.V (Kd.slice 3 (Kd.int .i64)) 26 _ w.heap.size _ _ (rd_L3 x7_3 0) from Kd.V_mk ul613_0 ge613_0)
        clear hva_ hvn_ hvc_ ge613_0 ul613_0
        clear hcc613 hce613
        have qi613 : (0 < x7_3.length) = True := eq_true jj
        (try rw [show ((0 : Int)).toNat = 0 from rfl] at hx613_0)
        (try rw [Addr.add_zero'] at hx613_0)
        have HR613_0 := xA.mk hi613_0
        have HC613_0 := xA.mk hl613_0
        clear hi613_0 hl613_0
        replace p613 := eq_true p613
        replace q613 := eq_true q613
        have hcz41_0 : wc.cell? ⟨gb597, 0, none⟩ = some (.int .i64 t594) := (xE BK597.out 0).trans rfl
        have hcz41_1 : wc.cell? ⟨gb597, 1, none⟩ = some (.int .i64 t595) := (xE BK597.out 1).trans rfl
        have hfz41_0 := xC BK597.out 0
        have hfz41_1 := xC BK597.out 1
        go_wp2_with (first | (go_at_call 63; (with_reducible refine (r5ahead.calls kj29 _ _ (rd_L3 x7_3 x11_5) _ _ (rd_L3 x7_3 0) (wrap64 (x11_5 * t594)) t595 false _ ?side1 ?side2 ?side3 ?side4 A36.out).mono ?_); (case side1 => repeat (first | exact (by repeat (first | (with_reducible exact HR612_0.out) | exact HR612_0.out)))); (case side2 => exact HC612_0.out); (case side3 => repeat (first | exact (by repeat (first | (with_reducible exact HR613_0.out) | exact HR613_0.out)))); (case side4 => exact HC613_0.out); rintro e w' ⟨rfl, ⟨nd, rfl⟩⟩; (try exact qp)))
        repeat (go_quiet (first | (go_at_call 63; (with_reducible refine (r5ahead.calls kj29 _ _ (rd_L3 x7_3 x11_5) _ _ (rd_L3 x7_3 0) (wrap64 (x11_5 * t594)) t595 false _ ?side1 ?side2 ?side3 ?side4 A36.out).mono ?_); (case side1 => repeat (first | exact (by repeat (first | (with_reducible exact HR612_0.out) | exact HR612_0.out)))); (case side2 => exact HC612_0.out); (case side3 => repeat (first | exact (by repeat (first | (with_reducible exact HR613_0.out) | exact HR613_0.out)))); (case side4 => exact HC613_0.out); rintro e w' ⟨rfl, ⟨nd, rfl⟩⟩; (try exact qp))); try go_wp2_with (first | (go_at_call 63; (with_reducible refine (r5ahead.calls kj29 _ _ (rd_L3 x7_3 x11_5) _ _ (rd_L3 x7_3 0) (wrap64 (x11_5 * t594)) t595 false _ ?side1 ?side2 ?side3 ?side4 A36.out).mono ?_); (case side1 => repeat (first | exact (by repeat (first | (with_reducible exact HR612_0.out) | exact HR612_0.out)))); (case side2 => exact HC612_0.out); (case side3 => repeat (first | exact (by repeat (first | (with_reducible exact HR613_0.out) | exact HR613_0.out)))); (case side4 => exact HC613_0.out); rintro e w' ⟨rfl, ⟨nd, rfl⟩⟩; (try exact qp))))
        go_roundg kj29
        case measure => have := HJ4.out; have := HK2.out; have := HK3.out; have := HJ26.out; have := HK5.out; have := HJ29.out; omega
        case rel => exact ⟨(x9_5), (wrap64 (x11_5 + 1)), rfl, rfl, H', ⟨by have := HJ4.out; have := HK2.out; have := HK3.out; have := HJ26.out; have := HK5.out; have := HJ29.out; omega⟩, ⟨by exact HO_7.out⟩, ⟨qn BK597.out⟩, ⟨qo GE597.out⟩⟩
       replace c32 := Bool.eq_false_iff.mpr c32
       subst c32
       have H1 : (if x9_5 > 0 then (some (x9_5, x10_3, 0)) else (if 12 < (x7_3.length : Int) then ((r5Product.f kj29 l0 (rd_L3 x7_3 12)).bind fun t616 => (r5Regime.l3 kj29 l0 x7_3 x9_5 x10_3 t616 0 t594 t595)) else (none))) = some (r1, r2, r3) := by rw [if_neg (show ¬ (false = true) by decide)] at H; exact H
       clear H
       have H := H1
       clear H1
       by_cases c42 : x9_5 > 0
       ·
        rw [if_pos c42] at H
        have c42b0 : decide (0 < x9_5) = true := qu c42
        clear c42
        simp only [Option.some.injEq, Prod.mk.injEq] at H
        obtain ⟨rfl, rfl, rfl⟩ := H
        go_wp2
        repeat (go_quiet (fail); try go_wp2)
        go_ret3
        exact ⟨rfl, qo GE597.out⟩
       rw [if_neg c42] at H
       have c42b0 : decide (0 < x9_5) = false := qv c42
       clear c42
       obtain ⟨c43b0, H⟩ := xF H
       replace H := qw H
       obtain ⟨t616, A440, H⟩ := H
       replace H : (r5Regime.l3 kj29 l0 x7_3 x9_5 x10_3 t616 0 t594 t595) = some (r1, r2, r3) := H
       have A44 := xA.mk A440
       clear A440
       have H' := xA.mk H
       clear H
       obtain ⟨Ao45, co45, eo45⟩ := Kd.N_slice HO_7.out
       subst eo45
       have p615 : 0 ≤ (12 : Int) := jj
       have q615 : 12 < (x7_3.length : Int) := qq
       obtain ⟨ad615, A615_0, c615_0, e615, hx615_0, hl615_0, hi615_0⟩ := at_L3 (Kd.xP HO_7.out).2.2 12 p615 q615
       cases e615
       obtain ⟨ce615, hce615, hMe615, hcc615⟩ := Kd.N_get HO_7.out [] 12 p615 (by first | exact q615 | exact qq | (have e_ := (Kd.xP HO_7.out).1; omega))
       obtain ⟨ua615_0, uc615_0, rfl, ul615_0, ge615_0⟩ := Kd.xX hMe615
       have hv615_0 := hcc615 0 _ rfl
       rw [Nat.add_zero, show ((Kd.slice 26 (Kd.slice 3 (Kd.int .i64)))).sz = 1 from rfl, Nat.mul_one] at hv615_0
       replace hv615_0 := qx (hv615_0.symm.trans hx615_0)
       injection hv615_0 with hva_ hvn_ hvc_
       rw [hva_] at ge615_0
       rw [hvc_] at ul615_0
       have HL615_0 := xA.mk (show Kd.V (Kd.slice 3 (Kd.int .i64)) 26 _ w.heap.size _ _ (rd_L3 x7_3 12) from Kd.V_mk ul615_0 ge615_0)
       clear hva_ hvn_ hvc_ ge615_0 ul615_0
       clear hcc615 hce615
       (try simp only [show (12 : Int).toNat = 12 from rfl, Nat.reduceMul, Nat.reduceEqDiff, Go.Addr.add, ↓reduceIte] at hx615_0)
       have qi615 : (12 < x7_3.length) = True := eq_true jj
       (try rw [show ((12 : Int)).toNat = 12 from rfl] at hx615_0)
       have HR615_0 := xA.mk hi615_0
       have HC615_0 := xA.mk hl615_0
       clear hi615_0 hl615_0
       replace p615 := eq_true p615
       replace q615 := eq_true q615
       go_wp2_with (first | (go_at_call 62; (with_reducible refine (r5Product.calls kj29 _ _ l0 _ _ (rd_L3 x7_3 12) t616 _ ?side1 ?side2 ?side3 ?side4 A44.out).mono ?_); (case side1 => repeat (first | exact (Kd.xQ HR0.out HB.out))); (case side2 => exact HC0.out); (case side3 => repeat (first | exact (by repeat (first | (with_reducible exact HR615_0.out) | exact HR615_0.out)))); (case side4 => exact HC615_0.out); rintro e w46 ⟨v617, rfl, ho0, hb⟩; replace HL615_0 := xA.mk (Kd.V_elder' (qj HL615_0.out) (by first | exact Kd.N_base ho0 | exact Kd.S_base ho0) hb); have HO618 := xA.mk (Kd.N_lower (Kd.N_mono (ok' := fun k_ => some k_ ≠ (.slice (some ad615) x7_3.length co45 : Value).ownBlock ∧ k_ ≠ gb597) (Kd.S_N (Kd.S_bound ho0)) (fun k_ hk_ => ⟨(Kd.fresh' (Kd.N_lt (by exact HO_7.out)) k_ hk_.2.1), (Kd.freshB (g := gb597) (o := .cells #[.int .i64 t594, .int .i64 t595] 37 (0, 0)) (qn BK597.out) k_ hk_.2.1)⟩)) (xB (qo GE597.out))); replace HO_7 := xA.mk (Kd.N_elder' (by exact HO_7.out) (by first | exact Kd.N_base ho0 | exact Kd.S_base ho0) hb); replace BK597 := xA.mk (xO (g := gb597) (o := .cells #[.int .i64 t594, .int .i64 t595] 37 (0, 0)) (qn BK597.out) hb); replace HR615_0 := xA.mk (Kd.xQ (by repeat (first | (with_reducible exact HR615_0.out) | exact HR615_0.out)) hb); replace HB := xA.mk (xD (qo GE597.out) hb)))
       repeat (go_quiet (first | (go_at_call 62; (with_reducible refine (r5Product.calls kj29 _ _ l0 _ _ (rd_L3 x7_3 12) t616 _ ?side1 ?side2 ?side3 ?side4 A44.out).mono ?_); (case side1 => repeat (first | exact (Kd.xQ HR0.out HB.out))); (case side2 => exact HC0.out); (case side3 => repeat (first | exact (by repeat (first | (with_reducible exact HR615_0.out) | exact HR615_0.out)))); (case side4 => exact HC615_0.out); rintro e w46 ⟨v617, rfl, ho0, hb⟩; replace HL615_0 := xA.mk (Kd.V_elder' (qj HL615_0.out) (by first | exact Kd.N_base ho0 | exact Kd.S_base ho0) hb); have HO618 := xA.mk (Kd.N_lower (Kd.N_mono (ok' := fun k_ => some k_ ≠ (.slice (some ad615) x7_3.length co45 : Value).ownBlock ∧ k_ ≠ gb597) (Kd.S_N (Kd.S_bound ho0)) (fun k_ hk_ => ⟨(Kd.fresh' (Kd.N_lt (by exact HO_7.out)) k_ hk_.2.1), (Kd.freshB (g := gb597) (o := .cells #[.int .i64 t594, .int .i64 t595] 37 (0, 0)) (qn BK597.out) k_ hk_.2.1)⟩)) (xB (qo GE597.out))); replace HO_7 := xA.mk (Kd.N_elder' (by exact HO_7.out) (by first | exact Kd.N_base ho0 | exact Kd.S_base ho0) hb); replace BK597 := xA.mk (xO (g := gb597) (o := .cells #[.int .i64 t594, .int .i64 t595] 37 (0, 0)) (qn BK597.out) hb); replace HR615_0 := xA.mk (Kd.xQ (by repeat (first | (with_reducible exact HR615_0.out) | exact HR615_0.out)) hb); replace HB := xA.mk (xD (qo GE597.out) hb))); try go_wp2_with (first | (go_at_call 62; (with_reducible refine (r5Product.calls kj29 _ _ l0 _ _ (rd_L3 x7_3 12) t616 _ ?side1 ?side2 ?side3 ?side4 A44.out).mono ?_); (case side1 => repeat (first | exact (Kd.xQ HR0.out HB.out))); (case side2 => exact HC0.out); (case side3 => repeat (first | exact (by repeat (first | (with_reducible exact HR615_0.out) | exact HR615_0.out)))); (case side4 => exact HC615_0.out); rintro e w46 ⟨v617, rfl, ho0, hb⟩; replace HL615_0 := xA.mk (Kd.V_elder' (qj HL615_0.out) (by first | exact Kd.N_base ho0 | exact Kd.S_base ho0) hb); have HO618 := xA.mk (Kd.N_lower (Kd.N_mono (ok' := fun k_ => some k_ ≠ (.slice (some ad615) x7_3.length co45 : Value).ownBlock ∧ k_ ≠ gb597) (Kd.S_N (Kd.S_bound ho0)) (fun k_ hk_ => ⟨(Kd.fresh' (Kd.N_lt (by exact HO_7.out)) k_ hk_.2.1), (Kd.freshB (g := gb597) (o := .cells #[.int .i64 t594, .int .i64 t595] 37 (0, 0)) (qn BK597.out) k_ hk_.2.1)⟩)) (xB (qo GE597.out))); replace HO_7 := xA.mk (Kd.N_elder' (by exact HO_7.out) (by first | exact Kd.N_base ho0 | exact Kd.S_base ho0) hb); replace BK597 := xA.mk (xO (g := gb597) (o := .cells #[.int .i64 t594, .int .i64 t595] 37 (0, 0)) (qn BK597.out) hb); replace HR615_0 := xA.mk (Kd.xQ (by repeat (first | (with_reducible exact HR615_0.out) | exact HR615_0.out)) hb); replace HB := xA.mk (xD (qo GE597.out) hb))))
       go_loopg [13] kj29 (fun kq v13 w' => ∃ (x7_7 : List (List (List Int))) (x13_7 : Int), v13 = .int .i64 x13_7 ∧ xA (r5Regime.l3 kq l0 x7_7 x9_5 x10_3 t616 x13_7 t594 t595 = some (r1, r2, r3)) ∧ xA (kq ≤ kj29) ∧ xA (Kd.N (Kd.slice 26 (Kd.slice 3 (Kd.int .i64))) 22 w' w.heap.size (fun k_ => some k_ ≠ (v617 : Value).ownBlock ∧ k_ ≠ gb597) (.slice (some ad615) x7_3.length co45) x7_7) ∧ xA (Kd.N (Kd.slice 3 (Kd.int .i64)) 26 w' w.heap.size (fun k_ => some k_ ≠ ((.slice (some ad615) x7_3.length co45) : Value).ownBlock ∧ k_ ≠ gb597) v617 t616) ∧ xA (w'.heap[gb597]? = some (.cells #[.int .i64 t594, .int .i64 t595] 37 (0, 0))) ∧ xA (Below w.heap.size w w'))
       case atStart => exact ⟨(x7_3), (0), rfl, H', ⟨Nat.le_refl _⟩, ⟨by (with_reducible repeat (first | apply Kd.N_alloc | apply Kd.N_drewN | apply Kd.N_drew)); exact Kd.N_mono HO_7.out (fun _ hk => ⟨hk.2, hk.1⟩)⟩, ⟨by exact HO618.out⟩, ⟨qn BK597.out⟩, ⟨qo GE597.out⟩⟩
       case round =>
        clear H'
        obtain ⟨x7_7, x13_7, rfl, HA, HK7, HO_7, HO_12, BK597, HB⟩ := hrel
        have hl7_7 := (Kd.xP HO_7.out).1
        rw [hl7_7] at HO_7
        (try simp only [hl7_7])
        (try simp only [hl7_7] at BK597)
        (try simp only [hl7_7] at HO_12)
        obtain _ | k7 := gk
        · exact absurd HA.out (by simp [r5Regime.l3])
        have H := HA.out
        clear HA
        simp only [r5Regime.l3] at H
        obtain ⟨c47b0, H⟩ | ⟨c47b0, H⟩ := yA H
        rotate_left
        ·
         obtain ⟨c56b0, H⟩ := xF H
         obtain ⟨y621, hy621⟩ : ∃ y_ : List (List (List Int)), y_ = (x7_7.set (12 : Int).toNat t616) := ⟨_, rfl⟩
         replace H : (r5Regime.l1 k7 l0 y621 x9_5 (wrap64 (x10_3 + 1)) t594 t595) = some (r1, r2, r3) := by rw [hy621]; exact H
         have Ny621 := xA.mk hy621
         clear hy621
         have H' := xA.mk H
         clear H
         have p57 : 0 ≤ (12 : Int) := jj
         have q57 : (12 : Int) < ((x7_7.length : Int) : Int) := qq
         have qi57 : (12 < x7_7.length) = True := eq_true jj
         obtain ⟨go57, co57, eo57, gb57, gl57, cl57, HG57⟩ := Kd.N_form HO_7.out jj
         (first | cases eo57 | (injection eo57 with ea_ en_ ec_; (first | subst ea_ | (injection ea_ with ea_; subst ea_)); subst ec_; clear en_))
         have GB57 := xA.mk gb57
         have GG57 := xA.mk HG57
         clear gb57 gl57 HG57
         obtain ⟨ce57, hcl57, hM57, hcc57, hfr57⟩ := Kd.N_elem HO_7.out [] (12 : Int) p57 q57
         obtain ⟨ua57_0, uc57_0, rfl, ul57_0, ge57_0⟩ := Kd.xX hM57
         have hx57_0 := hcc57 0 _ rfl
         have hf57_0 := hfr57 0
         (try simp only [show ((Kd.slice 26 (Kd.slice 3 (Kd.int .i64)))).sz = 1 from rfl, Nat.mul_one, Nat.add_zero] at hx57_0)
         (try simp only [show ((Kd.slice 26 (Kd.slice 3 (Kd.int .i64)))).sz = 1 from rfl, Nat.mul_one, Nat.add_zero] at hf57_0)
         (try clear hM57); clear hcl57 hcc57 hfr57
         (try rw [show ((12 : Int)).toNat = 12 from rfl] at hx57_0)
         (try simp only [Nat.reduceMul, Nat.zero_mul, Nat.zero_add, Nat.reduceAdd] at hx57_0)
         (try rw [show ((12 : Int)).toNat = 12 from rfl] at hf57_0)
         (try simp only [Nat.reduceMul, Nat.zero_mul, Nat.zero_add, Nat.reduceAdd] at hf57_0)
         replace p57 := eq_true p57
         replace q57 := eq_true q57
         have HX58 := xA.mk (show Kd.N (Kd.slice 26 (Kd.slice 3 (Kd.int .i64))) 22 wr w.heap.size (fun k_ => k_ ≠ gb597) (.slice (some ⟨go57, 0, none⟩) x7_7.length co45) x7_7 from (by (with_reducible repeat (first | apply Kd.N_alloc | apply Kd.N_drewN | apply Kd.N_drew)); exact Kd.N_mono HO_7.out (fun _ hk => hk.2)))
         obtain ⟨ce58, hcl58, hM58, hcc58, hfr58⟩ := Kd.N_elem HX58.out [] (12 : Int) jj (by have h_ : (12 : Int) < ((x7_7.length : Int) : Int) := qq; first | exact h_ | (have e_ := (Kd.xP HO_7.out).1; omega) | simpa using h_)
         obtain ⟨ua58_0, uc58_0, rfl, ul58_0, ge58_0⟩ := Kd.xX hM58
         obtain ⟨Av617, cv617, hvv617⟩ := Kd.N_slice HO_12.out
         subst hvv617
         have HP58 := Kd.N_seg HX58.out (12 : Int) jj (by have h_ : (12 : Int) < ((x7_7.length : Int) : Int) := qq; first | exact h_ | (have e_ := (Kd.xP HO_7.out).1; omega) | simpa using h_) (seg := [(.slice Av617 t616.length cv617)]) (j := 0) hcl58 hcc58 (show 1 ≤ 1 from by decide) (x' := t616) (Kd.FK_slice_mk (Kd.xP (Kd.N_mono (ok' := (fun k_ => ((fun k_ => k_ ≠ gb597)) k_ ∧ k_ ≠ go57)) (HO_12.out) (fun k_ hk => ⟨hk.2, fun e_ => (hk.1) (by rw [e_]; rfl)⟩))).2.1 (Kd.N_F (Kd.N_mono (ok' := (fun k_ => ((fun k_ => k_ ≠ gb597)) k_ ∧ k_ ≠ go57)) (HO_12.out) (fun k_ hk => ⟨hk.2, fun e_ => (hk.1) (by rw [e_]; rfl)⟩)))) (fun _ hk => hk)
         have hx58_0 := hcc58 0 _ rfl
         (try simp only [show ((Kd.slice 26 (Kd.slice 3 (Kd.int .i64)))).sz = 1 from rfl, Nat.mul_one, Nat.add_zero] at hx58_0)
         (try rw [show ((12 : Int)).toNat = 12 from rfl] at hx58_0)
         (try simp only [Nat.reduceMul, Nat.zero_mul, Nat.zero_add, Nat.reduceAdd] at hx58_0)
         have hf58_0 := hfr58 0
         (try simp only [show ((Kd.slice 26 (Kd.slice 3 (Kd.int .i64)))).sz = 1 from rfl, Nat.mul_one, Nat.add_zero] at hf58_0)
         (try rw [show ((12 : Int)).toNat = 12 from rfl] at hf58_0)
         (try simp only [Nat.reduceMul, Nat.zero_mul, Nat.zero_add, Nat.reduceAdd] at hf58_0)
         (try clear hM58); clear hcl58 hcc58 hfr58
         (try simp only [show ((Kd.slice 26 (Kd.slice 3 (Kd.int .i64)))).sz = 1 from rfl, Nat.mul_one, Nat.add_zero] at HP58)
         (try simp only [show ((Kd.slice 26 (Kd.slice 3 (Kd.int .i64)))).sz = 1 from rfl, Nat.mul_one, Nat.add_zero] at HP58)
         go_wp2_with (first | ((with_reducible refine gate_store (t := 22) (p := 100) rfl ?_); (try (rw [drewN_self wr]; generalize hq_ : World.drewN wr _ = wr; have n0_ := xA.mk (Kd.N_at hq_ HO_7.out); have n1_ := xA.mk (blk_at hq_ BK597.out); have n2_ := xA.mk (below_at hq_ HB.out); clear hq_ HO_7 BK597 HB; have HO_7 := n0_; have BK597 := n1_; have HB := n2_; clear n0_ n1_ n2_; (try (have HX58 := xA.mk (show Kd.N (Kd.slice 26 (Kd.slice 3 (Kd.int .i64))) 22 wr w.heap.size (fun k_ => k_ ≠ gb597) (.slice (some ⟨go57, 0, none⟩) x7_7.length co45) x7_7 from (by (with_reducible repeat (first | apply Kd.N_alloc | apply Kd.N_drewN | apply Kd.N_drew)); exact Kd.N_mono HO_7.out (fun _ hk => hk.2))))); (try (obtain ⟨ce58, hcl58, hM58, hcc58, hfr58⟩ := Kd.N_elem HX58.out [] (12 : Int) jj (by have h_ : (12 : Int) < ((x7_7.length : Int) : Int) := qq; first | exact h_ | (have e_ := (Kd.xP HO_7.out).1; omega) | simpa using h_))); (try (obtain ⟨ua58_0, uc58_0, rfl, ul58_0, ge58_0⟩ := Kd.xX hM58)); (try (have HP58 := Kd.N_seg HX58.out (12 : Int) jj (by have h_ : (12 : Int) < ((x7_7.length : Int) : Int) := qq; first | exact h_ | (have e_ := (Kd.xP HO_7.out).1; omega) | simpa using h_) (seg := [(.slice Av617 t616.length cv617)]) (j := 0) hcl58 hcc58 (show 1 ≤ 1 from by decide) (x' := t616) (Kd.FK_slice_mk (Kd.xP (Kd.N_mono (ok' := (fun k_ => ((fun k_ => k_ ≠ gb597)) k_ ∧ k_ ≠ go57)) (HO_12.out) (fun k_ hk => ⟨hk.2, fun e_ => (hk.1) (by rw [e_]; rfl)⟩))).2.1 (Kd.N_F (Kd.N_mono (ok' := (fun k_ => ((fun k_ => k_ ≠ gb597)) k_ ∧ k_ ≠ go57)) (HO_12.out) (fun k_ hk => ⟨hk.2, fun e_ => (hk.1) (by rw [e_]; rfl)⟩)))) (fun _ hk => hk))); (try (have hx58_0 := hcc58 0 _ rfl)); (try (try simp only [show ((Kd.slice 26 (Kd.slice 3 (Kd.int .i64)))).sz = 1 from rfl, Nat.mul_one, Nat.add_zero] at hx58_0)); (try (try rw [show ((12 : Int)).toNat = 12 from rfl] at hx58_0)); (try (try simp only [Nat.reduceMul, Nat.zero_mul, Nat.zero_add, Nat.reduceAdd] at hx58_0)); (try (have hf58_0 := hfr58 0)); (try (try simp only [show ((Kd.slice 26 (Kd.slice 3 (Kd.int .i64)))).sz = 1 from rfl, Nat.mul_one, Nat.add_zero] at hf58_0)); (try (try rw [show ((12 : Int)).toNat = 12 from rfl] at hf58_0)); (try (try simp only [Nat.reduceMul, Nat.zero_mul, Nat.zero_add, Nat.reduceAdd] at hf58_0)); (try ((try clear hM58); clear hcl58 hcc58 hfr58)); (try (try simp only [show ((Kd.slice 26 (Kd.slice 3 (Kd.int .i64)))).sz = 1 from rfl, Nat.mul_one, Nat.add_zero] at HP58)); (try (try simp only [show ((Kd.slice 26 (Kd.slice 3 (Kd.int .i64)))).sz = 1 from rfl, Nat.mul_one, Nat.add_zero] at HP58)))); refine store_event (t := 22) (p := 100) (v := ?vo_w59) (w1 := (wr.setCell ⟨go57, 12, none⟩ ((.slice Av617 t616.length cv617)))) ?hg ?ho ?hn ?hr ?_; (case ho => rfl); (case hg => rfl); (case hn => rfl); (case hr => first | (go_simp; done) | (go_simp; rfl) | (obtain ⟨A_, c_, e_⟩ := Kd.R_slice (xA.out (by assumption : xA (Kd.R _ _ _ _ _ (.slice Av617 t616.length cv617) _))); rw [e_]; go_simp; done) | (obtain ⟨A_, c_, e_⟩ := Kd.R_slice (xA.out (by assumption : xA (Kd.R _ _ _ _ _ (.slice Av617 t616.length cv617) _))); rw [e_]; go_simp; rfl)); intro w59 hw; have hg : wr.grownBy w59 (some go57) := (by rw [hw]; exact HP58.2); have hp_ : Kd.N (Kd.slice 26 (Kd.slice 3 (Kd.int .i64))) 22 w59 w.heap.size (fun k_ => k_ ≠ gb597) (.slice (some ⟨go57, 0, none⟩) x7_7.length co45) y621 := (by rw [hw, Ny621.out]; exact HP58.1); clear HP58; have n0_ := xA.mk (hp_); have n1_ := xA.mk (blk_grown (g := gb597) (o := .cells #[.int .i64 t594, .int .i64 t595] 37 (0, 0)) (qn BK597.out) hg (Kd.N_ne HO_7.out BK597.out (by decide))); have n2_ := xA.mk ((by rw [hw]; exact xR (HB.out) GB57.out : Below w.heap.size w w59)); clear HO_7; clear BK597; clear HB; clear HO_12; have HO_7 := n0_; have BK597 := n1_; have HB := n2_; clear n0_ n1_ n2_; clear hg hw hp_))
         repeat (go_quiet (first | ((with_reducible refine gate_store (t := 22) (p := 100) rfl ?_); (try (rw [drewN_self wr]; generalize hq_ : World.drewN wr _ = wr; have n0_ := xA.mk (Kd.N_at hq_ HO_7.out); have n1_ := xA.mk (blk_at hq_ BK597.out); have n2_ := xA.mk (below_at hq_ HB.out); clear hq_ HO_7 BK597 HB; have HO_7 := n0_; have BK597 := n1_; have HB := n2_; clear n0_ n1_ n2_; (try (have HX58 := xA.mk (show Kd.N (Kd.slice 26 (Kd.slice 3 (Kd.int .i64))) 22 wr w.heap.size (fun k_ => k_ ≠ gb597) (.slice (some ⟨go57, 0, none⟩) x7_7.length co45) x7_7 from (by (with_reducible repeat (first | apply Kd.N_alloc | apply Kd.N_drewN | apply Kd.N_drew)); exact Kd.N_mono HO_7.out (fun _ hk => hk.2))))); (try (obtain ⟨ce58, hcl58, hM58, hcc58, hfr58⟩ := Kd.N_elem HX58.out [] (12 : Int) jj (by have h_ : (12 : Int) < ((x7_7.length : Int) : Int) := qq; first | exact h_ | (have e_ := (Kd.xP HO_7.out).1; omega) | simpa using h_))); (try (obtain ⟨ua58_0, uc58_0, rfl, ul58_0, ge58_0⟩ := Kd.xX hM58)); (try (have HP58 := Kd.N_seg HX58.out (12 : Int) jj (by have h_ : (12 : Int) < ((x7_7.length : Int) : Int) := qq; first | exact h_ | (have e_ := (Kd.xP HO_7.out).1; omega) | simpa using h_) (seg := [(.slice Av617 t616.length cv617)]) (j := 0) hcl58 hcc58 (show 1 ≤ 1 from by decide) (x' := t616) (Kd.FK_slice_mk (Kd.xP (Kd.N_mono (ok' := (fun k_ => ((fun k_ => k_ ≠ gb597)) k_ ∧ k_ ≠ go57)) (HO_12.out) (fun k_ hk => ⟨hk.2, fun e_ => (hk.1) (by rw [e_]; rfl)⟩))).2.1 (Kd.N_F (Kd.N_mono (ok' := (fun k_ => ((fun k_ => k_ ≠ gb597)) k_ ∧ k_ ≠ go57)) (HO_12.out) (fun k_ hk => ⟨hk.2, fun e_ => (hk.1) (by rw [e_]; rfl)⟩)))) (fun _ hk => hk))); (try (have hx58_0 := hcc58 0 _ rfl)); (try (try simp only [show ((Kd.slice 26 (Kd.slice 3 (Kd.int .i64)))).sz = 1 from rfl, Nat.mul_one, Nat.add_zero] at hx58_0)); (try (try rw [show ((12 : Int)).toNat = 12 from rfl] at hx58_0)); (try (try simp only [Nat.reduceMul, Nat.zero_mul, Nat.zero_add, Nat.reduceAdd] at hx58_0)); (try (have hf58_0 := hfr58 0)); (try (try simp only [show ((Kd.slice 26 (Kd.slice 3 (Kd.int .i64)))).sz = 1 from rfl, Nat.mul_one, Nat.add_zero] at hf58_0)); (try (try rw [show ((12 : Int)).toNat = 12 from rfl] at hf58_0)); (try (try simp only [Nat.reduceMul, Nat.zero_mul, Nat.zero_add, Nat.reduceAdd] at hf58_0)); (try ((try clear hM58); clear hcl58 hcc58 hfr58)); (try (try simp only [show ((Kd.slice 26 (Kd.slice 3 (Kd.int .i64)))).sz = 1 from rfl, Nat.mul_one, Nat.add_zero] at HP58)); (try (try simp only [show ((Kd.slice 26 (Kd.slice 3 (Kd.int .i64)))).sz = 1 from rfl, Nat.mul_one, Nat.add_zero] at HP58)))); refine store_event (t := 22) (p := 100) (v := ?vo_w59) (w1 := (wr.setCell ⟨go57, 12, none⟩ ((.slice Av617 t616.length cv617)))) ?hg ?ho ?hn ?hr ?_; (case ho => rfl); (case hg => rfl); (case hn => rfl); (case hr => first | (go_simp; done) | (go_simp; rfl) | (obtain ⟨A_, c_, e_⟩ := Kd.R_slice (xA.out (by assumption : xA (Kd.R _ _ _ _ _ (.slice Av617 t616.length cv617) _))); rw [e_]; go_simp; done) | (obtain ⟨A_, c_, e_⟩ := Kd.R_slice (xA.out (by assumption : xA (Kd.R _ _ _ _ _ (.slice Av617 t616.length cv617) _))); rw [e_]; go_simp; rfl)); intro w59 hw; have hg : wr.grownBy w59 (some go57) := (by rw [hw]; exact HP58.2); have hp_ : Kd.N (Kd.slice 26 (Kd.slice 3 (Kd.int .i64))) 22 w59 w.heap.size (fun k_ => k_ ≠ gb597) (.slice (some ⟨go57, 0, none⟩) x7_7.length co45) y621 := (by rw [hw, Ny621.out]; exact HP58.1); clear HP58; have n0_ := xA.mk (hp_); have n1_ := xA.mk (blk_grown (g := gb597) (o := .cells #[.int .i64 t594, .int .i64 t595] 37 (0, 0)) (qn BK597.out) hg (Kd.N_ne HO_7.out BK597.out (by decide))); have n2_ := xA.mk ((by rw [hw]; exact xR (HB.out) GB57.out : Below w.heap.size w w59)); clear HO_7; clear BK597; clear HB; clear HO_12; have HO_7 := n0_; have BK597 := n1_; have HB := n2_; clear n0_ n1_ n2_; clear hg hw hp_)); try go_wp2_with (first | ((with_reducible refine gate_store (t := 22) (p := 100) rfl ?_); (try (rw [drewN_self wr]; generalize hq_ : World.drewN wr _ = wr; have n0_ := xA.mk (Kd.N_at hq_ HO_7.out); have n1_ := xA.mk (blk_at hq_ BK597.out); have n2_ := xA.mk (below_at hq_ HB.out); clear hq_ HO_7 BK597 HB; have HO_7 := n0_; have BK597 := n1_; have HB := n2_; clear n0_ n1_ n2_; (try (have HX58 := xA.mk (show Kd.N (Kd.slice 26 (Kd.slice 3 (Kd.int .i64))) 22 wr w.heap.size (fun k_ => k_ ≠ gb597) (.slice (some ⟨go57, 0, none⟩) x7_7.length co45) x7_7 from (by (with_reducible repeat (first | apply Kd.N_alloc | apply Kd.N_drewN | apply Kd.N_drew)); exact Kd.N_mono HO_7.out (fun _ hk => hk.2))))); (try (obtain ⟨ce58, hcl58, hM58, hcc58, hfr58⟩ := Kd.N_elem HX58.out [] (12 : Int) jj (by have h_ : (12 : Int) < ((x7_7.length : Int) : Int) := qq; first | exact h_ | (have e_ := (Kd.xP HO_7.out).1; omega) | simpa using h_))); (try (obtain ⟨ua58_0, uc58_0, rfl, ul58_0, ge58_0⟩ := Kd.xX hM58)); (try (have HP58 := Kd.N_seg HX58.out (12 : Int) jj (by have h_ : (12 : Int) < ((x7_7.length : Int) : Int) := qq; first | exact h_ | (have e_ := (Kd.xP HO_7.out).1; omega) | simpa using h_) (seg := [(.slice Av617 t616.length cv617)]) (j := 0) hcl58 hcc58 (show 1 ≤ 1 from by decide) (x' := t616) (Kd.FK_slice_mk (Kd.xP (Kd.N_mono (ok' := (fun k_ => ((fun k_ => k_ ≠ gb597)) k_ ∧ k_ ≠ go57)) (HO_12.out) (fun k_ hk => ⟨hk.2, fun e_ => (hk.1) (by rw [e_]; rfl)⟩))).2.1 (Kd.N_F (Kd.N_mono (ok' := (fun k_ => ((fun k_ => k_ ≠ gb597)) k_ ∧ k_ ≠ go57)) (HO_12.out) (fun k_ hk => ⟨hk.2, fun e_ => (hk.1) (by rw [e_]; rfl)⟩)))) (fun _ hk => hk))); (try (have hx58_0 := hcc58 0 _ rfl)); (try (try simp only [show ((Kd.slice 26 (Kd.slice 3 (Kd.int .i64)))).sz = 1 from rfl, Nat.mul_one, Nat.add_zero] at hx58_0)); (try (try rw [show ((12 : Int)).toNat = 12 from rfl] at hx58_0)); (try (try simp only [Nat.reduceMul, Nat.zero_mul, Nat.zero_add, Nat.reduceAdd] at hx58_0)); (try (have hf58_0 := hfr58 0)); (try (try simp only [show ((Kd.slice 26 (Kd.slice 3 (Kd.int .i64)))).sz = 1 from rfl, Nat.mul_one, Nat.add_zero] at hf58_0)); (try (try rw [show ((12 : Int)).toNat = 12 from rfl] at hf58_0)); (try (try simp only [Nat.reduceMul, Nat.zero_mul, Nat.zero_add, Nat.reduceAdd] at hf58_0)); (try ((try clear hM58); clear hcl58 hcc58 hfr58)); (try (try simp only [show ((Kd.slice 26 (Kd.slice 3 (Kd.int .i64)))).sz = 1 from rfl, Nat.mul_one, Nat.add_zero] at HP58)); (try (try simp only [show ((Kd.slice 26 (Kd.slice 3 (Kd.int .i64)))).sz = 1 from rfl, Nat.mul_one, Nat.add_zero] at HP58)))); refine store_event (t := 22) (p := 100) (v := ?vo_w59) (w1 := (wr.setCell ⟨go57, 12, none⟩ ((.slice Av617 t616.length cv617)))) ?hg ?ho ?hn ?hr ?_; (case ho => rfl); (case hg => rfl); (case hn => rfl); (case hr => first | (go_simp; done) | (go_simp; rfl) | (obtain ⟨A_, c_, e_⟩ := Kd.R_slice (xA.out (by assumption : xA (Kd.R _ _ _ _ _ (.slice Av617 t616.length cv617) _))); rw [e_]; go_simp; done) | (obtain ⟨A_, c_, e_⟩ := Kd.R_slice (xA.out (by assumption : xA (Kd.R _ _ _ _ _ (.slice Av617 t616.length cv617) _))); rw [e_]; go_simp; rfl)); intro w59 hw; have hg : wr.grownBy w59 (some go57) := (by rw [hw]; exact HP58.2); have hp_ : Kd.N (Kd.slice 26 (Kd.slice 3 (Kd.int .i64))) 22 w59 w.heap.size (fun k_ => k_ ≠ gb597) (.slice (some ⟨go57, 0, none⟩) x7_7.length co45) y621 := (by rw [hw, Ny621.out]; exact HP58.1); clear HP58; have n0_ := xA.mk (hp_); have n1_ := xA.mk (blk_grown (g := gb597) (o := .cells #[.int .i64 t594, .int .i64 t595] 37 (0, 0)) (qn BK597.out) hg (Kd.N_ne HO_7.out BK597.out (by decide))); have n2_ := xA.mk ((by rw [hw]; exact xR (HB.out) GB57.out : Below w.heap.size w w59)); clear HO_7; clear BK597; clear HB; clear HO_12; have HO_7 := n0_; have BK597 := n1_; have HB := n2_; clear n0_ n1_ n2_; clear hg hw hp_)))
         (try simp only [← hl7_7])
         go_roundg k7
         case measure => have := HJ4.out; have := HK2.out; have := HK3.out; have := HJ26.out; have := HK5.out; have := HJ29.out; have := HK7.out; omega
         case rel => exact ⟨(y621), (x9_5), (wrap64 (x10_3 + 1)), rfl, rfl, H', ⟨by have := HJ4.out; have := HK2.out; have := HK3.out; have := HJ26.out; have := HK5.out; have := HJ29.out; have := HK7.out; omega⟩, ⟨by (try simp only [hl7_7]); exact HO_7.out⟩, ⟨by (try simp only [hl7_7]); (with_reducible repeat (first | refine xK ?_ _ | refine xI ?_ | refine xJ ?_ _)); exact BK597.out⟩, ⟨qo GE597.out⟩⟩
        obtain ⟨ji48, hji48⟩ : ∃ j_ : Int, (wrap64 (x13_7 + 1)) = j_ := ⟨_, rfl⟩
        replace H : (if 0 ≤ (ji48) then (if (ji48) < (x7_7.length : Int) then (if 0 ≤ x13_7 then (if x13_7 < (x7_7.length : Int) then (r5Regime.l3 k7 l0 (x7_7.set (x13_7 : Int).toNat (rd_L3 x7_7 (ji48))) x9_5 x10_3 t616 ji48 t594 t595) else (none)) else (none)) else (none)) else (none)) = some (r1, r2, r3) := by first | (rw [hji48] at H; exact H) | (simp only [hji48] at H ⊢; exact H)
        have hji48w : (IntKind.i64.wrap (x13_7 + 1)) = ji48 := (i64_w _).trans hji48
        obtain ⟨c49b0, H⟩ := xF H
        obtain ⟨c50b0, H⟩ := xF H
        obtain ⟨c51b0, H⟩ := xF H
        obtain ⟨c52b0, H⟩ := xF H
        obtain ⟨y620, hy620⟩ : ∃ y_ : List (List (List Int)), y_ = (x7_7.set (x13_7 : Int).toNat (rd_L3 x7_7 (ji48))) := ⟨_, rfl⟩
        replace H : (r5Regime.l3 k7 l0 y620 x9_5 x10_3 t616 ji48 t594 t595) = some (r1, r2, r3) := by rw [hy620]; exact H
        have Ny620 := xA.mk hy620
        clear hy620
        have H' := xA.mk H
        clear H
        have p619 : 0 ≤ ((ji48) : Int) := qq
        have q619 : (ji48) < (x7_7.length : Int) := qq
        obtain ⟨ad619, A619_0, c619_0, e619, hx619_0, hl619_0, hi619_0⟩ := at_L3 (Kd.xP HO_7.out).2.2 (ji48) p619 q619
        obtain rfl : ad615 = ad619 := (by injection e619)
        obtain ⟨ce619, hce619, hMe619, hcc619⟩ := Kd.N_get HO_7.out [] (ji48) p619 (by first | exact q619 | exact qq | (have e_ := (Kd.xP HO_7.out).1; omega))
        obtain ⟨ua619_0, uc619_0, rfl, ul619_0, ge619_0⟩ := Kd.xX hMe619
        have hv619_0 := hcc619 0 _ rfl
        rw [Nat.add_zero, show ((Kd.slice 26 (Kd.slice 3 (Kd.int .i64)))).sz = 1 from rfl, Nat.mul_one] at hv619_0
        replace hv619_0 := qx (hv619_0.symm.trans hx619_0)
        injection hv619_0 with hva_ hvn_ hvc_
        rw [hva_] at ge619_0
        rw [hvc_] at ul619_0
        have HL619_0 := xA.mk (show Kd.V (Kd.slice 3 (Kd.int .i64)) 26 _ w.heap.size _ _ (rd_L3 x7_7 (ji48)) from Kd.V_mk ul619_0 ge619_0)
        clear hva_ hvn_ hvc_ ge619_0 ul619_0
        clear hcc619 hce619
        have HR619_0 := xA.mk hi619_0
        have HC619_0 := xA.mk hl619_0
        clear hi619_0 hl619_0
        replace p619 := eq_true p619
        replace q619 := eq_true q619
        have p53 : 0 ≤ (x13_7 : Int) := qq
        have q53 : (x13_7 : Int) < ((x7_7.length : Int) : Int) := qq
        obtain ⟨go53, co53, eo53, gb53, gl53, cl53, HG53⟩ := Kd.N_form HO_7.out jj
        (first | cases eo53 | (injection eo53 with ea_ en_ ec_; (first | subst ea_ | (injection ea_ with ea_; subst ea_)); subst ec_; clear en_))
        have GB53 := xA.mk gb53
        have GG53 := xA.mk HG53
        clear gb53 gl53 HG53
        (first | simp only [add_plain] at hx615_0 | skip)
        (first | simp only [add_plain] at hx619_0 | skip)
        obtain ⟨ce53, hcl53, hM53, hcc53, hfr53⟩ := Kd.N_elem HO_7.out [] (x13_7 : Int) p53 q53
        obtain ⟨ua53_0, uc53_0, rfl, ul53_0, ge53_0⟩ := Kd.xX hM53
        have hx53_0 := hcc53 0 _ rfl
        have hf53_0 := hfr53 0
        (try simp only [show ((Kd.slice 26 (Kd.slice 3 (Kd.int .i64)))).sz = 1 from rfl, Nat.mul_one, Nat.add_zero] at hx53_0)
        (try simp only [show ((Kd.slice 26 (Kd.slice 3 (Kd.int .i64)))).sz = 1 from rfl, Nat.mul_one, Nat.add_zero] at hf53_0)
        (try clear hM53); clear hcl53 hcc53 hfr53
        replace p53 := eq_true p53
        replace q53 := eq_true q53
        have HX54 := xA.mk (show Kd.N (Kd.slice 26 (Kd.slice 3 (Kd.int .i64))) 22 wr w.heap.size (fun k_ => some k_ ≠ (v617 : Value).ownBlock ∧ k_ ≠ gb597) (.slice (some ⟨go53, 0, none⟩) x7_7.length co45) x7_7 from (by exact HO_7.out))
        obtain ⟨ce54, hcl54, hM54, hcc54, hfr54⟩ := Kd.N_elem HX54.out [] (x13_7 : Int) (qq) (by have h_ : (x13_7 : Int) < ((x7_7.length : Int) : Int) := qq; first | exact h_ | (have e_ := (Kd.xP HO_7.out).1; omega) | simpa using h_)
        obtain ⟨ua54_0, uc54_0, rfl, ul54_0, ge54_0⟩ := Kd.xX hM54
        have HP54 := Kd.N_seg HX54.out (x13_7 : Int) (qq) (by have h_ : (x13_7 : Int) < ((x7_7.length : Int) : Int) := qq; first | exact h_ | (have e_ := (Kd.xP HO_7.out).1; omega) | simpa using h_) (seg := [.slice A619_0 (rd_L3 x7_7 (ji48)).length c619_0]) (j := 0) hcl54 hcc54 (show 1 ≤ 1 from by decide) (x' := rd_L3 x7_7 (ji48)) (Kd.FK_slice_mk (Kd.xW (Kd.V_mono (ok' := (fun k_ => ((fun k_ => some k_ ≠ (v617 : Value).ownBlock ∧ k_ ≠ gb597)) k_ ∧ k_ ≠ go53)) (HL619_0.out) (fun k_ hk => ⟨⟨hk.1.1, hk.1.2⟩, fun e_ => (hk.2) (by rw [e_]; rfl)⟩))).2.1 (Kd.V_F (Kd.V_mono (ok' := (fun k_ => ((fun k_ => some k_ ≠ (v617 : Value).ownBlock ∧ k_ ≠ gb597)) k_ ∧ k_ ≠ go53)) (HL619_0.out) (fun k_ hk => ⟨⟨hk.1.1, hk.1.2⟩, fun e_ => (hk.2) (by rw [e_]; rfl)⟩)))) (fun _ hk => hk)
        have hx54_0 := hcc54 0 _ rfl
        (try simp only [show ((Kd.slice 26 (Kd.slice 3 (Kd.int .i64)))).sz = 1 from rfl, Nat.mul_one, Nat.add_zero] at hx54_0)
        have hf54_0 := hfr54 0
        (try simp only [show ((Kd.slice 26 (Kd.slice 3 (Kd.int .i64)))).sz = 1 from rfl, Nat.mul_one, Nat.add_zero] at hf54_0)
        (try clear hM54); clear hcl54 hcc54 hfr54
        (try simp only [show ((Kd.slice 26 (Kd.slice 3 (Kd.int .i64)))).sz = 1 from rfl, Nat.mul_one, Nat.add_zero] at HP54)
        (try simp only [show ((Kd.slice 26 (Kd.slice 3 (Kd.int .i64)))).sz = 1 from rfl, Nat.mul_one, Nat.add_zero] at HP54)
        go_wp2_with (first | ((with_reducible refine gate_store (t := 22) (p := 97) rfl ?_); (try (rw [drewN_self wr]; generalize hq_ : World.drewN wr _ = wr; have n0_ := xA.mk (Kd.N_at hq_ HO_7.out); have n1_ := xA.mk (Kd.N_at hq_ HO_12.out); have n2_ := xA.mk (Kd.V_at hq_ HL619_0.out); have n3_ := xA.mk (blk_at hq_ BK597.out); have n4_ := xA.mk (below_at hq_ HB.out); clear hq_ HO_7 HO_12 HL619_0 BK597 HB; have HO_7 := n0_; have HO_12 := n1_; have HL619_0 := n2_; have BK597 := n3_; have HB := n4_; clear n0_ n1_ n2_ n3_ n4_; (try (have HX54 := xA.mk (show Kd.N (Kd.slice 26 (Kd.slice 3 (Kd.int .i64))) 22 wr w.heap.size (fun k_ => some k_ ≠ (v617 : Value).ownBlock ∧ k_ ≠ gb597) (.slice (some ⟨go53, 0, none⟩) x7_7.length co45) x7_7 from (by exact HO_7.out)))); (try (obtain ⟨ce54, hcl54, hM54, hcc54, hfr54⟩ := Kd.N_elem HX54.out [] (x13_7 : Int) (qq) (by have h_ : (x13_7 : Int) < ((x7_7.length : Int) : Int) := qq; first | exact h_ | (have e_ := (Kd.xP HO_7.out).1; omega) | simpa using h_))); (try (obtain ⟨ua54_0, uc54_0, rfl, ul54_0, ge54_0⟩ := Kd.xX hM54)); (try (have HP54 := Kd.N_seg HX54.out (x13_7 : Int) (qq) (by have h_ : (x13_7 : Int) < ((x7_7.length : Int) : Int) := qq; first | exact h_ | (have e_ := (Kd.xP HO_7.out).1; omega) | simpa using h_) (seg := [.slice A619_0 (rd_L3 x7_7 (ji48)).length c619_0]) (j := 0) hcl54 hcc54 (show 1 ≤ 1 from by decide) (x' := rd_L3 x7_7 (ji48)) (Kd.FK_slice_mk (Kd.xW (Kd.V_mono (ok' := (fun k_ => ((fun k_ => some k_ ≠ (v617 : Value).ownBlock ∧ k_ ≠ gb597)) k_ ∧ k_ ≠ go53)) (HL619_0.out) (fun k_ hk => ⟨⟨hk.1.1, hk.1.2⟩, fun e_ => (hk.2) (by rw [e_]; rfl)⟩))).2.1 (Kd.V_F (Kd.V_mono (ok' := (fun k_ => ((fun k_ => some k_ ≠ (v617 : Value).ownBlock ∧ k_ ≠ gb597)) k_ ∧ k_ ≠ go53)) (HL619_0.out) (fun k_ hk => ⟨⟨hk.1.1, hk.1.2⟩, fun e_ => (hk.2) (by rw [e_]; rfl)⟩)))) (fun _ hk => hk))); (try (have hx54_0 := hcc54 0 _ rfl)); (try (try simp only [show ((Kd.slice 26 (Kd.slice 3 (Kd.int .i64)))).sz = 1 from rfl, Nat.mul_one, Nat.add_zero] at hx54_0)); (try (have hf54_0 := hfr54 0)); (try (try simp only [show ((Kd.slice 26 (Kd.slice 3 (Kd.int .i64)))).sz = 1 from rfl, Nat.mul_one, Nat.add_zero] at hf54_0)); (try ((try clear hM54); clear hcl54 hcc54 hfr54)); (try (try simp only [show ((Kd.slice 26 (Kd.slice 3 (Kd.int .i64)))).sz = 1 from rfl, Nat.mul_one, Nat.add_zero] at HP54)); (try (try simp only [show ((Kd.slice 26 (Kd.slice 3 (Kd.int .i64)))).sz = 1 from rfl, Nat.mul_one, Nat.add_zero] at HP54)))); refine store_event (t := 22) (p := 97) (v := ?vo_w55) (w1 := (wr.setCell ⟨go53, (x13_7 : Int).toNat, none⟩ (.slice A619_0 (rd_L3 x7_7 (ji48)).length c619_0))) ?hg ?ho ?hn ?hr ?_; (case ho => rfl); (case hg => rfl); (case hn => rfl); (case hr => go_simp); intro w55 hw; have hg : wr.grownBy w55 (some go53) := (by rw [hw]; exact HP54.2); have hp_ : Kd.N (Kd.slice 26 (Kd.slice 3 (Kd.int .i64))) 22 w55 w.heap.size (fun k_ => some k_ ≠ (v617 : Value).ownBlock ∧ k_ ≠ gb597) (.slice (some ⟨go53, 0, none⟩) x7_7.length co45) y620 := (by rw [hw, Ny620.out]; exact HP54.1); clear HP54; have n0_ := xA.mk (hp_); have n1_ := xA.mk (Kd.N_afterv (v := (.slice (some ⟨go53, 0, none⟩) x7_7.length co45)) (v1 := (.slice (some ⟨go53, 0, none⟩) x7_7.length co45)) (ok := (fun k_ => k_ ≠ gb597)) (by (with_reducible repeat (first | apply Kd.N_alloc | apply Kd.N_drewN | apply Kd.N_drew)); exact Kd.N_mono HO_12.out (fun _ hk => ⟨hk.2, hk.1⟩)) hg (.inl rfl)); have n2_ := xA.mk (blk_grown (g := gb597) (o := .cells #[.int .i64 t594, .int .i64 t595] 37 (0, 0)) (qn BK597.out) hg (Kd.N_ne HO_7.out BK597.out (by decide))); have n3_ := xA.mk (Kd.V_afterv (v := (.slice (some ⟨go53, 0, none⟩) x7_7.length co45)) (v1 := (.slice (some ⟨go53, 0, none⟩) x7_7.length co45)) (ok := (fun k_ => some k_ ≠ (v617 : Value).ownBlock ∧ k_ ≠ gb597)) (qj HL619_0.out) hg (.inl rfl)); have n4_ := xA.mk ((by rw [hw]; exact xR (HB.out) GB53.out : Below w.heap.size w w55)); clear HO_7; clear HO_12; clear BK597; clear HL619_0; clear HB; have HO_7 := n0_; have HO_12 := n1_; have BK597 := n2_; have HL619_0 := n3_; have HB := n4_; clear n0_ n1_ n2_ n3_ n4_; clear hg hw hp_))
        repeat (go_quiet (first | ((with_reducible refine gate_store (t := 22) (p := 97) rfl ?_); (try (rw [drewN_self wr]; generalize hq_ : World.drewN wr _ = wr; have n0_ := xA.mk (Kd.N_at hq_ HO_7.out); have n1_ := xA.mk (Kd.N_at hq_ HO_12.out); have n2_ := xA.mk (Kd.V_at hq_ HL619_0.out); have n3_ := xA.mk (blk_at hq_ BK597.out); have n4_ := xA.mk (below_at hq_ HB.out); clear hq_ HO_7 HO_12 HL619_0 BK597 HB; have HO_7 := n0_; have HO_12 := n1_; have HL619_0 := n2_; have BK597 := n3_; have HB := n4_; clear n0_ n1_ n2_ n3_ n4_; (try (have HX54 := xA.mk (show Kd.N (Kd.slice 26 (Kd.slice 3 (Kd.int .i64))) 22 wr w.heap.size (fun k_ => some k_ ≠ (v617 : Value).ownBlock ∧ k_ ≠ gb597) (.slice (some ⟨go53, 0, none⟩) x7_7.length co45) x7_7 from (by exact HO_7.out)))); (try (obtain ⟨ce54, hcl54, hM54, hcc54, hfr54⟩ := Kd.N_elem HX54.out [] (x13_7 : Int) (qq) (by have h_ : (x13_7 : Int) < ((x7_7.length : Int) : Int) := qq; first | exact h_ | (have e_ := (Kd.xP HO_7.out).1; omega) | simpa using h_))); (try (obtain ⟨ua54_0, uc54_0, rfl, ul54_0, ge54_0⟩ := Kd.xX hM54)); (try (have HP54 := Kd.N_seg HX54.out (x13_7 : Int) (qq) (by have h_ : (x13_7 : Int) < ((x7_7.length : Int) : Int) := qq; first | exact h_ | (have e_ := (Kd.xP HO_7.out).1; omega) | simpa using h_) (seg := [.slice A619_0 (rd_L3 x7_7 (ji48)).length c619_0]) (j := 0) hcl54 hcc54 (show 1 ≤ 1 from by decide) (x' := rd_L3 x7_7 (ji48)) (Kd.FK_slice_mk (Kd.xW (Kd.V_mono (ok' := (fun k_ => ((fun k_ => some k_ ≠ (v617 : Value).ownBlock ∧ k_ ≠ gb597)) k_ ∧ k_ ≠ go53)) (HL619_0.out) (fun k_ hk => ⟨⟨hk.1.1, hk.1.2⟩, fun e_ => (hk.2) (by rw [e_]; rfl)⟩))).2.1 (Kd.V_F (Kd.V_mono (ok' := (fun k_ => ((fun k_ => some k_ ≠ (v617 : Value).ownBlock ∧ k_ ≠ gb597)) k_ ∧ k_ ≠ go53)) (HL619_0.out) (fun k_ hk => ⟨⟨hk.1.1, hk.1.2⟩, fun e_ => (hk.2) (by rw [e_]; rfl)⟩)))) (fun _ hk => hk))); (try (have hx54_0 := hcc54 0 _ rfl)); (try (try simp only [show ((Kd.slice 26 (Kd.slice 3 (Kd.int .i64)))).sz = 1 from rfl, Nat.mul_one, Nat.add_zero] at hx54_0)); (try (have hf54_0 := hfr54 0)); (try (try simp only [show ((Kd.slice 26 (Kd.slice 3 (Kd.int .i64)))).sz = 1 from rfl, Nat.mul_one, Nat.add_zero] at hf54_0)); (try ((try clear hM54); clear hcl54 hcc54 hfr54)); (try (try simp only [show ((Kd.slice 26 (Kd.slice 3 (Kd.int .i64)))).sz = 1 from rfl, Nat.mul_one, Nat.add_zero] at HP54)); (try (try simp only [show ((Kd.slice 26 (Kd.slice 3 (Kd.int .i64)))).sz = 1 from rfl, Nat.mul_one, Nat.add_zero] at HP54)))); refine store_event (t := 22) (p := 97) (v := ?vo_w55) (w1 := (wr.setCell ⟨go53, (x13_7 : Int).toNat, none⟩ (.slice A619_0 (rd_L3 x7_7 (ji48)).length c619_0))) ?hg ?ho ?hn ?hr ?_; (case ho => rfl); (case hg => rfl); (case hn => rfl); (case hr => go_simp); intro w55 hw; have hg : wr.grownBy w55 (some go53) := (by rw [hw]; exact HP54.2); have hp_ : Kd.N (Kd.slice 26 (Kd.slice 3 (Kd.int .i64))) 22 w55 w.heap.size (fun k_ => some k_ ≠ (v617 : Value).ownBlock ∧ k_ ≠ gb597) (.slice (some ⟨go53, 0, none⟩) x7_7.length co45) y620 := (by rw [hw, Ny620.out]; exact HP54.1); clear HP54; have n0_ := xA.mk (hp_); have n1_ := xA.mk (Kd.N_afterv (v := (.slice (some ⟨go53, 0, none⟩) x7_7.length co45)) (v1 := (.slice (some ⟨go53, 0, none⟩) x7_7.length co45)) (ok := (fun k_ => k_ ≠ gb597)) (by (with_reducible repeat (first | apply Kd.N_alloc | apply Kd.N_drewN | apply Kd.N_drew)); exact Kd.N_mono HO_12.out (fun _ hk => ⟨hk.2, hk.1⟩)) hg (.inl rfl)); have n2_ := xA.mk (blk_grown (g := gb597) (o := .cells #[.int .i64 t594, .int .i64 t595] 37 (0, 0)) (qn BK597.out) hg (Kd.N_ne HO_7.out BK597.out (by decide))); have n3_ := xA.mk (Kd.V_afterv (v := (.slice (some ⟨go53, 0, none⟩) x7_7.length co45)) (v1 := (.slice (some ⟨go53, 0, none⟩) x7_7.length co45)) (ok := (fun k_ => some k_ ≠ (v617 : Value).ownBlock ∧ k_ ≠ gb597)) (qj HL619_0.out) hg (.inl rfl)); have n4_ := xA.mk ((by rw [hw]; exact xR (HB.out) GB53.out : Below w.heap.size w w55)); clear HO_7; clear HO_12; clear BK597; clear HL619_0; clear HB; have HO_7 := n0_; have HO_12 := n1_; have BK597 := n2_; have HL619_0 := n3_; have HB := n4_; clear n0_ n1_ n2_ n3_ n4_; clear hg hw hp_)); try go_wp2_with (first | ((with_reducible refine gate_store (t := 22) (p := 97) rfl ?_); (try (rw [drewN_self wr]; generalize hq_ : World.drewN wr _ = wr; have n0_ := xA.mk (Kd.N_at hq_ HO_7.out); have n1_ := xA.mk (Kd.N_at hq_ HO_12.out); have n2_ := xA.mk (Kd.V_at hq_ HL619_0.out); have n3_ := xA.mk (blk_at hq_ BK597.out); have n4_ := xA.mk (below_at hq_ HB.out); clear hq_ HO_7 HO_12 HL619_0 BK597 HB; have HO_7 := n0_; have HO_12 := n1_; have HL619_0 := n2_; have BK597 := n3_; have HB := n4_; clear n0_ n1_ n2_ n3_ n4_; (try (have HX54 := xA.mk (show Kd.N (Kd.slice 26 (Kd.slice 3 (Kd.int .i64))) 22 wr w.heap.size (fun k_ => some k_ ≠ (v617 : Value).ownBlock ∧ k_ ≠ gb597) (.slice (some ⟨go53, 0, none⟩) x7_7.length co45) x7_7 from (by exact HO_7.out)))); (try (obtain ⟨ce54, hcl54, hM54, hcc54, hfr54⟩ := Kd.N_elem HX54.out [] (x13_7 : Int) (qq) (by have h_ : (x13_7 : Int) < ((x7_7.length : Int) : Int) := qq; first | exact h_ | (have e_ := (Kd.xP HO_7.out).1; omega) | simpa using h_))); (try (obtain ⟨ua54_0, uc54_0, rfl, ul54_0, ge54_0⟩ := Kd.xX hM54)); (try (have HP54 := Kd.N_seg HX54.out (x13_7 : Int) (qq) (by have h_ : (x13_7 : Int) < ((x7_7.length : Int) : Int) := qq; first | exact h_ | (have e_ := (Kd.xP HO_7.out).1; omega) | simpa using h_) (seg := [.slice A619_0 (rd_L3 x7_7 (ji48)).length c619_0]) (j := 0) hcl54 hcc54 (show 1 ≤ 1 from by decide) (x' := rd_L3 x7_7 (ji48)) (Kd.FK_slice_mk (Kd.xW (Kd.V_mono (ok' := (fun k_ => ((fun k_ => some k_ ≠ (v617 : Value).ownBlock ∧ k_ ≠ gb597)) k_ ∧ k_ ≠ go53)) (HL619_0.out) (fun k_ hk => ⟨⟨hk.1.1, hk.1.2⟩, fun e_ => (hk.2) (by rw [e_]; rfl)⟩))).2.1 (Kd.V_F (Kd.V_mono (ok' := (fun k_ => ((fun k_ => some k_ ≠ (v617 : Value).ownBlock ∧ k_ ≠ gb597)) k_ ∧ k_ ≠ go53)) (HL619_0.out) (fun k_ hk => ⟨⟨hk.1.1, hk.1.2⟩, fun e_ => (hk.2) (by rw [e_]; rfl)⟩)))) (fun _ hk => hk))); (try (have hx54_0 := hcc54 0 _ rfl)); (try (try simp only [show ((Kd.slice 26 (Kd.slice 3 (Kd.int .i64)))).sz = 1 from rfl, Nat.mul_one, Nat.add_zero] at hx54_0)); (try (have hf54_0 := hfr54 0)); (try (try simp only [show ((Kd.slice 26 (Kd.slice 3 (Kd.int .i64)))).sz = 1 from rfl, Nat.mul_one, Nat.add_zero] at hf54_0)); (try ((try clear hM54); clear hcl54 hcc54 hfr54)); (try (try simp only [show ((Kd.slice 26 (Kd.slice 3 (Kd.int .i64)))).sz = 1 from rfl, Nat.mul_one, Nat.add_zero] at HP54)); (try (try simp only [show ((Kd.slice 26 (Kd.slice 3 (Kd.int .i64)))).sz = 1 from rfl, Nat.mul_one, Nat.add_zero] at HP54)))); refine store_event (t := 22) (p := 97) (v := ?vo_w55) (w1 := (wr.setCell ⟨go53, (x13_7 : Int).toNat, none⟩ (.slice A619_0 (rd_L3 x7_7 (ji48)).length c619_0))) ?hg ?ho ?hn ?hr ?_; (case ho => rfl); (case hg => rfl); (case hn => rfl); (case hr => go_simp); intro w55 hw; have hg : wr.grownBy w55 (some go53) := (by rw [hw]; exact HP54.2); have hp_ : Kd.N (Kd.slice 26 (Kd.slice 3 (Kd.int .i64))) 22 w55 w.heap.size (fun k_ => some k_ ≠ (v617 : Value).ownBlock ∧ k_ ≠ gb597) (.slice (some ⟨go53, 0, none⟩) x7_7.length co45) y620 := (by rw [hw, Ny620.out]; exact HP54.1); clear HP54; have n0_ := xA.mk (hp_); have n1_ := xA.mk (Kd.N_afterv (v := (.slice (some ⟨go53, 0, none⟩) x7_7.length co45)) (v1 := (.slice (some ⟨go53, 0, none⟩) x7_7.length co45)) (ok := (fun k_ => k_ ≠ gb597)) (by (with_reducible repeat (first | apply Kd.N_alloc | apply Kd.N_drewN | apply Kd.N_drew)); exact Kd.N_mono HO_12.out (fun _ hk => ⟨hk.2, hk.1⟩)) hg (.inl rfl)); have n2_ := xA.mk (blk_grown (g := gb597) (o := .cells #[.int .i64 t594, .int .i64 t595] 37 (0, 0)) (qn BK597.out) hg (Kd.N_ne HO_7.out BK597.out (by decide))); have n3_ := xA.mk (Kd.V_afterv (v := (.slice (some ⟨go53, 0, none⟩) x7_7.length co45)) (v1 := (.slice (some ⟨go53, 0, none⟩) x7_7.length co45)) (ok := (fun k_ => some k_ ≠ (v617 : Value).ownBlock ∧ k_ ≠ gb597)) (qj HL619_0.out) hg (.inl rfl)); have n4_ := xA.mk ((by rw [hw]; exact xR (HB.out) GB53.out : Below w.heap.size w w55)); clear HO_7; clear HO_12; clear BK597; clear HL619_0; clear HB; have HO_7 := n0_; have HO_12 := n1_; have BK597 := n2_; have HL619_0 := n3_; have HB := n4_; clear n0_ n1_ n2_ n3_ n4_; clear hg hw hp_)))
        (try simp only [← hl7_7])
        go_roundg k7
        case measure => have := HJ4.out; have := HK2.out; have := HK3.out; have := HJ26.out; have := HK5.out; have := HJ29.out; have := HK7.out; omega
        case rel => exact ⟨(y620), (ji48), (by first | rfl | (simp; done) | (simp only [← hji48] <;> (first | rfl | simp)) | (simp [*]; done)), H', ⟨by have := HJ4.out; have := HK2.out; have := HK3.out; have := HJ26.out; have := HK5.out; have := HJ29.out; have := HK7.out; omega⟩, ⟨by (try simp only [hl7_7]); exact HO_7.out⟩, ⟨by (try simp only [hl7_7]); (with_reducible repeat (first | apply Kd.N_alloc | apply Kd.N_drewN | apply Kd.N_drew)); exact Kd.N_mono HO_12.out (fun _ hk => ⟨hk.2, hk.1⟩)⟩, ⟨by (try simp only [hl7_7]); (with_reducible repeat (first | refine xK ?_ _ | refine xI ?_ | refine xJ ?_ _)); exact BK597.out⟩, ⟨qo GE597.out⟩⟩
def l5rows.l0 : Nat → List (List Int) → List (List Int) → Int → Option (Bool)
 | 0, _, _, _ => none
 | k + 1, x0, x1, x5 => if x5 < (x0.length : Int) then (if 0 ≤ x5 then (if x5 < (x1.length : Int) then ((l5same.f k (rd_L1 x0 x5) (rd_L1 x1 x5)).bind fun t624 => (if t624 = true then (l5rows.l0 k x0 x1 (wrap64 (x5 + 1))) else (some false))) else (none)) else (none)) else (some true)
def l5rows.f (k : Nat) (l0 : List (List Int)) (l1 : List (List Int)) : Option (Bool) := if (l0.length : Int) = (l1.length : Int) then (l5rows.l0 k l0 l1 0) else (some false)
theorem l5rows.calls (k : Nat) (A0 : Option Addr) (c0 : Nat) (l0 : List (List Int)) (A1 : Option Addr) (c1 : Nat) (l1 : List (List Int)) (r : Bool) (w : World) (hr0 : Kd.C (Kd.slice 3 (Kd.int .i64)) w A0 l0.length l0) (hc0 : l0.length ≤ c0) (hr1 : Kd.C (Kd.slice 3 (Kd.int .i64)) w A1 l1.length l1) (hc1 : l1.length ≤ c1) (h : l5rows.f k l0 l1 = some r) :
  Calls Try.prog 20 #[.slice A0 l0.length c0, .slice A1 l1.length c1] w fun e w' => e = .returned (.bool r) ∧ Drawn0 w w' := by
 have HR0 := xA.mk hr0
 have HC0 := xA.mk hc0
 clear hr0 hc0
 have HR1 := xA.mk hr1
 have HC1 := xA.mk hc1
 clear hr1 hc1
 have H : (if (l0.length : Int) = (l1.length : Int) then (l5rows.l0 k l0 l1 0) else (some false)) = some r := h
 clear h
 by_cases c3 : (l0.length : Int) = (l1.length : Int)
 rotate_left
 ·
  rw [if_neg c3] at H
  have c3b0 : ((l0.length : Int) == (l1.length : Int)) = false := jg c3
  have c3b2 : (l0.length == l1.length) = false := by first | simpa using c3 | (simp at c3 ⊢; omega)
  obtain rfl := qx H
  go_enter Try.func20, Try.ntmps20
  go_wp2
  go_ret
  exact ⟨qf, qe⟩
 rw [if_pos c3] at H
 have c3b0 : ((l0.length : Int) == (l1.length : Int)) = true := beq_iff_eq.mpr c3
 have c3b2 : (l0.length == l1.length) = true := by first | simpa using c3 | (simp at c3 ⊢; omega)
 clear c3
 have H' := xA.mk H
 clear H
 go_enter Try.func20, Try.ntmps20
 go_wp2
 go_loopg [5] k (fun kq v5 w' => ∃ (x5_1 : Int), v5 = .int .i64 x5_1 ∧ xA (l5rows.l0 kq l0 l1 x5_1 = some r) ∧ xA (kq ≤ k) ∧ Drawn0 w w')
 case atStart => exact ⟨(0), rfl, H', ⟨Nat.le_refl _⟩, qe⟩
 case round =>
  clear H'
  obtain ⟨x5_1, rfl, HA, HK1, ⟨m1, rfl⟩⟩ := hrel
  obtain _ | k1 := gk
  · exact absurd HA.out (by simp [l5rows.l0])
  have H := HA.out
  clear HA
  simp only [l5rows.l0] at H
  obtain ⟨c4b0, H⟩ | ⟨c4b0, H⟩ := yA H
  rotate_left
  ·
   obtain rfl := qx H
   go_wp2
   go_ret
   exact ⟨qf, qe⟩
  obtain ⟨c5b0, H⟩ := xF H
  obtain ⟨c6b0, H⟩ := xF H
  replace H := qw H
  obtain ⟨t624, A70, H⟩ := H
  replace H : (if t624 = true then (l5rows.l0 k1 l0 l1 (wrap64 (x5_1 + 1))) else (some false)) = some r := H
  have A7 := xA.mk A70
  clear A70
  by_cases c8 : t624 = true
  rotate_left
  ·
   replace c8 := Bool.eq_false_iff.mpr c8
   subst c8
   have H1 : (some false) = some r := by rw [if_neg (show ¬ (false = true) by decide)] at H; exact H
   clear H
   have H := H1
   clear H1
   obtain rfl := qx H
   have p622 : 0 ≤ (x5_1 : Int) := qq
   have q622 : x5_1 < (l0.length : Int) := qq
   obtain ⟨ad622, A622_0, c622_0, e622, hx622_0, hl622_0, hi622_0⟩ := at_L1 HR0.out x5_1 p622 q622
   cases e622
   have HR622_0 := xA.mk hi622_0
   have HC622_0 := xA.mk hl622_0
   clear hi622_0 hl622_0
   replace p622 := eq_true p622
   replace q622 := eq_true q622
   have p623 : 0 ≤ (x5_1 : Int) := qq
   have q623 : x5_1 < (l1.length : Int) := qq
   obtain ⟨ad623, A623_0, c623_0, e623, hx623_0, hl623_0, hi623_0⟩ := at_L1 HR1.out x5_1 p623 q623
   cases e623
   have HR623_0 := xA.mk hi623_0
   have HC623_0 := xA.mk hl623_0
   clear hi623_0 hl623_0
   replace p623 := eq_true p623
   replace q623 := eq_true q623
   go_wp2_with (first | (go_at_call 17; (with_reducible refine (l5same.calls k1 _ _ (rd_L1 l0 x5_1) _ _ (rd_L1 l1 x5_1) false _ ?side1 ?side2 ?side3 ?side4 A7.out).mono ?_); (case side1 => repeat (first | exact HR622_0.out)); (case side2 => exact HC622_0.out); (case side3 => repeat (first | exact HR623_0.out)); (case side4 => exact HC623_0.out); rintro e w' ⟨rfl, ⟨nd, rfl⟩⟩; (try exact qp)))
   repeat (go_quiet (first | (go_at_call 17; (with_reducible refine (l5same.calls k1 _ _ (rd_L1 l0 x5_1) _ _ (rd_L1 l1 x5_1) false _ ?side1 ?side2 ?side3 ?side4 A7.out).mono ?_); (case side1 => repeat (first | exact HR622_0.out)); (case side2 => exact HC622_0.out); (case side3 => repeat (first | exact HR623_0.out)); (case side4 => exact HC623_0.out); rintro e w' ⟨rfl, ⟨nd, rfl⟩⟩; (try exact qp))); try go_wp2_with (first | (go_at_call 17; (with_reducible refine (l5same.calls k1 _ _ (rd_L1 l0 x5_1) _ _ (rd_L1 l1 x5_1) false _ ?side1 ?side2 ?side3 ?side4 A7.out).mono ?_); (case side1 => repeat (first | exact HR622_0.out)); (case side2 => exact HC622_0.out); (case side3 => repeat (first | exact HR623_0.out)); (case side4 => exact HC623_0.out); rintro e w' ⟨rfl, ⟨nd, rfl⟩⟩; (try exact qp))))
   go_ret
   exact ⟨qf, qe⟩
  subst c8
  have H1 : (l5rows.l0 k1 l0 l1 (wrap64 (x5_1 + 1))) = some r := by rw [if_pos rfl] at H; exact H
  clear H
  have H := H1
  clear H1
  have H' := xA.mk H
  clear H
  have p622 : 0 ≤ (x5_1 : Int) := qq
  have q622 : x5_1 < (l0.length : Int) := qq
  obtain ⟨ad622, A622_0, c622_0, e622, hx622_0, hl622_0, hi622_0⟩ := at_L1 HR0.out x5_1 p622 q622
  cases e622
  have HR622_0 := xA.mk hi622_0
  have HC622_0 := xA.mk hl622_0
  clear hi622_0 hl622_0
  replace p622 := eq_true p622
  replace q622 := eq_true q622
  have p623 : 0 ≤ (x5_1 : Int) := qq
  have q623 : x5_1 < (l1.length : Int) := qq
  obtain ⟨ad623, A623_0, c623_0, e623, hx623_0, hl623_0, hi623_0⟩ := at_L1 HR1.out x5_1 p623 q623
  cases e623
  have HR623_0 := xA.mk hi623_0
  have HC623_0 := xA.mk hl623_0
  clear hi623_0 hl623_0
  replace p623 := eq_true p623
  replace q623 := eq_true q623
  go_wp2_with (first | (go_at_call 17; (with_reducible refine (l5same.calls k1 _ _ (rd_L1 l0 x5_1) _ _ (rd_L1 l1 x5_1) true _ ?side1 ?side2 ?side3 ?side4 A7.out).mono ?_); (case side1 => repeat (first | exact HR622_0.out)); (case side2 => exact HC622_0.out); (case side3 => repeat (first | exact HR623_0.out)); (case side4 => exact HC623_0.out); rintro e w' ⟨rfl, ⟨nd, rfl⟩⟩; (try exact qp)))
  repeat (go_quiet (first | (go_at_call 17; (with_reducible refine (l5same.calls k1 _ _ (rd_L1 l0 x5_1) _ _ (rd_L1 l1 x5_1) true _ ?side1 ?side2 ?side3 ?side4 A7.out).mono ?_); (case side1 => repeat (first | exact HR622_0.out)); (case side2 => exact HC622_0.out); (case side3 => repeat (first | exact HR623_0.out)); (case side4 => exact HC623_0.out); rintro e w' ⟨rfl, ⟨nd, rfl⟩⟩; (try exact qp))); try go_wp2_with (first | (go_at_call 17; (with_reducible refine (l5same.calls k1 _ _ (rd_L1 l0 x5_1) _ _ (rd_L1 l1 x5_1) true _ ?side1 ?side2 ?side3 ?side4 A7.out).mono ?_); (case side1 => repeat (first | exact HR622_0.out)); (case side2 => exact HC622_0.out); (case side3 => repeat (first | exact HR623_0.out)); (case side4 => exact HC623_0.out); rintro e w' ⟨rfl, ⟨nd, rfl⟩⟩; (try exact qp))))
  go_roundg k1
  case measure => have := HK1.out; omega
  case rel => exact ⟨(wrap64 (x5_1 + 1)), rfl, H', ⟨by have := HK1.out; omega⟩, qe⟩
def l5LineRegimes.j0 : Nat → List (List Int) → List (List Int) → Bool → Option (Bool)
 | 0, _, _, _ => none
 | k + 1, x0, x3, x36 => if x36 = true then (some false) else ((line_Regime.f k x3).bind fun bt639 => ((r5Regime.f k x0).bind fun bt642 => (if bt639.2.2 = bt642.2.2 then ((l5rows.f k x3 x0).bind fun t645 => (if (t645 == false) = true then (some false) else (if bt639.1 = bt642.1 then (if bt639.2.1 = bt642.2.1 then ((l5alive.f k).bind fun t646 => (some t646)) else (if bt642.2.2 = 0 then (if bt642.1 = 0 then ((l5alive.f k).bind fun t647 => (some t647)) else (some false)) else (some false))) else (if bt642.2.2 = 0 then (if bt642.1 = 0 then ((l5alive.f k).bind fun t648 => (some t648)) else (some false)) else (some false))))) else (some false))))
def l5LineRegimes.f (k : Nat) (l0 : List (List Int)) : Option (Bool) := (l5few.f k l0).bind fun t625 => (if t625 = true then ((l5copied.f k l0).bind fun t627 => ((line_Eigen.f k t627).bind fun bt630 => ((r5Eigen.f k l0).bind fun bt634 => (if bt630.2 = bt634.2 then ((l5same.f k bt630.1 bt634.1).bind fun t638 => (l5LineRegimes.j0 k l0 t627 (!t638))) else (l5LineRegimes.j0 k l0 t627 true))))) else ((l5alive.f k).bind fun t626 => (some t626)))
theorem l5LineRegimes.calls (k : Nat) (A0 : Option Addr) (c0 : Nat) (l0 : List (List Int)) (r : Bool) (w : World) (hr0 : Kd.C (Kd.slice 3 (Kd.int .i64)) w A0 l0.length l0) (hc0 : l0.length ≤ c0) (h : l5LineRegimes.f k l0 = some r) (hr_ : xA (r = true)) :
  Calls Try.prog 3 #[.slice A0 l0.length c0] w fun e w' => e = .returned (.bool r) ∧ Below w.heap.size w w' := by
 have HR0 := xA.mk hr0
 have HC0 := xA.mk hc0
 clear hr0 hc0
 have HB := xA.mk (Below.refl w.heap.size w)
 have H : ((l5few.f k l0).bind fun t625 => (if t625 = true then ((l5copied.f k l0).bind fun t627 => ((line_Eigen.f k t627).bind fun bt630 => ((r5Eigen.f k l0).bind fun bt634 => (if bt630.2 = bt634.2 then ((l5same.f k bt630.1 bt634.1).bind fun t638 => (l5LineRegimes.j0 k l0 t627 (!t638))) else (l5LineRegimes.j0 k l0 t627 true))))) else ((l5alive.f k).bind fun t626 => (some t626)))) = some r := h
 clear h
 replace H := qw H
 obtain ⟨t625, A20, H⟩ := H
 replace H : (if t625 = true then ((l5copied.f k l0).bind fun t627 => ((line_Eigen.f k t627).bind fun bt630 => ((r5Eigen.f k l0).bind fun bt634 => (if bt630.2 = bt634.2 then ((l5same.f k bt630.1 bt634.1).bind fun t638 => (l5LineRegimes.j0 k l0 t627 (!t638))) else (l5LineRegimes.j0 k l0 t627 true))))) else ((l5alive.f k).bind fun t626 => (some t626))) = some r := H
 have A2 := xA.mk A20
 clear A20
 by_cases c3 : t625 = true
 rotate_left
 ·
  replace c3 := Bool.eq_false_iff.mpr c3
  subst c3
  have H1 : ((l5alive.f k).bind fun t626 => (some t626)) = some r := by rw [if_neg (show ¬ (false = true) by decide)] at H; exact H
  clear H
  have H := H1
  clear H1
  replace H := qw H
  obtain ⟨t626, A520, H⟩ := H
  replace H : (some t626) = some r := H
  have A52 := xA.mk A520
  clear A520
  obtain rfl := qx H
  go_enter Try.func3, Try.ntmps3
  go_wp2_with (first | ((with_reducible refine xG (f := 12) rfl ?_); refine xM (some 13) rfl rfl Try.func12 jk rfl #[.slice A0 l0.length c0] rfl qc ?_; (with_reducible refine (l5few.calls k _ _ l0 false _ ?side1 ?side2 A2.out).mono ?_); (case side1 => exact qm HR0.out); (case side2 => exact HC0.out); rintro e w' ⟨rfl, ⟨nd, rfl⟩⟩; refine ⟨_, rfl, ?_⟩) | ((with_reducible refine xG (f := 13) rfl ?_); refine xM (some 15) rfl rfl Try.func13 jk rfl #[] rfl qc ?_; (with_reducible refine (l5alive.calls k  t626 _ A52.out).mono ?_); rintro e w53 ⟨rfl, hb⟩; refine ⟨_, rfl, ?_⟩; replace HB := xA.mk (xD qa hb); (try clear hb); (try clear hb2); (try clear hk); (try clear hi)))
  go_ret
  exact ⟨qg, qa⟩
 subst c3
 have H1 : ((l5copied.f k l0).bind fun t627 => ((line_Eigen.f k t627).bind fun bt630 => ((r5Eigen.f k l0).bind fun bt634 => (if bt630.2 = bt634.2 then ((l5same.f k bt630.1 bt634.1).bind fun t638 => (l5LineRegimes.j0 k l0 t627 (!t638))) else (l5LineRegimes.j0 k l0 t627 true))))) = some r := by rw [if_pos rfl] at H; exact H
 clear H
 have H := H1
 clear H1
 replace H := qw H
 obtain ⟨t627, A40, H⟩ := H
 replace H : ((line_Eigen.f k t627).bind fun bt630 => ((r5Eigen.f k l0).bind fun bt634 => (if bt630.2 = bt634.2 then ((l5same.f k bt630.1 bt634.1).bind fun t638 => (l5LineRegimes.j0 k l0 t627 (!t638))) else (l5LineRegimes.j0 k l0 t627 true)))) = some r := H
 have A4 := xA.mk A40
 clear A40
 replace H := qw H
 obtain ⟨⟨t630, t631⟩, A50, H⟩ := H
 replace H : ((r5Eigen.f k l0).bind fun bt634 => (if t631 = bt634.2 then ((l5same.f k t630 bt634.1).bind fun t638 => (l5LineRegimes.j0 k l0 t627 (!t638))) else (l5LineRegimes.j0 k l0 t627 true))) = some r := H
 have A5 := xA.mk A50
 clear A50
 replace H := qw H
 obtain ⟨⟨t634, t635⟩, A60, H⟩ := H
 replace H : (if t631 = t635 then ((l5same.f k t630 t634).bind fun t638 => (l5LineRegimes.j0 k l0 t627 (!t638))) else (l5LineRegimes.j0 k l0 t627 true)) = some r := H
 have A6 := xA.mk A60
 clear A60
 have HC7 := xA.mk H
 clear H
 go_enter Try.func3, Try.ntmps3
 go_upto_region 6 with (first | ((with_reducible refine xG (f := 12) rfl ?_); refine xM (some 13) rfl rfl Try.func12 jk rfl #[.slice A0 l0.length c0] rfl qc ?_; (with_reducible refine (l5few.calls k _ _ l0 true _ ?side1 ?side2 A2.out).mono ?_); (case side1 => exact qm HR0.out); (case side2 => exact HC0.out); rintro e w' ⟨rfl, ⟨nd, rfl⟩⟩; refine ⟨_, rfl, ?_⟩) | ((with_reducible refine xG (f := 14) rfl ?_); refine xM (some 17) rfl rfl Try.func14 jk rfl #[.slice A0 l0.length c0] rfl qc ?_; (with_reducible refine (l5copied.calls k _ _ l0 t627 _ ?side1 ?side2 A4.out).mono ?_); (case side1 => exact qm HR0.out); (case side2 => exact HC0.out); rintro e w8 ⟨v628, rfl, ho0, hb⟩; refine ⟨_, rfl, ?_⟩; have HO629 := xA.mk (Kd.S_lower ho0 (xB qa)); replace HB := xA.mk (xD qa hb); (try clear hb); (try clear hb2); (try clear hk); (try clear hi); (try clear ho0); obtain ⟨Ao9, co9, eo9⟩ := Kd.yC HO629.out; subst eo9) | ((with_reducible refine xG (f := 15) rfl ?_); refine xM (some 20) rfl rfl Try.func15 jk rfl #[.slice Ao9 t627.length co9] rfl qc ?_; (with_reducible refine (line_Eigen.calls k _ _ t627 t630 t631 _ ?side1 ?side2 A5.out).mono ?_); (case side1 => exact qm (Kd.xH HO629.out).2.2); (case side2 => exact (Kd.xH HO629.out).2.1); rintro e w10 ⟨v632, rfl, ho0, hb⟩; refine ⟨_, rfl, ?_⟩; replace HO629 := xA.mk (Kd.S_elder' (qh HO629.out) (Kd.R_base ho0) hb); have HO633 := xA.mk (Kd.R_lower ho0 (xB qa)); replace HB := xA.mk (xD qa hb); (try clear hb); (try clear hb2); (try clear hk); (try clear hi); (try clear ho0)) | ((with_reducible refine xG (f := 16) rfl ?_); refine xM (some 25) rfl rfl Try.func16 jk rfl #[.slice A0 l0.length c0] rfl qc ?_; (with_reducible refine (r5Eigen.calls k _ _ l0 t634 t635 _ ?side1 ?side2 A6.out).mono ?_); (case side1 => exact qm (Kd.xQ HR0.out HB.out)); (case side2 => exact HC0.out); rintro e w11 ⟨v636, rfl, ho0, hb⟩; refine ⟨_, rfl, ?_⟩; replace HO629 := xA.mk (Kd.S_elder' (qh HO629.out) (Kd.R_base ho0) hb); have HO637 := xA.mk (Kd.R_lower (Kd.R_new' ho0 (Kd.R_lt (qi HO633.out))) (xB qa)); replace HO633 := xA.mk (Kd.R_elder' (qi HO633.out) (Kd.R_base ho0) hb); replace HB := xA.mk (xD qa hb); (try clear hb); (try clear hb2); (try clear hk); (try clear hi); (try clear ho0)))
 (try simp only [Act.put, qy, qz, ja])
 go_cut [36] (fun v36 wc => ∃ (kq : Nat) (x36_6 : Bool), v36 = .bool x36_6 ∧ xA (l5LineRegimes.j0 kq l0 t627 x36_6 = some r) ∧ xA (kq ≤ k) ∧ xA (Kd.S (Kd.slice 3 (Kd.int .i64)) 26 wc w.heap.size (fun _ => True) (.slice Ao9 t627.length co9) t627) ∧ xA (Below w.heap.size w wc))
 case first =>
  have H := HC7.out
  clear HC7
  by_cases c12 : t631 = t635
  rotate_left
  ·
   rw [if_neg c12] at H
   have c12b0 : (t631 == t635) = false := jg c12
   (first | rw [c12b0] | skip)
   have H' := xA.mk H
   clear H
   go_wp2
   go_meet
   case rel => exact ⟨_, (true), rfl, H', ⟨by first | omega | exact Nat.le_refl _⟩, ⟨by exact Kd.xT HO629.out (fun _ hk => trivial)⟩, ⟨HB.out⟩⟩
  rw [if_pos c12] at H
  have c12b0 : (t631 == t635) = true := beq_iff_eq.mpr c12
  have c12b1 : (t631 != t635) = false := bne_eq_false_iff_eq.mpr c12
  clear c12
  (first | rw [c12b0] | (simp only [i64_w, i32_w]; rw [c12b0]) | skip)
  replace H := qw H
  obtain ⟨t638, A130, H⟩ := H
  replace H : (l5LineRegimes.j0 k l0 t627 (!t638)) = some r := H
  have A13 := xA.mk A130
  clear A130
  have H' := xA.mk H
  clear H
  obtain ⟨Ao14, co14, eo14⟩ := Kd.R_slice HO633.out
  subst eo14
  obtain ⟨Ao15, co15, eo15⟩ := Kd.R_slice HO637.out
  subst eo15
  go_wp2_with (first | (go_at_call 17; (with_reducible refine (l5same.calls k _ _ t630 _ _ t634 t638 _ ?side1 ?side2 ?side3 ?side4 A13.out).mono ?_); (case side1 => repeat (first | exact (Kd.R_reads' HO633.out).2.2)); (case side2 => exact (Kd.R_reads' HO633.out).2.1); (case side3 => repeat (first | exact (Kd.R_reads' HO637.out).2.2)); (case side4 => exact (Kd.R_reads' HO637.out).2.1); rintro e w' ⟨rfl, ⟨nd, rfl⟩⟩))
  go_meet
  case rel => exact ⟨_, (!t638), rfl, H', ⟨by first | omega | exact Nat.le_refl _⟩, ⟨by exact Kd.xT HO629.out (fun _ hk => trivial)⟩, ⟨qb⟩⟩
 case rest =>
  clear HC7
  obtain ⟨kq, x36_6, rfl, HA, HJ6, HO_3, HB⟩ := hcut
  obtain _ | kj6 := kq
  · exact absurd HA.out (by simp [l5LineRegimes.j0])
  have H := HA.out
  clear HA
  simp only [l5LineRegimes.j0] at H
  by_cases c16 : x36_6 = true
  ·
   subst c16
   have H1 : (some false) = some r := by rw [if_pos rfl] at H; exact H
   clear H
   have H := H1
   clear H1
   exact absurd (H.trans (congrArg some hr_.out)) (by simp)
  replace c16 := Bool.eq_false_iff.mpr c16
  subst c16
  have H1 : ((line_Regime.f kj6 t627).bind fun bt639 => ((r5Regime.f kj6 l0).bind fun bt642 => (if bt639.2.2 = bt642.2.2 then ((l5rows.f kj6 t627 l0).bind fun t645 => (if (t645 == false) = true then (some false) else (if bt639.1 = bt642.1 then (if bt639.2.1 = bt642.2.1 then ((l5alive.f kj6).bind fun t646 => (some t646)) else (if bt642.2.2 = 0 then (if bt642.1 = 0 then ((l5alive.f kj6).bind fun t647 => (some t647)) else (some false)) else (some false))) else (if bt642.2.2 = 0 then (if bt642.1 = 0 then ((l5alive.f kj6).bind fun t648 => (some t648)) else (some false)) else (some false))))) else (some false)))) = some r := by rw [if_neg (show ¬ (false = true) by decide)] at H; exact H
  clear H
  have H := H1
  clear H1
  replace H := qw H
  obtain ⟨⟨t639, t640, t641⟩, A170, H⟩ := H
  replace H : ((r5Regime.f kj6 l0).bind fun bt642 => (if t641 = bt642.2.2 then ((l5rows.f kj6 t627 l0).bind fun t645 => (if (t645 == false) = true then (some false) else (if t639 = bt642.1 then (if t640 = bt642.2.1 then ((l5alive.f kj6).bind fun t646 => (some t646)) else (if bt642.2.2 = 0 then (if bt642.1 = 0 then ((l5alive.f kj6).bind fun t647 => (some t647)) else (some false)) else (some false))) else (if bt642.2.2 = 0 then (if bt642.1 = 0 then ((l5alive.f kj6).bind fun t648 => (some t648)) else (some false)) else (some false))))) else (some false))) = some r := H
  have A17 := xA.mk A170
  clear A170
  replace H := qw H
  obtain ⟨⟨t642, t643, t644⟩, A180, H⟩ := H
  replace H : (if t641 = t644 then ((l5rows.f kj6 t627 l0).bind fun t645 => (if (t645 == false) = true then (some false) else (if t639 = t642 then (if t640 = t643 then ((l5alive.f kj6).bind fun t646 => (some t646)) else (if t644 = 0 then (if t642 = 0 then ((l5alive.f kj6).bind fun t647 => (some t647)) else (some false)) else (some false))) else (if t644 = 0 then (if t642 = 0 then ((l5alive.f kj6).bind fun t648 => (some t648)) else (some false)) else (some false))))) else (some false)) = some r := H
  have A18 := xA.mk A180
  clear A180
  obtain ⟨⟨c19b0, c19b1⟩, H⟩ | ⟨c19, ⟨c19b0, c19b1⟩, H⟩ := itn_or H
  rotate_left
  ·
   exact absurd (H.trans (congrArg some hr_.out)) (by simp)
  replace H := qw H
  obtain ⟨t645, A200, H⟩ := H
  replace H : (if (t645 == false) = true then (some false) else (if t639 = t642 then (if t640 = t643 then ((l5alive.f kj6).bind fun t646 => (some t646)) else (if t644 = 0 then (if t642 = 0 then ((l5alive.f kj6).bind fun t647 => (some t647)) else (some false)) else (some false))) else (if t644 = 0 then (if t642 = 0 then ((l5alive.f kj6).bind fun t648 => (some t648)) else (some false)) else (some false)))) = some r := H
  have A20 := xA.mk A200
  clear A200
  by_cases c21 : (t645 == false) = true
  ·
   rw [if_pos c21] at H
   have c21b0 : (t645 == false) = true := c21
   (try (have c21b1 : decide (t645 = false) = true := by simpa using c21))
   (try (have c21b2 : (t645 == false) = true := by simpa using c21))
   clear c21
   exact absurd (H.trans (congrArg some hr_.out)) (by simp)
  rw [if_neg c21] at H
  have c21b0 : (t645 == false) = false := by simpa using c21
  (try (have c21b1 : decide (t645 = false) = false := by simpa using c21))
  (try (have c21b2 : (t645 == false) = false := by simpa using c21))
  (try (have c21b3 : ¬ (t645 = false) := by simpa using c21))
  clear c21
  obtain ⟨⟨c24b0, c24b1⟩, H⟩ | ⟨c24, ⟨c24b0, c24b1⟩, H⟩ := itn_or H
  rotate_left
  ·
   obtain ⟨⟨c40b0, c40b1⟩, H⟩ | ⟨c40, ⟨c40b0, c40b1⟩, H⟩ := itn_or H
   rotate_left
   ·
    exact absurd (H.trans (congrArg some hr_.out)) (by simp)
   obtain ⟨⟨c41b0, c41b1⟩, H⟩ | ⟨c41, ⟨c41b0, c41b1⟩, H⟩ := itn_or H
   rotate_left
   ·
    exact absurd (H.trans (congrArg some hr_.out)) (by simp)
   replace H := qw H
   obtain ⟨t648, A420, H⟩ := H
   replace H : (some t648) = some r := H
   have A42 := xA.mk A420
   clear A420
   obtain rfl := qx H
   go_wp2_with (first | ((with_reducible refine xG (f := 18) rfl ?_); refine xM (some 39) rfl rfl Try.func18 jk rfl #[.slice Ao9 t627.length co9] rfl qc ?_; (with_reducible refine (line_Regime.calls kj6 _ _ t627 t639 t640 t641 _ ?side1 ?side2 A17.out).mono ?_); (case side1 => exact qm (Kd.xH HO_3.out).2.2); (case side2 => exact (Kd.xH HO_3.out).2.1); rintro e w43 ⟨rfl, hb⟩; refine ⟨_, rfl, ?_⟩; replace HO_3 := xA.mk (Kd.S_below (qh HO_3.out) hb); replace HB := xA.mk (xD qa hb); (try clear hb); (try clear hb2); (try clear hk); (try clear hi)) | ((with_reducible refine xG (f := 19) rfl ?_); refine xM (some 45) rfl rfl Try.func19 jk rfl #[.slice A0 l0.length c0] rfl qc ?_; (with_reducible refine (r5Regime.calls kj6 _ _ l0 t642 t643 t644 _ ?side1 ?side2 A18.out).mono ?_); (case side1 => exact qm (Kd.xQ HR0.out HB.out)); (case side2 => exact HC0.out); rintro e w44 ⟨rfl, hb⟩; refine ⟨_, rfl, ?_⟩; replace HO_3 := xA.mk (Kd.S_below (qh HO_3.out) hb); replace HB := xA.mk (xD qa hb); (try clear hb); (try clear hb2); (try clear hk); (try clear hi)) | (go_at_call 20; (with_reducible refine (l5rows.calls kj6 _ _ t627 _ _ l0 t645 _ ?side1 ?side2 ?side3 ?side4 A20.out).mono ?_); (case side1 => exact qm (Kd.xH HO_3.out).2.2); (case side2 => exact (Kd.xH HO_3.out).2.1); (case side3 => exact qm (Kd.xQ HR0.out HB.out)); (case side4 => exact HC0.out); rintro e w' ⟨rfl, ⟨nd, rfl⟩⟩) | (go_at_call 13; (with_reducible refine (l5alive.calls kj6  t648 _ A42.out).mono ?_); rintro e w45 ⟨rfl, hb⟩; replace HO_3 := xA.mk (Kd.S_below (qh HO_3.out) hb); replace HB := xA.mk (xD qa hb); (try clear hb); (try clear hb2); (try clear hk); (try clear hi)))
   go_ret
   exact ⟨qg, qa⟩
  obtain ⟨⟨c25b0, c25b1⟩, H⟩ | ⟨c25, ⟨c25b0, c25b1⟩, H⟩ := itn_or H
  ·
   replace H := qw H
   obtain ⟨t646, A260, H⟩ := H
   replace H : (some t646) = some r := H
   have A26 := xA.mk A260
   clear A260
   obtain rfl := qx H
   go_wp2_with (first | ((with_reducible refine xG (f := 18) rfl ?_); refine xM (some 39) rfl rfl Try.func18 jk rfl #[.slice Ao9 t627.length co9] rfl qc ?_; (with_reducible refine (line_Regime.calls kj6 _ _ t627 t639 t640 t641 _ ?side1 ?side2 A17.out).mono ?_); (case side1 => exact qm (Kd.xH HO_3.out).2.2); (case side2 => exact (Kd.xH HO_3.out).2.1); rintro e w27 ⟨rfl, hb⟩; refine ⟨_, rfl, ?_⟩; replace HO_3 := xA.mk (Kd.S_below (qh HO_3.out) hb); replace HB := xA.mk (xD qa hb); (try clear hb); (try clear hb2); (try clear hk); (try clear hi)) | ((with_reducible refine xG (f := 19) rfl ?_); refine xM (some 45) rfl rfl Try.func19 jk rfl #[.slice A0 l0.length c0] rfl qc ?_; (with_reducible refine (r5Regime.calls kj6 _ _ l0 t642 t643 t644 _ ?side1 ?side2 A18.out).mono ?_); (case side1 => exact qm (Kd.xQ HR0.out HB.out)); (case side2 => exact HC0.out); rintro e w28 ⟨rfl, hb⟩; refine ⟨_, rfl, ?_⟩; replace HO_3 := xA.mk (Kd.S_below (qh HO_3.out) hb); replace HB := xA.mk (xD qa hb); (try clear hb); (try clear hb2); (try clear hk); (try clear hi)) | (go_at_call 20; (with_reducible refine (l5rows.calls kj6 _ _ t627 _ _ l0 t645 _ ?side1 ?side2 ?side3 ?side4 A20.out).mono ?_); (case side1 => exact qm (Kd.xH HO_3.out).2.2); (case side2 => exact (Kd.xH HO_3.out).2.1); (case side3 => exact qm (Kd.xQ HR0.out HB.out)); (case side4 => exact HC0.out); rintro e w' ⟨rfl, ⟨nd, rfl⟩⟩) | (go_at_call 13; (with_reducible refine (l5alive.calls kj6  t646 _ A26.out).mono ?_); rintro e w29 ⟨rfl, hb⟩; replace HO_3 := xA.mk (Kd.S_below (qh HO_3.out) hb); replace HB := xA.mk (xD qa hb); (try clear hb); (try clear hb2); (try clear hk); (try clear hi)))
   go_ret
   exact ⟨qg, qa⟩
  obtain ⟨⟨c30b0, c30b1⟩, H⟩ | ⟨c30, ⟨c30b0, c30b1⟩, H⟩ := itn_or H
  rotate_left
  ·
   exact absurd (H.trans (congrArg some hr_.out)) (by simp)
  obtain ⟨⟨c31b0, c31b1⟩, H⟩ | ⟨c31, ⟨c31b0, c31b1⟩, H⟩ := itn_or H
  rotate_left
  ·
   exact absurd (H.trans (congrArg some hr_.out)) (by simp)
  replace H := qw H
  obtain ⟨t647, A320, H⟩ := H
  replace H : (some t647) = some r := H
  have A32 := xA.mk A320
  clear A320
  obtain rfl := qx H
  go_wp2_with (first | ((with_reducible refine xG (f := 18) rfl ?_); refine xM (some 39) rfl rfl Try.func18 jk rfl #[.slice Ao9 t627.length co9] rfl qc ?_; (with_reducible refine (line_Regime.calls kj6 _ _ t627 t639 t640 t641 _ ?side1 ?side2 A17.out).mono ?_); (case side1 => exact qm (Kd.xH HO_3.out).2.2); (case side2 => exact (Kd.xH HO_3.out).2.1); rintro e w33 ⟨rfl, hb⟩; refine ⟨_, rfl, ?_⟩; replace HO_3 := xA.mk (Kd.S_below (qh HO_3.out) hb); replace HB := xA.mk (xD qa hb); (try clear hb); (try clear hb2); (try clear hk); (try clear hi)) | ((with_reducible refine xG (f := 19) rfl ?_); refine xM (some 45) rfl rfl Try.func19 jk rfl #[.slice A0 l0.length c0] rfl qc ?_; (with_reducible refine (r5Regime.calls kj6 _ _ l0 t642 t643 t644 _ ?side1 ?side2 A18.out).mono ?_); (case side1 => exact qm (Kd.xQ HR0.out HB.out)); (case side2 => exact HC0.out); rintro e w34 ⟨rfl, hb⟩; refine ⟨_, rfl, ?_⟩; replace HO_3 := xA.mk (Kd.S_below (qh HO_3.out) hb); replace HB := xA.mk (xD qa hb); (try clear hb); (try clear hb2); (try clear hk); (try clear hi)) | (go_at_call 20; (with_reducible refine (l5rows.calls kj6 _ _ t627 _ _ l0 t645 _ ?side1 ?side2 ?side3 ?side4 A20.out).mono ?_); (case side1 => exact qm (Kd.xH HO_3.out).2.2); (case side2 => exact (Kd.xH HO_3.out).2.1); (case side3 => exact qm (Kd.xQ HR0.out HB.out)); (case side4 => exact HC0.out); rintro e w' ⟨rfl, ⟨nd, rfl⟩⟩) | (go_at_call 13; (with_reducible refine (l5alive.calls kj6  t647 _ A32.out).mono ?_); rintro e w35 ⟨rfl, hb⟩; replace HO_3 := xA.mk (Kd.S_below (qh HO_3.out) hb); replace HB := xA.mk (xD qa hb); (try clear hb); (try clear hb2); (try clear hk); (try clear hi)))
  go_ret
  exact ⟨qg, qa⟩
def line_Multiply.f (k : Nat) (l0 : List (List Int)) (l1 : List (List Int)) : Option ((List (List Int)) × Int) := (line_of.f k l0).bind fun bt987 => ((line_of.f k l1).bind fun bt991 => (if bt987.2 = true then (if bt991.2 = true then (if (l0.length : Int) = (l1.length : Int) then ((lgtimes.f k bt987.1 bt991.1).bind fun t995 => (some (t995, 0))) else (some (([] : List (List Int)), 2))) else (some (([] : List (List Int)), 2))) else (some (([] : List (List Int)), 2))))
def line_steps.f (a0 : Int) : Option (Bool) := if a0 ≥ 0 then (some (decide (a0 ≤ 1048576))) else (some false)
def line_Power.f (k : Nat) (l0 : List (List Int)) (a1 : Int) : Option ((List (List Int)) × Int) := (line_of.f k l0).bind fun bt707 => (if bt707.2 = true then ((line_steps.f a1).bind fun t711 => (if t711 = true then ((lgpower.f k bt707.1 a1).bind fun t712 => (some (t712, 0))) else (some (([] : List (List Int)), 2)))) else (some (([] : List (List Int)), 2)))
mutual
def lgon.l0 : Nat → List (List Int) → List Int → List Int → Int → Int → Option (List Int)
 | 0, _, _, _, _, _ => none
 | k + 1, x0, x1, x5, x13, x14 => if x14 < x13 then ((line_never_int.f).bind fun t758 => (lgon.l1 k x0 x1 x5 x14 t758 x13 x14 (x0.length : Int) 0)) else (some x5)
def lgon.l1 : Nat → List (List Int) → List Int → List Int → Int → Int → Int → Int → Int → Int → Option (List Int)
 | 0, _, _, _, _, _, _, _, _, _ => none
 | k + 1, x0, x1, x5, x6, x7, x13, x14, x19, x20 => if x20 < x19 then (if 0 ≤ x6 then (if x6 < (x0.length : Int) then (if 0 ≤ x20 then (if x20 < ((rd_L1 x0 x6).length : Int) then (if x20 < (x1.length : Int) then ((line_both_int.f (rd (rd_L1 x0 x6) x20) (rd x1 x20)).bind fun t762 => (lgon.l1 k x0 x1 x5 x6 (mx x7 t762) x13 x14 x19 (wrap64 (x20 + 1)))) else (none)) else (none)) else (none)) else (none)) else (none)) else (if 0 ≤ x6 then (if x6 < (x5.length : Int) then (lgon.l0 k x0 x1 (x5.set (x6 : Int).toNat x7) x13 (wrap64 (x14 + 1))) else (none)) else (none))
end
def lgon.f (k : Nat) (l0 : List (List Int)) (l1 : List Int) : Option (List Int) := if 0 ≤ (l0.length : Int) then (if ((l0.length : Int) : Int).toNat ≤ 35184372088832 then (lgon.l0 k l0 l1 (List.replicate ((l0.length : Int) : Int).toNat 0) (l0.length : Int) 0) else (none)) else (none)
def line_Run_1.f (a0 : Int) : Option (Bool) := if a0 = (-1152921504606846976) then (some false) else (if a0 < (-1125899906842624) then (some true) else (some (decide (a0 > 562949953421312))))
def sifRun_1.l0 : Nat → List Int → Int → Int → Option (Int)
 | 0, _, _, _ => none
 | k + 1, x0, x7, x8 => if x8 < x7 then (if 0 ≤ x8 then (if x8 < (x0.length : Int) then ((line_Run_1.f (rd x0 x8)).bind fun t765 => (if t765 = true then (some x8) else (sifRun_1.l0 k x0 x7 (wrap64 (x8 + 1))))) else (none)) else (none)) else (some (-1))
def sifRun_1.f (k : Nat) (l0 : List Int) (a1 : Int) : Option (Int) := sifRun_1.l0 k l0 (l0.length : Int) 0
def scfRun_1.f (k : Nat) (l0 : List Int) (a1 : Int) : Option (Bool) := (sifRun_1.f k l0 a1).bind fun t766 => (some (decide (t766 ≥ 0)))
def line_Run_2.f (a0 : Int) : Option (Bool) := if a0 = (-1152921504606846976) then (some false) else (if a0 < (-1125899906842624) then (some true) else (some (decide (a0 > 1125899906842624))))
def sifRun_2.l0 : Nat → List Int → Int → Int → Option (Int)
 | 0, _, _, _ => none
 | k + 1, x0, x7, x8 => if x8 < x7 then (if 0 ≤ x8 then (if x8 < (x0.length : Int) then ((line_Run_2.f (rd x0 x8)).bind fun t768 => (if t768 = true then (some x8) else (sifRun_2.l0 k x0 x7 (wrap64 (x8 + 1))))) else (none)) else (none)) else (some (-1))
def sifRun_2.f (k : Nat) (l0 : List Int) (a1 : Int) : Option (Int) := sifRun_2.l0 k l0 (l0.length : Int) 0
def scfRun_2.f (k : Nat) (l0 : List Int) (a1 : Int) : Option (Bool) := (sifRun_2.f k l0 a1).bind fun t769 => (some (decide (t769 ≥ 0)))
def line_Run.j0 : Nat → List Int → Int → List (List Int) → Bool → Option (List Int × Int)
 | 0, _, _, _, _ => none
 | k + 1, x1, x2, x8, x33 => if x33 = true then (some (([] : List Int), 2)) else ((lgpower.f k x8 x2).bind fun t776 => ((lgon.f k t776 x1).bind fun t779 => ((scfRun_2.f k t779 0).bind fun t782 => (if t782 = true then (some (([] : List Int), 4)) else (some (t779, 0))))))
def line_Run.f (k : Nat) (l0 : List (List Int)) (l1 : List Int) (a2 : Int) : Option (List Int × Int) := (line_of.f k l0).bind fun bt770 => (if bt770.2 = true then ((line_steps.f a2).bind fun t774 => (if t774 = true then (if (l1.length : Int) = (l0.length : Int) then ((scfRun_1.f k l1 0).bind fun t775 => (line_Run.j0 k l1 a2 bt770.1 t775)) else (line_Run.j0 k l1 a2 bt770.1 true)) else (line_Run.j0 k l1 a2 bt770.1 true))) else (line_Run.j0 k l1 a2 bt770.1 true))
end Go.Proofs.Ythjmfbmffchicaa.V
