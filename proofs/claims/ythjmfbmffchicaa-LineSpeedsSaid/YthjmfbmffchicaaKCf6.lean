/- Walks of functions that the law LineSpeeds reaches: each theorem '.calls' says that the call comes to what its printed plain function says, under the conditions that stand in it. -/
import Derived.Test.YthjmfbmffchicaaKCHub
import Derived.Test.YthjmfbmffchicaaKCf0
import Derived.Test.YthjmfbmffchicaaKCf2
import Derived.Test.YthjmfbmffchicaaKCf4
import Derived.Test.YthjmfbmffchicaaKCf5
namespace Go.Proofs.Ythjmfbmffchicaa.V
open Go.RowKit Go.Proofs.YthjmfbmffchicaaW.PrintWords Go.Proofs.YthjmfbmffchicaaW.PrintLast Go.Proofs.YthjmfbmffchicaaW.PrintMore
attribute [local go_sem] max2_int min2_int max_two min_two max_three min_three max_four min_four
set_option maxHeartbeats 8000000
set_option maxRecDepth 100000
set_option linter.unusedVariables false
set_option linter.unusedSimpArgs false
mutual
def line_Cycle.l0 : Nat → Int → List (List Int) → Int → Int → List (List Int) → List (List Int) → Option (List Int × Int)
 | 0, _, _, _, _, _, _ => none
 | k + 1, x6, x924000, x924001, x924002, x924003, x924004 => line_Cycle.l1 k x6 (x924003.length : Int) 0 x924000 x924001 x924002 x924003 x924004
def line_Cycle.l1 : Nat → Int → Int → Int → List (List Int) → Int → Int → List (List Int) → List (List Int) → Option (List Int × Int)
 | 0, _, _, _, _, _, _, _, _ => none
 | k + 1, x6, x21, x22, x924000, x924001, x924002, x924003, x924004 => if x22 < x21 then ((llcycle.f k x924000 x924001 x924002 x924003 x924004 (([x22] : List Int)) x6).bind fun t927 => (if (t927.length : Int) = 0 then (line_Cycle.l1 k x6 x21 (wrap64 (x22 + 1)) x924000 x924001 x924002 x924003 x924004) else (some (t927, 0)))) else (line_Cycle.l0 k (wrap64 (x6 + 1)) x924000 x924001 x924002 x924003 x924004)
end
def line_Cycle.f (k : Nat) (l0 : List (List Int)) : Option (List Int × Int) := (line_looked.f k l0).bind fun bt911 => (if bt911.2.2.2.2.2 = 0 then (line_Cycle.l0 k 1 bt911.1 bt911.2.1 bt911.2.2.1 bt911.2.2.2.1 bt911.2.2.2.2.1) else (some (([] : List Int), bt911.2.2.2.2.2)))
theorem line_Cycle.calls (k : Nat) (A0 : Option Addr) (c0 : Nat) (l0 : List (List Int)) (r1 : List Int) (r2 : Int) (w : World) (hr0 : Kd.C (Kd.slice 3 (Kd.int .i64)) w A0 l0.length l0) (hc0 : l0.length ≤ c0) (h : line_Cycle.f k l0 = some (r1, r2)) :
  Calls Try.prog 33 #[.slice A0 l0.length c0] w fun e w' => ∃ v0_ : Value, e = .returned (.tuple #[v0_, .int .i64 r2]) ∧ Kd.R (Kd.int .i64) 3 w' w.heap.size (fun _ => True) v0_ r1 ∧ Below w.heap.size w w' := by
 have hu58 := Try.underlying58
 have HR0 := xA.mk hr0
 have HC0 := xA.mk hc0
 clear hr0 hc0
 have HB := xA.mk (Below.refl w.heap.size w)
 have H : ((line_looked.f k l0).bind fun bt911 => (if bt911.2.2.2.2.2 = 0 then (line_Cycle.l0 k 1 bt911.1 bt911.2.1 bt911.2.2.1 bt911.2.2.2.1 bt911.2.2.2.2.1) else (some (([] : List Int), bt911.2.2.2.2.2)))) = some (r1, r2) := h
 clear h
 replace H := qw H
 obtain ⟨⟨t911, t914, t915, t916, t919, t922⟩, A20, H⟩ := H
 replace H : (if t922 = 0 then (line_Cycle.l0 k 1 t911 t914 t915 t916 t919) else (some (([] : List Int), t922))) = some (r1, r2) := H
 have A2 := xA.mk A20
 clear A20
 by_cases c3 : t922 = 0
 ·
  rw [if_pos c3] at H
  have c3b0 : (t922 == 0) = true := beq_iff_eq.mpr c3
  have c3b1 : (t922 != 0) = false := bne_eq_false_iff_eq.mpr c3
  clear c3
  have H' := xA.mk H
  clear H
  go_enter Try.func33, Try.ntmps33
  go_wp2_with (first | ((with_reducible refine xF (f := 45) rfl ?_); refine xM (some 11) rfl rfl Try.func45 jk rfl #[.slice A0 l0.length c0] rfl qc ?_; (with_reducible refine (line_looked.calls k (fun k_ => k_ < w.heap.size) _ _ l0 t911 t914 t915 t916 t919 t922 _ ?side1 A2.out).mono ?_); (case side1 => exact Kd.V_mk HC0.out (Kd.F_below (Kd.C_F (Kd.heap_slice 3 (Kd.heap_int .i64)) HR0.out) qa)); rintro e w4 ⟨v912, v917, v920, rfl, ho0, ho1, ho2, hb⟩; refine ⟨_, rfl, ?_⟩; have HO913 := xA.mk (Kd.V_lower (Kd.V_mono (ok' := fun k_ => some k_ ≠ (v917 : Value).ownBlock ∧ some k_ ≠ (v920 : Value).ownBlock) ho0 (fun k_ hk_ => ⟨hk_.2.1, hk_.2.2⟩)) (xC qa)); have HO918 := xA.mk (Kd.S_lower (Kd.xU (ok' := fun k_ => some k_ ≠ (v920 : Value).ownBlock) ho1 (fun _ hk_ => hk_.2)) (xC qa)); have HO921 := xA.mk (Kd.S_lower (Kd.xU (ok' := fun k_ => some k_ ≠ (v917 : Value).ownBlock) ho2 (fun _ hk_ => hk_.2)) (xC qa)); replace HB := xA.mk (xE qa hb); (try clear hb); (try clear hb2); (try clear hk); (try clear hi); (try clear ho0); (try clear ho1); (try clear ho2)) | ((with_reducible refine xW (N := 4) rfl ?_); refine xY ?hg (N := 4) ?hd (cs := #[.slice none 0 0, .int .i64 0, .int .i64 0, .slice none 0 0, .slice none 0 0]) (t := 58) ?hr ?_; (case hd => rfl); (case hg => rfl); (case hr => first | (go_simp; done) | (go_simp; rfl)); intro gb923 hg w5 hbox hb; have n0_ := xA.mk (Kd.V_below (Kd.V_elderB (qj HO913.out) gb923 (Nat.le_of_eq hg.symm)) hb); have n1_ := xA.mk (Kd.xZ (qh HO918.out) hb); have n2_ := xA.mk (Kd.xZ (qh HO921.out) hb); have n3_ := xA.mk (xE qa hb); have n4_ := xA.mk (hbox); have n5_ := xA.mk ((by rw [hg]; exact (xC qa) : w.heap.size ≤ gb923)); have n6_ := xA.mk ((by rw [hg]; exact (xC qa) : w.heap.size ≤ gb923)); clear HO913; clear HO918; clear HO921; clear HB; have HO913 := n0_; have HO918 := n1_; have HO921 := n2_; have HB := n3_; have BK923 := n4_; have GW923 := n5_; have GE923 := n6_; clear n0_ n1_ n2_ n3_ n4_ n5_ n6_; clear hb hbox hg; obtain ⟨Ao6, co6, eo6⟩ := Kd.V_slice HO913.out; subst eo6; have hcz7_0 : w5.cell? ⟨gb923, 0, none⟩ = some (.slice none 0 0) := (xB BK923.out 0).trans rfl; have hcz7_1 : w5.cell? ⟨gb923, 1, none⟩ = some (.int .i64 0) := (xB BK923.out 1).trans rfl; have hcz7_2 : w5.cell? ⟨gb923, 2, none⟩ = some (.int .i64 0) := (xB BK923.out 2).trans rfl; have hcz7_3 : w5.cell? ⟨gb923, 3, none⟩ = some (.slice none 0 0) := (xB BK923.out 3).trans rfl; have hcz7_4 : w5.cell? ⟨gb923, 4, none⟩ = some (.slice none 0 0) := (xB BK923.out 4).trans rfl; have hfz7_0 := xD BK923.out 0; have hfz7_1 := xD BK923.out 1; have hfz7_2 := xD BK923.out 2; have hfz7_3 := xD BK923.out 3; have hfz7_4 := xD BK923.out 4; obtain ⟨Ao8, co8, eo8⟩ := Kd.S_slice HO918.out; subst eo8; obtain ⟨Ao9, co9, eo9⟩ := Kd.S_slice HO921.out; subst eo9))
  go_loopg [6] k (fun kq v6 w' => ∃ (x6_1 : Int), v6 = .int .i64 x6_1 ∧ xA (line_Cycle.l0 kq x6_1 t911 t914 t915 t916 t919 = some (r1, r2)) ∧ xA (kq ≤ k) ∧ xA (Kd.V (Kd.slice 3 (Kd.int .i64)) 26 w' w.heap.size (fun k_ => some k_ ≠ ((.slice Ao8 t916.length co8) : Value).ownBlock ∧ some k_ ≠ ((.slice Ao9 t919.length co9) : Value).ownBlock ∧ k_ ≠ gb923) (.slice Ao6 t911.length co6) t911) ∧ xA (Kd.S (Kd.slice 3 (Kd.int .i64)) 26 w' w.heap.size (fun k_ => some k_ ≠ ((.slice Ao9 t919.length co9) : Value).ownBlock) (.slice Ao8 t916.length co8) t916) ∧ xA (Kd.S (Kd.slice 3 (Kd.int .i64)) 26 w' w.heap.size (fun k_ => some k_ ≠ ((.slice Ao8 t916.length co8) : Value).ownBlock) (.slice Ao9 t919.length co9) t919) ∧ xA (w'.heap[gb923]? = some (.cells #[(.slice Ao6 t911.length co6), .int .i64 t914, .int .i64 t915, (.slice Ao8 t916.length co8), (.slice Ao9 t919.length co9)] 58 (0, 0))) ∧ xA (Below w.heap.size w w'))
  case atStart => exact ⟨(1), qf, H', ⟨Nat.le_refl _⟩, ⟨by (with_reducible repeat (first | apply Kd.V_alloc | apply Kd.V_drewN | apply Kd.V_drew)); exact Kd.V_mono (Kd.V_far (p := ⟨gb923, 4, none⟩) (Kd.V_far (p := ⟨gb923, 3, none⟩) (Kd.V_far (p := ⟨gb923, 2, none⟩) (Kd.V_far (p := ⟨gb923, 1, none⟩) (Kd.V_far (p := ⟨gb923, 0, none⟩) (Kd.V_mono HO913.out (fun k_ hk => (⟨hk, hk.2⟩ : _ ∧ k_ ≠ gb923))) (fun _ hk => hk.2) (.slice Ao6 t911.length co6)) (fun _ hk => hk.2) (.int .i64 t914)) (fun _ hk => hk.2) (.int .i64 t915)) (fun _ hk => hk.2) (.slice Ao8 t916.length co8)) (fun _ hk => hk.2) (.slice Ao9 t919.length co9)) (fun _ hk => ⟨hk.1.1.1, ⟨hk.1.1.2, hk.1.2⟩⟩)⟩, ⟨by (with_reducible repeat (first | apply Kd.S_alloc | apply Kd.S_drewN | apply Kd.S_drew)); exact Kd.xU (Kd.S_far (p := ⟨gb923, 4, none⟩) (Kd.S_far (p := ⟨gb923, 3, none⟩) (Kd.S_far (p := ⟨gb923, 2, none⟩) (Kd.S_far (p := ⟨gb923, 1, none⟩) (Kd.S_far (p := ⟨gb923, 0, none⟩) (Kd.S_types HO918.out BK923.out (by decide)) (fun _ hk => hk.2) (.slice Ao6 t911.length co6)) (fun _ hk => hk.2) (.int .i64 t914)) (fun _ hk => hk.2) (.int .i64 t915)) (fun _ hk => hk.2) (.slice Ao8 t916.length co8)) (fun _ hk => hk.2) (.slice Ao9 t919.length co9)) (fun _ hk => hk.1)⟩, ⟨by (with_reducible repeat (first | apply Kd.S_alloc | apply Kd.S_drewN | apply Kd.S_drew)); exact Kd.xU (Kd.S_far (p := ⟨gb923, 4, none⟩) (Kd.S_far (p := ⟨gb923, 3, none⟩) (Kd.S_far (p := ⟨gb923, 2, none⟩) (Kd.S_far (p := ⟨gb923, 1, none⟩) (Kd.S_far (p := ⟨gb923, 0, none⟩) (Kd.S_types HO921.out BK923.out (by decide)) (fun _ hk => hk.2) (.slice Ao6 t911.length co6)) (fun _ hk => hk.2) (.int .i64 t914)) (fun _ hk => hk.2) (.int .i64 t915)) (fun _ hk => hk.2) (.slice Ao8 t916.length co8)) (fun _ hk => hk.2) (.slice Ao9 t919.length co9)) (fun _ hk => hk.1)⟩, ⟨by (with_reducible repeat (first | refine xJ ?_ _ | refine xI ?_ | refine xH ?_ _)); refine xT (cs := #[.slice Ao6 t911.length co6, .int .i64 t914, .int .i64 t915, .slice Ao8 t916.length co8, .slice none 0 0]) ?_ 4 _ rfl; (with_reducible repeat (first | refine xJ ?_ _ | refine xI ?_ | refine xH ?_ _)); refine xT (cs := #[.slice Ao6 t911.length co6, .int .i64 t914, .int .i64 t915, .slice none 0 0, .slice none 0 0]) ?_ 3 _ rfl; (with_reducible repeat (first | refine xJ ?_ _ | refine xI ?_ | refine xH ?_ _)); refine xT (cs := #[.slice Ao6 t911.length co6, .int .i64 t914, .int .i64 0, .slice none 0 0, .slice none 0 0]) ?_ 2 _ rfl; (with_reducible repeat (first | refine xJ ?_ _ | refine xI ?_ | refine xH ?_ _)); refine xT (cs := #[.slice Ao6 t911.length co6, .int .i64 0, .int .i64 0, .slice none 0 0, .slice none 0 0]) ?_ 1 _ rfl; (with_reducible repeat (first | refine xJ ?_ _ | refine xI ?_ | refine xH ?_ _)); refine xT (cs := #[.slice none 0 0, .int .i64 0, .int .i64 0, .slice none 0 0, .slice none 0 0]) ?_ 0 _ rfl; (with_reducible repeat (first | refine xJ ?_ _ | refine xI ?_ | refine xH ?_ _)); exact BK923.out⟩, ⟨qo GE923.out⟩⟩
  case round =>
   clear H'
   try clear p2
   try clear c3
   try clear c3b0
   try clear c3b1
   try clear c4
   try clear hcz7_0
   try clear hcz7_1
   try clear hcz7_2
   try clear hcz7_3
   try clear hcz7_4
   try clear hfz7_0
   try clear hfz7_1
   try clear hfz7_2
   try clear hfz7_3
   try clear hfz7_4
   obtain ⟨x6_1, rfl, HA, HK1, HO_924000, HO_924003, HO_924004, BK923, HB⟩ := hrel
   cases gk with
   | zero => exact absurd HA.out (by simp [line_Cycle.l0])
   | succ k1 =>
    have H := HA.out
    clear HA
    simp only [line_Cycle.l0] at H
    have H' := xA.mk H
    clear H
    have hcz10_0 : wr.cell? ⟨gb923, 0, none⟩ = some (.slice Ao6 t911.length co6) := (xB BK923.out 0).trans rfl
    have hcz10_1 : wr.cell? ⟨gb923, 1, none⟩ = some (.int .i64 t914) := (xB BK923.out 1).trans rfl
    have hcz10_2 : wr.cell? ⟨gb923, 2, none⟩ = some (.int .i64 t915) := (xB BK923.out 2).trans rfl
    have hcz10_3 : wr.cell? ⟨gb923, 3, none⟩ = some (.slice Ao8 t916.length co8) := (xB BK923.out 3).trans rfl
    have hcz10_4 : wr.cell? ⟨gb923, 4, none⟩ = some (.slice Ao9 t919.length co9) := (xB BK923.out 4).trans rfl
    have hfz10_0 := xD BK923.out 0
    have hfz10_1 := xD BK923.out 1
    have hfz10_2 := xD BK923.out 2
    have hfz10_3 := xD BK923.out 3
    have hfz10_4 := xD BK923.out 4
    go_wp2
    go_loopg [22] k1 (fun kq v22 w' => ∃ (x22_2 : Int), v22 = .int .i64 x22_2 ∧ xA (line_Cycle.l1 kq x6_1 (t916.length : Int) x22_2 t911 t914 t915 t916 t919 = some (r1, r2)) ∧ xA (kq ≤ k1) ∧ xA (Kd.V (Kd.slice 3 (Kd.int .i64)) 26 w' w.heap.size (fun k_ => some k_ ≠ ((.slice Ao8 t916.length co8) : Value).ownBlock ∧ some k_ ≠ ((.slice Ao9 t919.length co9) : Value).ownBlock ∧ k_ ≠ gb923) (.slice Ao6 t911.length co6) t911) ∧ xA (Kd.S (Kd.slice 3 (Kd.int .i64)) 26 w' w.heap.size (fun k_ => some k_ ≠ ((.slice Ao9 t919.length co9) : Value).ownBlock) (.slice Ao8 t916.length co8) t916) ∧ xA (Kd.S (Kd.slice 3 (Kd.int .i64)) 26 w' w.heap.size (fun k_ => some k_ ≠ ((.slice Ao8 t916.length co8) : Value).ownBlock) (.slice Ao9 t919.length co9) t919) ∧ xA (w'.heap[gb923]? = some (.cells #[(.slice Ao6 t911.length co6), .int .i64 t914, .int .i64 t915, (.slice Ao8 t916.length co8), (.slice Ao9 t919.length co9)] 58 (0, 0))) ∧ xA (Below w.heap.size w w'))
    case atStart => exact ⟨(0), qf, H', ⟨Nat.le_refl _⟩, ⟨qj HO_924000.out⟩, ⟨qh HO_924003.out⟩, ⟨qh HO_924004.out⟩, ⟨qn BK923.out⟩, ⟨qo GE923.out⟩⟩
    case round =>
     clear H'
     try clear p2
     try clear c3
     try clear c3b0
     try clear c3b1
     try clear c4
     try clear hcz10_0
     try clear hcz10_1
     try clear hcz10_2
     try clear hcz10_3
     try clear hcz10_4
     try clear hcz7_0
     try clear hcz7_1
     try clear hcz7_2
     try clear hcz7_3
     try clear hcz7_4
     try clear hfz10_0
     try clear hfz10_1
     try clear hfz10_2
     try clear hfz10_3
     try clear hfz10_4
     try clear hfz7_0
     try clear hfz7_1
     try clear hfz7_2
     try clear hfz7_3
     try clear hfz7_4
     try clear p2
     obtain ⟨x22_2, rfl, HA, HK2, HO_924000, HO_924003, HO_924004, BK923, HB⟩ := hrel
     cases gk with
     | zero => exact absurd HA.out (by simp [line_Cycle.l1])
     | succ k2 =>
      have H := HA.out
      clear HA
      simp only [line_Cycle.l1] at H
      by_cases c11 : x22_2 < (t916.length : Int)
      ·
       rw [if_pos c11] at H
       have c11b0 : decide (x22_2 < (t916.length : Int)) = true := qu c11
       clear c11
       obtain ⟨y924, hy924⟩ : ∃ y_ : List Int, y_ = (([x22_2] : List Int)) := ⟨_, rfl⟩
       replace H : ((llcycle.f k2 t911 t914 t915 t916 t919 y924 x6_1).bind fun t927 => (if (t927.length : Int) = 0 then (line_Cycle.l1 k2 x6_1 (t916.length : Int) (wrap64 (x22_2 + 1)) t911 t914 t915 t916 t919) else (some (t927, 0)))) = some (r1, r2) := by first | (rw [hy924]; with_reducible exact H) | (have H2_ := (Option.bind_some _ _).symm.trans H; rw [hy924]; with_reducible exact H2_) | (have H2_ := (Option.bind_some _ _).symm.trans H; with_reducible exact H2_) | with_reducible exact H | (rw [hy924]; exact H) | exact H
       have Ny924 := xA.mk hy924
       clear hy924
       replace H := qw H
       obtain ⟨t927, A120, H⟩ := H
       replace H : (if (t927.length : Int) = 0 then (line_Cycle.l1 k2 x6_1 (t916.length : Int) (wrap64 (x22_2 + 1)) t911 t914 t915 t916 t919) else (some (t927, 0))) = some (r1, r2) := H
       have A12 := xA.mk A120
       clear A120
       by_cases c13 : (t927.length : Int) = 0
       ·
        rw [if_pos c13] at H
        have c13b0 : ((t927.length : Int) == 0) = true := beq_iff_eq.mpr c13
        have c13b1 : ((t927.length : Int) != 0) = false := bne_eq_false_iff_eq.mpr c13
        clear c13
        have H' := xA.mk H
        clear H
        have hcz14_0 : wr.cell? ⟨gb923, 0, none⟩ = some (.slice Ao6 t911.length co6) := (xB BK923.out 0).trans rfl
        have hcz14_1 : wr.cell? ⟨gb923, 1, none⟩ = some (.int .i64 t914) := (xB BK923.out 1).trans rfl
        have hcz14_2 : wr.cell? ⟨gb923, 2, none⟩ = some (.int .i64 t915) := (xB BK923.out 2).trans rfl
        have hcz14_3 : wr.cell? ⟨gb923, 3, none⟩ = some (.slice Ao8 t916.length co8) := (xB BK923.out 3).trans rfl
        have hcz14_4 : wr.cell? ⟨gb923, 4, none⟩ = some (.slice Ao9 t919.length co9) := (xB BK923.out 4).trans rfl
        have hfz14_0 := xD BK923.out 0
        have hfz14_1 := xD BK923.out 1
        have hfz14_2 := xD BK923.out 2
        have hfz14_3 := xD BK923.out 3
        have hfz14_4 := xD BK923.out 4
        go_wp2_with (first | ((with_reducible refine xW (N := 27) rfl ?_); refine Kd.R_lit (Kd.int .i64) _ 3 ?hg (N := 27) ?hd (xs := ([x22_2] : List Int)) (inner := [.int .i64 x22_2]) (ok := fun _ => True) (okp := fun _ => True) ?hr ?hp (fun _ hk => hk) trivial (Below.refl _ _) (Nat.le_refl _) (by simp) ?_; (case hd => rfl); (case hg => rfl); (case hr => first | (go_simp; done) | (go_simp; rfl)); (case hp => exact (Reps.one (show Kd.M (Kd.int .i64) _ _ _ x22_2 [.int .i64 x22_2] from rfl) (Reps.none _ _))); intro v925 w15 ho16 hb hg_ hnew_; clear hg_ hnew_; (first | rw [← Ny924.out] at ho16 | (simp only [Int.reduceToNat] at ho16; rw [← Ny924.out] at ho16)); have HCY := xA.mk (Kd.Still.start hb ho16); have HCYa := xA.mk HCY.out.1; have HCYb := xA.mk HCY.out.2.2; have HO926 := xA.mk ho16; clear hb ho16; obtain ⟨Ao17, co17, eo17⟩ := Kd.R_slice HO926.out; subst eo17) | ((with_reducible refine xF (f := 75) rfl ?_); refine xM (some 29) rfl rfl Try.func75 jk rfl #[.agg #[.slice Ao6 t911.length co6, .int .i64 t914, .int .i64 t915, .slice Ao8 t916.length co8, .slice Ao9 t919.length co9], .slice Ao17 y924.length co17, .int .i64 x6_1] rfl qc ?_; (with_reducible refine (llcycle.calls k2 _ _ t911 t914 t915 _ _ t916 _ _ t919 _ _ y924 x6_1 t927 wr _ HCYa.out ?side1 ?side2 ?side3 ?side4 ?side5 ?side6 HCYb.out A12.out).mono ?_); (case side1 => exact qm (Kd.xV HO_924000.out).2.2); (case side2 => exact (Kd.xV HO_924000.out).2.1); (case side3 => exact qm (Kd.xG HO_924003.out).2.2); (case side4 => exact (Kd.xG HO_924003.out).2.1); (case side5 => exact qm (Kd.xG HO_924004.out).2.2); (case side6 => exact (Kd.xG HO_924004.out).2.1); rintro e w18 ⟨v928, rfl, ho0, hz0, hst⟩; refine ⟨_, rfl, ?_⟩; have n0_ := xA.mk (Kd.V_below HO_924000.out hst.1); have n1_ := xA.mk (Kd.xZ HO_924003.out hst.1); have n2_ := xA.mk (Kd.xZ HO_924004.out hst.1); have HO929 := xA.mk (Kd.R_lower ho0 (xC HB.out)); have n5_ := xA.mk (xN (g := gb923) (o := .cells #[.slice Ao6 t911.length co6, .int .i64 t914, .int .i64 t915, .slice Ao8 t916.length co8, .slice Ao9 t919.length co9] 58 (0, 0)) BK923.out hst.1); have n6_ := xA.mk (xE HB.out hst.1); have HZ := xA.mk hz0; clear HO_924000 HO_924003 HO_924004 HO926 BK923 HB HCY; have HO_924000 := n0_; have HO_924003 := n1_; have HO_924004 := n2_; have BK923 := n5_; have HB := n6_; clear n0_ n1_ n2_ n5_ n6_ ho0 hz0 hst; obtain ⟨Ao19, co19, eo19⟩ := Kd.R_slice HO929.out; subst eo19; have he_ := Kd.R_neq (P := Try.prog) (t := 26) (e' := 3) Try.underlying26 HO929.out HZ.out c13b1))
        go_roundg k2
        case measure => have := HK1.out; have := HK2.out; omega
        case rel => exact ⟨(wrap64 (x22_2 + 1)), qf, H', ⟨by have := HK1.out; have := HK2.out; omega⟩, ⟨qj HO_924000.out⟩, ⟨qh HO_924003.out⟩, ⟨qh HO_924004.out⟩, ⟨qn BK923.out⟩, ⟨qo GE923.out⟩⟩
       ·
        rw [if_neg c13] at H
        have c13b0 : ((t927.length : Int) == 0) = false := jg c13
        have c13b1 : ((t927.length : Int) != 0) = true := bne_iff_ne.mpr c13
        have c13b2 : ¬ (t927 = []) := fun h_ => c13 (by rw [h_]; rfl)
        simp only [Option.some.injEq, Prod.mk.injEq] at H
        obtain ⟨rfl, rfl⟩ := H
        have hcz20_0 : wr.cell? ⟨gb923, 0, none⟩ = some (.slice Ao6 t911.length co6) := (xB BK923.out 0).trans rfl
        have hcz20_1 : wr.cell? ⟨gb923, 1, none⟩ = some (.int .i64 t914) := (xB BK923.out 1).trans rfl
        have hcz20_2 : wr.cell? ⟨gb923, 2, none⟩ = some (.int .i64 t915) := (xB BK923.out 2).trans rfl
        have hcz20_3 : wr.cell? ⟨gb923, 3, none⟩ = some (.slice Ao8 t916.length co8) := (xB BK923.out 3).trans rfl
        have hcz20_4 : wr.cell? ⟨gb923, 4, none⟩ = some (.slice Ao9 t919.length co9) := (xB BK923.out 4).trans rfl
        have hfz20_0 := xD BK923.out 0
        have hfz20_1 := xD BK923.out 1
        have hfz20_2 := xD BK923.out 2
        have hfz20_3 := xD BK923.out 3
        have hfz20_4 := xD BK923.out 4
        go_wp2_with (first | ((with_reducible refine xW (N := 27) rfl ?_); refine Kd.R_lit (Kd.int .i64) _ 3 ?hg (N := 27) ?hd (xs := ([x22_2] : List Int)) (inner := [.int .i64 x22_2]) (ok := fun _ => True) (okp := fun _ => True) ?hr ?hp (fun _ hk => hk) trivial (Below.refl _ _) (Nat.le_refl _) (by simp) ?_; (case hd => rfl); (case hg => rfl); (case hr => first | (go_simp; done) | (go_simp; rfl)); (case hp => exact (Reps.one (show Kd.M (Kd.int .i64) _ _ _ x22_2 [.int .i64 x22_2] from rfl) (Reps.none _ _))); intro v925 w21 ho22 hb hg_ hnew_; clear hg_ hnew_; (first | rw [← Ny924.out] at ho22 | (simp only [Int.reduceToNat] at ho22; rw [← Ny924.out] at ho22)); have HCY := xA.mk (Kd.Still.start hb ho22); have HCYa := xA.mk HCY.out.1; have HCYb := xA.mk HCY.out.2.2; have HO926 := xA.mk ho22; clear hb ho22; obtain ⟨Ao23, co23, eo23⟩ := Kd.R_slice HO926.out; subst eo23) | ((with_reducible refine xF (f := 75) rfl ?_); refine xM (some 29) rfl rfl Try.func75 jk rfl #[.agg #[.slice Ao6 t911.length co6, .int .i64 t914, .int .i64 t915, .slice Ao8 t916.length co8, .slice Ao9 t919.length co9], .slice Ao23 y924.length co23, .int .i64 x6_1] rfl qc ?_; (with_reducible refine (llcycle.calls k2 _ _ t911 t914 t915 _ _ t916 _ _ t919 _ _ y924 x6_1 t927 wr _ HCYa.out ?side1 ?side2 ?side3 ?side4 ?side5 ?side6 HCYb.out A12.out).mono ?_); (case side1 => exact qm (Kd.xV HO_924000.out).2.2); (case side2 => exact (Kd.xV HO_924000.out).2.1); (case side3 => exact qm (Kd.xG HO_924003.out).2.2); (case side4 => exact (Kd.xG HO_924003.out).2.1); (case side5 => exact qm (Kd.xG HO_924004.out).2.2); (case side6 => exact (Kd.xG HO_924004.out).2.1); rintro e w24 ⟨v928, rfl, ho0, hz0, hst⟩; refine ⟨_, rfl, ?_⟩; have n0_ := xA.mk (Kd.V_below HO_924000.out hst.1); have n1_ := xA.mk (Kd.xZ HO_924003.out hst.1); have n2_ := xA.mk (Kd.xZ HO_924004.out hst.1); have HO929 := xA.mk (Kd.R_lower ho0 (xC HB.out)); have n5_ := xA.mk (xN (g := gb923) (o := .cells #[.slice Ao6 t911.length co6, .int .i64 t914, .int .i64 t915, .slice Ao8 t916.length co8, .slice Ao9 t919.length co9] 58 (0, 0)) BK923.out hst.1); have n6_ := xA.mk (xE HB.out hst.1); have HZ := xA.mk hz0; clear HO_924000 HO_924003 HO_924004 HO926 BK923 HB HCY; have HO_924000 := n0_; have HO_924003 := n1_; have HO_924004 := n2_; have BK923 := n5_; have HB := n6_; clear n0_ n1_ n2_ n5_ n6_ ho0 hz0 hst; obtain ⟨Ao25, co25, eo25⟩ := Kd.R_slice HO929.out; subst eo25; have he_ := Kd.R_neq (P := Try.prog) (t := 26) (e' := 3) Try.underlying26 HO929.out HZ.out c13b1))
        go_ret2
        exact ⟨_, qg, by (with_reducible repeat (first | apply Kd.R_alloc | apply Kd.R_drewN | apply Kd.R_drew)); exact Kd.R_mono HO929.out (fun _ hk => trivial), qo GE923.out⟩
      ·
       rw [if_neg c11] at H
       have c11b0 : decide (x22_2 < (t916.length : Int)) = false := qv c11
       clear c11
       have H' := xA.mk H
       clear H
       go_wp2
       go_roundg k2
       case measure => have := HK1.out; have := HK2.out; omega
       case rel => exact ⟨(wrap64 (x6_1 + 1)), qf, H', ⟨by have := HK1.out; have := HK2.out; omega⟩, ⟨qj HO_924000.out⟩, ⟨qh HO_924003.out⟩, ⟨qh HO_924004.out⟩, ⟨qn BK923.out⟩, ⟨qo GE923.out⟩⟩
 ·
  rw [if_neg c3] at H
  have c3b0 : (t922 == 0) = false := jg c3
  have c3b1 : (t922 != 0) = true := bne_iff_ne.mpr c3
  simp only [Option.some.injEq, Prod.mk.injEq] at H
  obtain ⟨rfl, rfl⟩ := H
  go_enter Try.func33, Try.ntmps33
  go_wp2_with (first | ((with_reducible refine xF (f := 45) rfl ?_); refine xM (some 11) rfl rfl Try.func45 jk rfl #[.slice A0 l0.length c0] rfl qc ?_; (with_reducible refine (line_looked.calls k (fun k_ => k_ < w.heap.size) _ _ l0 t911 t914 t915 t916 t919 t922 _ ?side1 A2.out).mono ?_); (case side1 => exact Kd.V_mk HC0.out (Kd.F_below (Kd.C_F (Kd.heap_slice 3 (Kd.heap_int .i64)) HR0.out) qa)); rintro e w26 ⟨v912, v917, v920, rfl, ho0, ho1, ho2, hb⟩; refine ⟨_, rfl, ?_⟩; have HO913 := xA.mk (Kd.V_lower (Kd.V_mono (ok' := fun k_ => some k_ ≠ (v917 : Value).ownBlock ∧ some k_ ≠ (v920 : Value).ownBlock) ho0 (fun k_ hk_ => ⟨hk_.2.1, hk_.2.2⟩)) (xC qa)); have HO918 := xA.mk (Kd.S_lower (Kd.xU (ok' := fun k_ => some k_ ≠ (v920 : Value).ownBlock) ho1 (fun _ hk_ => hk_.2)) (xC qa)); have HO921 := xA.mk (Kd.S_lower (Kd.xU (ok' := fun k_ => some k_ ≠ (v917 : Value).ownBlock) ho2 (fun _ hk_ => hk_.2)) (xC qa)); replace HB := xA.mk (xE qa hb); (try clear hb); (try clear hb2); (try clear hk); (try clear hi); (try clear ho0); (try clear ho1); (try clear ho2)) | ((with_reducible refine xW (N := 4) rfl ?_); refine xY ?hg (N := 4) ?hd (cs := #[.slice none 0 0, .int .i64 0, .int .i64 0, .slice none 0 0, .slice none 0 0]) (t := 58) ?hr ?_; (case hd => rfl); (case hg => rfl); (case hr => first | (go_simp; done) | (go_simp; rfl)); intro gb923 hg w27 hbox hb; have n0_ := xA.mk (Kd.V_below (Kd.V_elderB (qj HO913.out) gb923 (Nat.le_of_eq hg.symm)) hb); have n1_ := xA.mk (Kd.xZ (qh HO918.out) hb); have n2_ := xA.mk (Kd.xZ (qh HO921.out) hb); have n3_ := xA.mk (xE qa hb); have n4_ := xA.mk (hbox); have n5_ := xA.mk ((by rw [hg]; exact (xC qa) : w.heap.size ≤ gb923)); have n6_ := xA.mk ((by rw [hg]; exact (xC qa) : w.heap.size ≤ gb923)); clear HO913; clear HO918; clear HO921; clear HB; have HO913 := n0_; have HO918 := n1_; have HO921 := n2_; have HB := n3_; have BK923 := n4_; have GW923 := n5_; have GE923 := n6_; clear n0_ n1_ n2_ n3_ n4_ n5_ n6_; clear hb hbox hg; obtain ⟨Ao28, co28, eo28⟩ := Kd.V_slice HO913.out; subst eo28; have hcz29_0 : w27.cell? ⟨gb923, 0, none⟩ = some (.slice none 0 0) := (xB BK923.out 0).trans rfl; have hcz29_1 : w27.cell? ⟨gb923, 1, none⟩ = some (.int .i64 0) := (xB BK923.out 1).trans rfl; have hcz29_2 : w27.cell? ⟨gb923, 2, none⟩ = some (.int .i64 0) := (xB BK923.out 2).trans rfl; have hcz29_3 : w27.cell? ⟨gb923, 3, none⟩ = some (.slice none 0 0) := (xB BK923.out 3).trans rfl; have hcz29_4 : w27.cell? ⟨gb923, 4, none⟩ = some (.slice none 0 0) := (xB BK923.out 4).trans rfl; have hfz29_0 := xD BK923.out 0; have hfz29_1 := xD BK923.out 1; have hfz29_2 := xD BK923.out 2; have hfz29_3 := xD BK923.out 3; have hfz29_4 := xD BK923.out 4; obtain ⟨Ao30, co30, eo30⟩ := Kd.S_slice HO918.out; subst eo30; obtain ⟨Ao31, co31, eo31⟩ := Kd.S_slice HO921.out; subst eo31))
  go_ret2
  exact ⟨_, qg, by first | exact Kd.R_nil _ _ _ _ _ | exact Kd.N_nil _ _ _ _ _ | exact Kd.V_nil _ _ _ _ _ | exact Kd.Q_nil _ _ _ _ _ | exact Kd.S_nil _ _ _ _ _, qo GE923.out⟩
def r5Cycle.f (k : Nat) (l0 : List (List Int)) : Option (List Int × Int) := (r5Matrix.f k l0).bind fun t930 => (if t930 = true then ((r5best.f k l0).bind fun t931 => (if (t931.length : Int) = 0 then (some (([] : List Int), 10)) else (some (t931, 0)))) else (some (([] : List Int), 2)))
theorem r5Cycle.calls (k : Nat) (A0 : Option Addr) (c0 : Nat) (l0 : List (List Int)) (r1 : List Int) (r2 : Int) (w : World) (hr0 : Kd.C (Kd.slice 3 (Kd.int .i64)) w A0 l0.length l0) (hc0 : l0.length ≤ c0) (h : r5Cycle.f k l0 = some (r1, r2)) :
  Calls Try.prog 34 #[.slice A0 l0.length c0] w fun e w' => ∃ v0_ : Value, e = .returned (.tuple #[v0_, .int .i64 r2]) ∧ Kd.V (Kd.int .i64) 3 w' w.heap.size (fun k_ => (w.heap.size ≤ k_)) v0_ r1 ∧ Below w.heap.size w w' := by
 have HR0 := xA.mk hr0
 have HC0 := xA.mk hc0
 clear hr0 hc0
 have HB := xA.mk (Below.refl w.heap.size w)
 have H : ((r5Matrix.f k l0).bind fun t930 => (if t930 = true then ((r5best.f k l0).bind fun t931 => (if (t931.length : Int) = 0 then (some (([] : List Int), 10)) else (some (t931, 0)))) else (some (([] : List Int), 2)))) = some (r1, r2) := h
 clear h
 replace H := qw H
 obtain ⟨t930, A20, H⟩ := H
 replace H : (if t930 = true then ((r5best.f k l0).bind fun t931 => (if (t931.length : Int) = 0 then (some (([] : List Int), 10)) else (some (t931, 0)))) else (some (([] : List Int), 2))) = some (r1, r2) := H
 have A2 := xA.mk A20
 clear A20
 by_cases c3 : t930 = true
 ·
  subst c3
  have H1 : ((r5best.f k l0).bind fun t931 => (if (t931.length : Int) = 0 then (some (([] : List Int), 10)) else (some (t931, 0)))) = some (r1, r2) := by rw [if_pos rfl] at H; exact H
  clear H
  have H := H1
  clear H1
  replace H := qw H
  obtain ⟨t931, A40, H⟩ := H
  replace H : (if (t931.length : Int) = 0 then (some (([] : List Int), 10)) else (some (t931, 0))) = some (r1, r2) := H
  have A4 := xA.mk A40
  clear A40
  by_cases c5 : (t931.length : Int) = 0
  ·
   rw [if_pos c5] at H
   have c5b0 : ((t931.length : Int) == 0) = true := beq_iff_eq.mpr c5
   have c5b1 : ((t931.length : Int) != 0) = false := bne_eq_false_iff_eq.mpr c5
   clear c5
   simp only [Option.some.injEq, Prod.mk.injEq] at H
   obtain ⟨rfl, rfl⟩ := H
   go_enter Try.func34, Try.ntmps34
   go_wp2_with (first | ((with_reducible refine xF (f := 49) rfl ?_); refine xM (some 6) rfl rfl Try.func49 jk rfl #[.slice A0 l0.length c0] rfl qc ?_; (with_reducible refine (r5Matrix.calls k _ _ l0 true _ ?side1 ?side2 A2.out).mono ?_); (case side1 => exact qm HR0.out); (case side2 => exact HC0.out); rintro e w' ⟨rfl, ⟨nd, rfl⟩⟩; refine ⟨_, rfl, ?_⟩) | ((with_reducible refine xF (f := 72) rfl ?_); refine xM (some 9) rfl rfl Try.func72 jk rfl #[.slice A0 l0.length c0] rfl qc ?_; (with_reducible refine (r5best.calls k _ _ l0 t931 _ ?side1 ?side2 A4.out).mono ?_); (case side1 => exact qm HR0.out); (case side2 => exact HC0.out); rintro e w6 ⟨v932, rfl, ho0, hz0_, hb⟩; refine ⟨_, rfl, ?_⟩; have HO933 := xA.mk (Kd.V_lower (Kd.V_mono (ok' := fun k_ => (w.heap.size ≤ k_)) ho0 (fun k_ hk_ => (Nat.le_trans (xC qa) hk_))) (xC qa)); replace HB := xA.mk (xE qa hb); (try clear hb); (try clear hb2); (try clear hk); (try clear hi); (try clear ho0); obtain ⟨Ao7, co7, eo7⟩ := Kd.V_slice HO933.out; subst eo7; have he_ := Kd.V_eql (P := Try.prog) (t := 26) (e' := 3) Try.underlying26 HO933.out hz0_ c5b0; have hn_ := Kd.V_neq (P := Try.prog) (t := 26) (e' := 3) Try.underlying26 HO933.out hz0_ c5b1; clear hz0_))
   go_ret2
   exact ⟨_, qg, Kd.V_nil _ _ _ _ _, qa⟩
  ·
   rw [if_neg c5] at H
   have c5b0 : ((t931.length : Int) == 0) = false := jg c5
   have c5b1 : ((t931.length : Int) != 0) = true := bne_iff_ne.mpr c5
   have c5b2 : ¬ (t931 = []) := fun h_ => c5 (by rw [h_]; rfl)
   simp only [Option.some.injEq, Prod.mk.injEq] at H
   obtain ⟨rfl, rfl⟩ := H
   go_enter Try.func34, Try.ntmps34
   go_wp2_with (first | ((with_reducible refine xF (f := 49) rfl ?_); refine xM (some 6) rfl rfl Try.func49 jk rfl #[.slice A0 l0.length c0] rfl qc ?_; (with_reducible refine (r5Matrix.calls k _ _ l0 true _ ?side1 ?side2 A2.out).mono ?_); (case side1 => exact qm HR0.out); (case side2 => exact HC0.out); rintro e w' ⟨rfl, ⟨nd, rfl⟩⟩; refine ⟨_, rfl, ?_⟩) | ((with_reducible refine xF (f := 72) rfl ?_); refine xM (some 9) rfl rfl Try.func72 jk rfl #[.slice A0 l0.length c0] rfl qc ?_; (with_reducible refine (r5best.calls k _ _ l0 t931 _ ?side1 ?side2 A4.out).mono ?_); (case side1 => exact qm HR0.out); (case side2 => exact HC0.out); rintro e w8 ⟨v932, rfl, ho0, hz0_, hb⟩; refine ⟨_, rfl, ?_⟩; have HO933 := xA.mk (Kd.V_lower (Kd.V_mono (ok' := fun k_ => (w.heap.size ≤ k_)) ho0 (fun k_ hk_ => (Nat.le_trans (xC qa) hk_))) (xC qa)); replace HB := xA.mk (xE qa hb); (try clear hb); (try clear hb2); (try clear hk); (try clear hi); (try clear ho0); obtain ⟨Ao9, co9, eo9⟩ := Kd.V_slice HO933.out; subst eo9; have he_ := Kd.V_eql (P := Try.prog) (t := 26) (e' := 3) Try.underlying26 HO933.out hz0_ c5b0; have hn_ := Kd.V_neq (P := Try.prog) (t := 26) (e' := 3) Try.underlying26 HO933.out hz0_ c5b1; clear hz0_))
   go_ret2
   exact ⟨_, qg, qj HO933.out, qa⟩
 ·
  replace c3 := Bool.eq_false_iff.mpr c3
  subst c3
  have H1 : (some (([] : List Int), 2)) = some (r1, r2) := by rw [if_neg (show ¬ (false = true) by decide)] at H; exact H
  clear H
  have H := H1
  clear H1
  simp only [Option.some.injEq, Prod.mk.injEq] at H
  obtain ⟨rfl, rfl⟩ := H
  go_enter Try.func34, Try.ntmps34
  go_wp2_with (first | ((with_reducible refine xF (f := 49) rfl ?_); refine xM (some 6) rfl rfl Try.func49 jk rfl #[.slice A0 l0.length c0] rfl qc ?_; (with_reducible refine (r5Matrix.calls k _ _ l0 false _ ?side1 ?side2 A2.out).mono ?_); (case side1 => exact qm HR0.out); (case side2 => exact HC0.out); rintro e w' ⟨rfl, ⟨nd, rfl⟩⟩; refine ⟨_, rfl, ?_⟩))
  go_ret2
  exact ⟨_, qg, Kd.V_nil _ _ _ _ _, qa⟩
def line_Critical.f (k : Nat) (l0 : List (List Int)) : Option (List Int × Int) := (line_looked.f k l0).bind fun bt934 => (if bt934.2.2.2.2.2 = 0 then ((llvertices.f k bt934.1 bt934.2.1 bt934.2.2.1 bt934.2.2.2.1 bt934.2.2.2.2.1).bind fun t947 => (some (t947, 0))) else (some (([] : List Int), bt934.2.2.2.2.2)))
theorem line_Critical.calls (k : Nat) (A0 : Option Addr) (c0 : Nat) (l0 : List (List Int)) (r1 : List Int) (r2 : Int) (w : World) (hr0 : Kd.C (Kd.slice 3 (Kd.int .i64)) w A0 l0.length l0) (hc0 : l0.length ≤ c0) (h : line_Critical.f k l0 = some (r1, r2)) :
  Calls Try.prog 35 #[.slice A0 l0.length c0] w fun e w' => ∃ v0_ : Value, e = .returned (.tuple #[v0_, .int .i64 r2]) ∧ Kd.R (Kd.int .i64) 3 w' w.heap.size (fun _ => True) v0_ r1 ∧ Below w.heap.size w w' := by
 have hu58 := Try.underlying58
 have HR0 := xA.mk hr0
 have HC0 := xA.mk hc0
 clear hr0 hc0
 have HB := xA.mk (Below.refl w.heap.size w)
 have H : ((line_looked.f k l0).bind fun bt934 => (if bt934.2.2.2.2.2 = 0 then ((llvertices.f k bt934.1 bt934.2.1 bt934.2.2.1 bt934.2.2.2.1 bt934.2.2.2.2.1).bind fun t947 => (some (t947, 0))) else (some (([] : List Int), bt934.2.2.2.2.2)))) = some (r1, r2) := h
 clear h
 replace H := qw H
 obtain ⟨⟨t934, t937, t938, t939, t942, t945⟩, A20, H⟩ := H
 replace H : (if t945 = 0 then ((llvertices.f k t934 t937 t938 t939 t942).bind fun t947 => (some (t947, 0))) else (some (([] : List Int), t945))) = some (r1, r2) := H
 have A2 := xA.mk A20
 clear A20
 by_cases c3 : t945 = 0
 ·
  rw [if_pos c3] at H
  have c3b0 : (t945 == 0) = true := beq_iff_eq.mpr c3
  have c3b1 : (t945 != 0) = false := bne_eq_false_iff_eq.mpr c3
  clear c3
  replace H := qw H
  obtain ⟨t947, A40, H⟩ := H
  replace H : (some (t947, 0)) = some (r1, r2) := H
  have A4 := xA.mk A40
  clear A40
  simp only [Option.some.injEq, Prod.mk.injEq] at H
  obtain ⟨rfl, rfl⟩ := H
  go_enter Try.func35, Try.ntmps35
  go_wp2_with (first | ((with_reducible refine xF (f := 45) rfl ?_); refine xM (some 8) rfl rfl Try.func45 jk rfl #[.slice A0 l0.length c0] rfl qc ?_; (with_reducible refine (line_looked.calls k (fun k_ => k_ < w.heap.size) _ _ l0 t934 t937 t938 t939 t942 t945 _ ?side1 A2.out).mono ?_); (case side1 => exact Kd.V_mk HC0.out (Kd.F_below (Kd.C_F (Kd.heap_slice 3 (Kd.heap_int .i64)) HR0.out) qa)); rintro e w5 ⟨v935, v940, v943, rfl, ho0, ho1, ho2, hb⟩; refine ⟨_, rfl, ?_⟩; have HO936 := xA.mk (Kd.V_lower (Kd.V_mono (ok' := fun k_ => some k_ ≠ (v940 : Value).ownBlock ∧ some k_ ≠ (v943 : Value).ownBlock) ho0 (fun k_ hk_ => ⟨hk_.2.1, hk_.2.2⟩)) (xC qa)); have HO941 := xA.mk (Kd.S_lower (Kd.xU (ok' := fun k_ => some k_ ≠ (v943 : Value).ownBlock) ho1 (fun _ hk_ => hk_.2)) (xC qa)); have HO944 := xA.mk (Kd.S_lower (Kd.xU (ok' := fun k_ => some k_ ≠ (v940 : Value).ownBlock) ho2 (fun _ hk_ => hk_.2)) (xC qa)); replace HB := xA.mk (xE qa hb); (try clear hb); (try clear hb2); (try clear hk); (try clear hi); (try clear ho0); (try clear ho1); (try clear ho2)) | ((with_reducible refine xW (N := 4) rfl ?_); refine xY ?hg (N := 4) ?hd (cs := #[.slice none 0 0, .int .i64 0, .int .i64 0, .slice none 0 0, .slice none 0 0]) (t := 58) ?hr ?_; (case hd => rfl); (case hg => rfl); (case hr => first | (go_simp; done) | (go_simp; rfl)); intro gb946 hg w6 hbox hb; have n0_ := xA.mk (Kd.V_below (Kd.V_elderB (qj HO936.out) gb946 (Nat.le_of_eq hg.symm)) hb); have n1_ := xA.mk (Kd.xZ (qh HO941.out) hb); have n2_ := xA.mk (Kd.xZ (qh HO944.out) hb); have n3_ := xA.mk (xE qa hb); have n4_ := xA.mk (hbox); have n5_ := xA.mk ((by rw [hg]; exact (xC qa) : w.heap.size ≤ gb946)); have n6_ := xA.mk ((by rw [hg]; exact (xC qa) : w.heap.size ≤ gb946)); clear HO936; clear HO941; clear HO944; clear HB; have HO936 := n0_; have HO941 := n1_; have HO944 := n2_; have HB := n3_; have BK946 := n4_; have GW946 := n5_; have GE946 := n6_; clear n0_ n1_ n2_ n3_ n4_ n5_ n6_; clear hb hbox hg; obtain ⟨Ao7, co7, eo7⟩ := Kd.V_slice HO936.out; subst eo7; have hcz8_0 : w6.cell? ⟨gb946, 0, none⟩ = some (.slice none 0 0) := (xB BK946.out 0).trans rfl; have hcz8_1 : w6.cell? ⟨gb946, 1, none⟩ = some (.int .i64 0) := (xB BK946.out 1).trans rfl; have hcz8_2 : w6.cell? ⟨gb946, 2, none⟩ = some (.int .i64 0) := (xB BK946.out 2).trans rfl; have hcz8_3 : w6.cell? ⟨gb946, 3, none⟩ = some (.slice none 0 0) := (xB BK946.out 3).trans rfl; have hcz8_4 : w6.cell? ⟨gb946, 4, none⟩ = some (.slice none 0 0) := (xB BK946.out 4).trans rfl; have hfz8_0 := xD BK946.out 0; have hfz8_1 := xD BK946.out 1; have hfz8_2 := xD BK946.out 2; have hfz8_3 := xD BK946.out 3; have hfz8_4 := xD BK946.out 4; obtain ⟨Ao9, co9, eo9⟩ := Kd.S_slice HO941.out; subst eo9; obtain ⟨Ao10, co10, eo10⟩ := Kd.S_slice HO944.out; subst eo10) | ((with_reducible refine xF (f := 47) rfl ?_); refine xM (some 15) rfl rfl Try.func47 jk rfl #[.agg #[.slice Ao7 t934.length co7, .int .i64 t937, .int .i64 t938, .slice Ao9 t939.length co9, .slice Ao10 t942.length co10]] rfl qc ?_; (with_reducible refine (llvertices.calls k _ _ t934 t937 t938 _ _ t939 _ _ t942 t947 _ ?side1 ?side2 ?side3 ?side4 ?side5 ?side6 A4.out).mono ?_); (case side1 => refine (Kd.xV (e := 26) (base := w.heap.size) (ok := fun k_ => ((some k_ ≠ (.slice Ao9 t939.length co9 : Value).ownBlock ∧ some k_ ≠ (.slice Ao10 t942.length co10 : Value).ownBlock) ∧ k_ ≠ gb946)) (n := t934.length) (c := co7) ?_).2.2; exact (by (with_reducible repeat (first | apply Kd.V_alloc | apply Kd.V_drewN | apply Kd.V_drew)); exact (Kd.V_mono (Kd.V_far (p := ⟨gb946, 4, none⟩) (Kd.V_far (p := ⟨gb946, 3, none⟩) (Kd.V_far (p := ⟨gb946, 2, none⟩) (Kd.V_far (p := ⟨gb946, 1, none⟩) (Kd.V_far (p := ⟨gb946, 0, none⟩) (Kd.V_mono HO936.out (fun k_ hk => (⟨hk, hk.2⟩ : _ ∧ k_ ≠ gb946))) (fun _ hk => hk.2) (.slice Ao7 t934.length co7)) (fun _ hk => hk.2) (.int .i64 t937)) (fun _ hk => hk.2) (.int .i64 t938)) (fun _ hk => hk.2) (.slice Ao9 t939.length co9)) (fun _ hk => hk.2) (.slice Ao10 t942.length co10)) (fun _ h_ => h_.1)))); (case side2 => exact (Kd.xV HO936.out).2.1); (case side3 => refine (Kd.xG (e := 26) (base := w.heap.size) (ok := fun k_ => some k_ ≠ (.slice Ao10 t942.length co10 : Value).ownBlock) (n := t939.length) (c := co9) ?_).2.2; exact (by (with_reducible repeat (first | apply Kd.S_alloc | apply Kd.S_drewN | apply Kd.S_drew)); exact (Kd.xU (Kd.S_far (p := ⟨gb946, 4, none⟩) (Kd.S_far (p := ⟨gb946, 3, none⟩) (Kd.S_far (p := ⟨gb946, 2, none⟩) (Kd.S_far (p := ⟨gb946, 1, none⟩) (Kd.S_far (p := ⟨gb946, 0, none⟩) (Kd.S_types HO941.out BK946.out (by decide)) (fun _ hk => hk.2) (.slice Ao7 t934.length co7)) (fun _ hk => hk.2) (.int .i64 t937)) (fun _ hk => hk.2) (.int .i64 t938)) (fun _ hk => hk.2) (.slice Ao9 t939.length co9)) (fun _ hk => hk.2) (.slice Ao10 t942.length co10)) (fun _ h_ => h_.1)))); (case side4 => exact (Kd.xG HO941.out).2.1); (case side5 => refine (Kd.xG (e := 26) (base := w.heap.size) (ok := fun k_ => some k_ ≠ (.slice Ao9 t939.length co9 : Value).ownBlock) (n := t942.length) (c := co10) ?_).2.2; exact (by (with_reducible repeat (first | apply Kd.S_alloc | apply Kd.S_drewN | apply Kd.S_drew)); exact (Kd.xU (Kd.S_far (p := ⟨gb946, 4, none⟩) (Kd.S_far (p := ⟨gb946, 3, none⟩) (Kd.S_far (p := ⟨gb946, 2, none⟩) (Kd.S_far (p := ⟨gb946, 1, none⟩) (Kd.S_far (p := ⟨gb946, 0, none⟩) (Kd.S_types HO944.out BK946.out (by decide)) (fun _ hk => hk.2) (.slice Ao7 t934.length co7)) (fun _ hk => hk.2) (.int .i64 t937)) (fun _ hk => hk.2) (.int .i64 t938)) (fun _ hk => hk.2) (.slice Ao9 t939.length co9)) (fun _ hk => hk.2) (.slice Ao10 t942.length co10)) (fun _ h_ => h_.1)))); (case side6 => exact (Kd.xG HO944.out).2.1); rintro e w11 ⟨v948, rfl, ho0, hb⟩; refine ⟨_, rfl, ?_⟩; have n0_ := xA.mk (Kd.V_elder' (by (with_reducible repeat (first | apply Kd.V_alloc | apply Kd.V_drewN | apply Kd.V_drew)); exact (Kd.V_mono (Kd.V_far (p := ⟨gb946, 4, none⟩) (Kd.V_far (p := ⟨gb946, 3, none⟩) (Kd.V_far (p := ⟨gb946, 2, none⟩) (Kd.V_far (p := ⟨gb946, 1, none⟩) (Kd.V_far (p := ⟨gb946, 0, none⟩) (Kd.V_mono HO936.out (fun k_ hk => (⟨hk, hk.2⟩ : _ ∧ k_ ≠ gb946))) (fun _ hk => hk.2) (.slice Ao7 t934.length co7)) (fun _ hk => hk.2) (.int .i64 t937)) (fun _ hk => hk.2) (.int .i64 t938)) (fun _ hk => hk.2) (.slice Ao9 t939.length co9)) (fun _ hk => hk.2) (.slice Ao10 t942.length co10)) (fun _ h_ => h_.1))) (Kd.R_base ho0) hb); have n1_ := xA.mk (Kd.S_elder' (by (with_reducible repeat (first | apply Kd.S_alloc | apply Kd.S_drewN | apply Kd.S_drew)); exact (Kd.xU (Kd.S_far (p := ⟨gb946, 4, none⟩) (Kd.S_far (p := ⟨gb946, 3, none⟩) (Kd.S_far (p := ⟨gb946, 2, none⟩) (Kd.S_far (p := ⟨gb946, 1, none⟩) (Kd.S_far (p := ⟨gb946, 0, none⟩) (Kd.S_types HO941.out BK946.out (by decide)) (fun _ hk => hk.2) (.slice Ao7 t934.length co7)) (fun _ hk => hk.2) (.int .i64 t937)) (fun _ hk => hk.2) (.int .i64 t938)) (fun _ hk => hk.2) (.slice Ao9 t939.length co9)) (fun _ hk => hk.2) (.slice Ao10 t942.length co10)) (fun _ h_ => h_.1))) (Kd.R_base ho0) hb); have n2_ := xA.mk (Kd.S_elder' (by (with_reducible repeat (first | apply Kd.S_alloc | apply Kd.S_drewN | apply Kd.S_drew)); exact (Kd.xU (Kd.S_far (p := ⟨gb946, 4, none⟩) (Kd.S_far (p := ⟨gb946, 3, none⟩) (Kd.S_far (p := ⟨gb946, 2, none⟩) (Kd.S_far (p := ⟨gb946, 1, none⟩) (Kd.S_far (p := ⟨gb946, 0, none⟩) (Kd.S_types HO944.out BK946.out (by decide)) (fun _ hk => hk.2) (.slice Ao7 t934.length co7)) (fun _ hk => hk.2) (.int .i64 t937)) (fun _ hk => hk.2) (.int .i64 t938)) (fun _ hk => hk.2) (.slice Ao9 t939.length co9)) (fun _ hk => hk.2) (.slice Ao10 t942.length co10)) (fun _ h_ => h_.1))) (Kd.R_base ho0) hb); have n3_ := xA.mk (Kd.R_lower ho0 (xC (qo GE946.out))); have n4_ := xA.mk (xN (g := gb946) (o := .cells #[.slice Ao7 t934.length co7, .int .i64 t937, .int .i64 t938, .slice Ao9 t939.length co9, .slice Ao10 t942.length co10] 58 (0, 0)) (by (with_reducible repeat (first | refine xJ ?_ _ | refine xI ?_ | refine xH ?_ _)); refine xT (cs := #[.slice Ao7 t934.length co7, .int .i64 t937, .int .i64 t938, .slice Ao9 t939.length co9, .slice none 0 0]) ?_ 4 _ rfl; (with_reducible repeat (first | refine xJ ?_ _ | refine xI ?_ | refine xH ?_ _)); refine xT (cs := #[.slice Ao7 t934.length co7, .int .i64 t937, .int .i64 t938, .slice none 0 0, .slice none 0 0]) ?_ 3 _ rfl; (with_reducible repeat (first | refine xJ ?_ _ | refine xI ?_ | refine xH ?_ _)); refine xT (cs := #[.slice Ao7 t934.length co7, .int .i64 t937, .int .i64 0, .slice none 0 0, .slice none 0 0]) ?_ 2 _ rfl; (with_reducible repeat (first | refine xJ ?_ _ | refine xI ?_ | refine xH ?_ _)); refine xT (cs := #[.slice Ao7 t934.length co7, .int .i64 0, .int .i64 0, .slice none 0 0, .slice none 0 0]) ?_ 1 _ rfl; (with_reducible repeat (first | refine xJ ?_ _ | refine xI ?_ | refine xH ?_ _)); refine xT (cs := #[.slice none 0 0, .int .i64 0, .int .i64 0, .slice none 0 0, .slice none 0 0]) ?_ 0 _ rfl; (with_reducible repeat (first | refine xJ ?_ _ | refine xI ?_ | refine xH ?_ _)); exact BK946.out) hb); have n5_ := xA.mk (xE (qo GE946.out) hb); clear HO936; clear HO941; clear HO944; clear BK946; clear HB; have HO936 := n0_; have HO941 := n1_; have HO944 := n2_; have HO949 := n3_; have BK946 := n4_; have HB := n5_; clear n0_ n1_ n2_ n3_ n4_ n5_; (try clear hb); (try clear hb2); (try clear hk); (try clear hi); (try clear ho0)))
  go_ret2
  exact ⟨_, qg, qi HO949.out, qo GE946.out⟩
 ·
  rw [if_neg c3] at H
  have c3b0 : (t945 == 0) = false := jg c3
  have c3b1 : (t945 != 0) = true := bne_iff_ne.mpr c3
  simp only [Option.some.injEq, Prod.mk.injEq] at H
  obtain ⟨rfl, rfl⟩ := H
  go_enter Try.func35, Try.ntmps35
  go_wp2_with (first | ((with_reducible refine xF (f := 45) rfl ?_); refine xM (some 8) rfl rfl Try.func45 jk rfl #[.slice A0 l0.length c0] rfl qc ?_; (with_reducible refine (line_looked.calls k (fun k_ => k_ < w.heap.size) _ _ l0 t934 t937 t938 t939 t942 t945 _ ?side1 A2.out).mono ?_); (case side1 => exact Kd.V_mk HC0.out (Kd.F_below (Kd.C_F (Kd.heap_slice 3 (Kd.heap_int .i64)) HR0.out) qa)); rintro e w12 ⟨v935, v940, v943, rfl, ho0, ho1, ho2, hb⟩; refine ⟨_, rfl, ?_⟩; have HO936 := xA.mk (Kd.V_lower (Kd.V_mono (ok' := fun k_ => some k_ ≠ (v940 : Value).ownBlock ∧ some k_ ≠ (v943 : Value).ownBlock) ho0 (fun k_ hk_ => ⟨hk_.2.1, hk_.2.2⟩)) (xC qa)); have HO941 := xA.mk (Kd.S_lower (Kd.xU (ok' := fun k_ => some k_ ≠ (v943 : Value).ownBlock) ho1 (fun _ hk_ => hk_.2)) (xC qa)); have HO944 := xA.mk (Kd.S_lower (Kd.xU (ok' := fun k_ => some k_ ≠ (v940 : Value).ownBlock) ho2 (fun _ hk_ => hk_.2)) (xC qa)); replace HB := xA.mk (xE qa hb); (try clear hb); (try clear hb2); (try clear hk); (try clear hi); (try clear ho0); (try clear ho1); (try clear ho2)) | ((with_reducible refine xW (N := 4) rfl ?_); refine xY ?hg (N := 4) ?hd (cs := #[.slice none 0 0, .int .i64 0, .int .i64 0, .slice none 0 0, .slice none 0 0]) (t := 58) ?hr ?_; (case hd => rfl); (case hg => rfl); (case hr => first | (go_simp; done) | (go_simp; rfl)); intro gb946 hg w13 hbox hb; have n0_ := xA.mk (Kd.V_below (Kd.V_elderB (qj HO936.out) gb946 (Nat.le_of_eq hg.symm)) hb); have n1_ := xA.mk (Kd.xZ (qh HO941.out) hb); have n2_ := xA.mk (Kd.xZ (qh HO944.out) hb); have n3_ := xA.mk (xE qa hb); have n4_ := xA.mk (hbox); have n5_ := xA.mk ((by rw [hg]; exact (xC qa) : w.heap.size ≤ gb946)); have n6_ := xA.mk ((by rw [hg]; exact (xC qa) : w.heap.size ≤ gb946)); clear HO936; clear HO941; clear HO944; clear HB; have HO936 := n0_; have HO941 := n1_; have HO944 := n2_; have HB := n3_; have BK946 := n4_; have GW946 := n5_; have GE946 := n6_; clear n0_ n1_ n2_ n3_ n4_ n5_ n6_; clear hb hbox hg; obtain ⟨Ao14, co14, eo14⟩ := Kd.V_slice HO936.out; subst eo14; have hcz15_0 : w13.cell? ⟨gb946, 0, none⟩ = some (.slice none 0 0) := (xB BK946.out 0).trans rfl; have hcz15_1 : w13.cell? ⟨gb946, 1, none⟩ = some (.int .i64 0) := (xB BK946.out 1).trans rfl; have hcz15_2 : w13.cell? ⟨gb946, 2, none⟩ = some (.int .i64 0) := (xB BK946.out 2).trans rfl; have hcz15_3 : w13.cell? ⟨gb946, 3, none⟩ = some (.slice none 0 0) := (xB BK946.out 3).trans rfl; have hcz15_4 : w13.cell? ⟨gb946, 4, none⟩ = some (.slice none 0 0) := (xB BK946.out 4).trans rfl; have hfz15_0 := xD BK946.out 0; have hfz15_1 := xD BK946.out 1; have hfz15_2 := xD BK946.out 2; have hfz15_3 := xD BK946.out 3; have hfz15_4 := xD BK946.out 4; obtain ⟨Ao16, co16, eo16⟩ := Kd.S_slice HO941.out; subst eo16; obtain ⟨Ao17, co17, eo17⟩ := Kd.S_slice HO944.out; subst eo17))
  go_ret2
  exact ⟨_, qg, by first | exact Kd.R_nil _ _ _ _ _ | exact Kd.N_nil _ _ _ _ _ | exact Kd.V_nil _ _ _ _ _ | exact Kd.Q_nil _ _ _ _ _ | exact Kd.S_nil _ _ _ _ _, qo GE946.out⟩
mutual
def r5critical.l0 : Nat → List (List Int) → List Bool → List (List Int) → Int → Int → Int → Option (List Int)
 | 0, _, _, _, _, _, _ => none
 | k + 1, x0, x5, x6, x7, x546000, x546001 => if x7 < (x6.length : Int) then (if 0 ≤ x7 then ((r5weight.f k x0 (rd_L1 x6 x7)).bind fun t553 => (if (wrap64 (t553 * x546001)) = (wrap64 (x546000 * ((rd_L1 x6 x7).length : Int))) then (r5critical.l1 k x0 x5 x6 x7 0 x546000 x546001) else (r5critical.l0 k x0 x5 x6 (wrap64 (x7 + 1)) x546000 x546001))) else (none)) else (r5critical.l2 k x5 ([] : List Int) 0)
def r5critical.l1 : Nat → List (List Int) → List Bool → List (List Int) → Int → Int → Int → Int → Option (List Int)
 | 0, _, _, _, _, _, _, _ => none
 | k + 1, x0, x5, x6, x7, x8, x546000, x546001 => if 0 ≤ x7 then (if x7 < (x6.length : Int) then (if x8 < ((rd_L1 x6 x7).length : Int) then (if 0 ≤ x8 then (if 0 ≤ (rd (rd_L1 x6 x7) x8) then (if (rd (rd_L1 x6 x7) x8) < (x5.length : Int) then (r5critical.l1 k x0 (x5.set ((rd (rd_L1 x6 x7) x8) : Int).toNat true) x6 x7 (wrap64 (x8 + 1)) x546000 x546001) else (none)) else (none)) else (none)) else (r5critical.l0 k x0 x5 x6 (wrap64 (x7 + 1)) x546000 x546001)) else (none)) else (none)
def r5critical.l2 : Nat → List Bool → List Int → Int → Option (List Int)
 | 0, _, _, _ => none
 | k + 1, x5, x9, x10 => if x10 < (x5.length : Int) then (if 0 ≤ x10 then (if rdOf false x5 x10 = true then (if x9.length < 17592186044416 then (r5critical.l2 k x5 (x9 ++ [x10]) (wrap64 (x10 + 1))) else (none)) else (r5critical.l2 k x5 x9 (wrap64 (x10 + 1)))) else (none)) else (some x9)
end
def r5critical.f (k : Nat) (l0 : List (List Int)) (a1_0 : Int) (a1_1 : Int) : Option (List Int) := if 0 ≤ (l0.length : Int) then (if ((l0.length : Int) : Int).toNat ≤ 281474976710656 then ((r5Cycles.f k l0).bind fun t549 => (r5critical.l0 k l0 (List.replicate ((l0.length : Int) : Int).toNat false) t549 0 a1_0 a1_1)) else (none)) else (none)
theorem r5critical.calls (k : Nat) (A0 : Option Addr) (c0 : Nat) (l0 : List (List Int)) (a1_0 : Int) (a1_1 : Int) (r : List Int) (w : World) (hr0 : Kd.C (Kd.slice 3 (Kd.int .i64)) w A0 l0.length l0) (hc0 : l0.length ≤ c0) (h : r5critical.f k l0 a1_0 a1_1 = some r) :
  Calls Try.prog 51 #[.slice A0 l0.length c0, .agg #[.int .i64 a1_0, .int .i64 a1_1]] w fun e w' => ∃ v0_ : Value, e = .returned (v0_) ∧ Kd.R (Kd.int .i64) 3 w' w.heap.size (fun _ => True) v0_ r ∧ Below w.heap.size w w' := by
 have hu37 := Try.underlying37
 have HR0 := xA.mk hr0
 have HC0 := xA.mk hc0
 clear hr0 hc0
 have HB := xA.mk (Below.refl w.heap.size w)
 have H : (if 0 ≤ (l0.length : Int) then (if ((l0.length : Int) : Int).toNat ≤ 281474976710656 then ((r5Cycles.f k l0).bind fun t549 => (r5critical.l0 k l0 (List.replicate ((l0.length : Int) : Int).toNat false) t549 0 a1_0 a1_1)) else (none)) else (none)) = some r := h
 clear h
 obtain ⟨c3, H⟩ := ite_some H
 have c3b0 := eq_true c3
 have c3b1 : decide (0 ≤ (l0.length : Int)) = true := qu c3
 clear c3
 obtain ⟨c4, H⟩ := ite_some H
 have c4b0 := eq_true c4
 have c4b1 : decide (((l0.length : Int) : Int).toNat ≤ 281474976710656) = true := qu c4
 clear c4
 obtain ⟨y546, hy546⟩ : ∃ y_ : List Bool, y_ = (List.replicate ((l0.length : Int) : Int).toNat false) := ⟨_, rfl⟩
 replace H : ((r5Cycles.f k l0).bind fun t549 => (r5critical.l0 k l0 y546 t549 0 a1_0 a1_1)) = some r := by first | (rw [hy546]; with_reducible exact H) | (have H2_ := (Option.bind_some _ _).symm.trans H; rw [hy546]; with_reducible exact H2_) | (have H2_ := (Option.bind_some _ _).symm.trans H; with_reducible exact H2_) | with_reducible exact H | (rw [hy546]; exact H) | exact H
 have Ny546 := xA.mk hy546
 clear hy546
 replace H := qw H
 obtain ⟨t549, A50, H⟩ := H
 replace H : (r5critical.l0 k l0 y546 t549 0 a1_0 a1_1) = some r := H
 have A5 := xA.mk A50
 clear A50
 have H' := xA.mk H
 clear H
 go_enter Try.func51, Try.ntmps51
 go_wp2_with (first | ((with_reducible refine xW (N := 3) rfl ?_); refine xY ?hg (N := 3) ?hd (cs := #[.int .i64 a1_0, .int .i64 a1_1]) (t := 37) ?hr ?_; (case hd => rfl); (case hg => rfl); (case hr => first | (go_simp; done) | (go_simp; rfl)); intro gb545 hg w6 hbox hb; have n0_ := xA.mk (xE qa hb); have n1_ := xA.mk (hbox); have n2_ := xA.mk ((by rw [hg]; exact (xC qa) : w.heap.size ≤ gb545)); have n3_ := xA.mk ((by rw [hg]; exact (xC qa) : w.heap.size ≤ gb545)); clear HB; have HB := n0_; have BK545 := n1_; have GW545 := n2_; have GE545 := n3_; clear n0_ n1_ n2_ n3_; clear hb hbox hg) | ((with_reducible refine xW (N := 13) rfl ?_); refine Kd.R_make Kd.bool _ 4 rfl (N := 13) rfl 91 _ _ rfl (l0.length : Int) rfl rfl Try.underlying91 (.bool false) 1 info4 rfl (by decide) jj false (ok := fun _ => True) (okp := fun _ => True) rfl (fun _ hk => hk) trivial (qr) (Nat.le_trans (Nat.mul_le_mul_right _ (qr : (l0.length : Int).toNat ≤ 281474976710656)) jj) (Below.refl _ _) (Nat.le_refl _) ?_; intro v547 w7 ho8 hb hg_ hnew_; clear hg_ hnew_; (first | rw [← Ny546.out] at ho8 | (simp only [Int.reduceToNat] at ho8; rw [← Ny546.out] at ho8)); have HO548 := xA.mk (Kd.R_lower ho8 (xC (qo GE545.out))); replace BK545 := xA.mk (xN (g := gb545) (o := .cells #[.int .i64 a1_0, .int .i64 a1_1] 37 (0, 0)) (qn BK545.out) hb); replace HB := xA.mk (xE (qo GE545.out) hb); clear hb ho8) | (go_at_call 86; (with_reducible refine (r5Cycles.calls k _ _ l0 t549 _ ?side1 ?side2 A5.out).mono ?_); (case side1 => exact qm (Kd.xR HR0.out HB.out)); (case side2 => exact HC0.out); rintro e w9 ⟨v550, rfl, ho0, hb⟩; have HO551 := xA.mk (Kd.N_lower (Kd.N_mono (ok' := fun k_ => some k_ ≠ (v547 : Value).ownBlock ∧ k_ ≠ gb545) ho0 (fun k_ hk_ => ⟨(Kd.fresh' (Kd.R_lt (qi HO548.out)) k_ hk_), (Kd.freshB (g := gb545) (o := .cells #[.int .i64 a1_0, .int .i64 a1_1] 37 (0, 0)) (qn BK545.out) k_ hk_)⟩)) (xC (qo GE545.out))); replace HO548 := xA.mk (Kd.R_below (qi HO548.out) hb); replace BK545 := xA.mk (xN (g := gb545) (o := .cells #[.int .i64 a1_0, .int .i64 a1_1] 37 (0, 0)) (qn BK545.out) hb); replace HB := xA.mk (xE (qo GE545.out) hb); (try clear hb); (try clear hb2); (try clear hk); (try clear hi); (try clear ho0)))
 repeat (go_quiet (first | ((with_reducible refine xW (N := 3) rfl ?_); refine xY ?hg (N := 3) ?hd (cs := #[.int .i64 a1_0, .int .i64 a1_1]) (t := 37) ?hr ?_; (case hd => rfl); (case hg => rfl); (case hr => first | (go_simp; done) | (go_simp; rfl)); intro gb545 hg w6 hbox hb; have n0_ := xA.mk (xE qa hb); have n1_ := xA.mk (hbox); have n2_ := xA.mk ((by rw [hg]; exact (xC qa) : w.heap.size ≤ gb545)); have n3_ := xA.mk ((by rw [hg]; exact (xC qa) : w.heap.size ≤ gb545)); clear HB; have HB := n0_; have BK545 := n1_; have GW545 := n2_; have GE545 := n3_; clear n0_ n1_ n2_ n3_; clear hb hbox hg) | ((with_reducible refine xW (N := 13) rfl ?_); refine Kd.R_make Kd.bool _ 4 rfl (N := 13) rfl 91 _ _ rfl (l0.length : Int) rfl rfl Try.underlying91 (.bool false) 1 info4 rfl (by decide) jj false (ok := fun _ => True) (okp := fun _ => True) rfl (fun _ hk => hk) trivial (qr) (Nat.le_trans (Nat.mul_le_mul_right _ (qr : (l0.length : Int).toNat ≤ 281474976710656)) jj) (Below.refl _ _) (Nat.le_refl _) ?_; intro v547 w7 ho8 hb hg_ hnew_; clear hg_ hnew_; (first | rw [← Ny546.out] at ho8 | (simp only [Int.reduceToNat] at ho8; rw [← Ny546.out] at ho8)); have HO548 := xA.mk (Kd.R_lower ho8 (xC (qo GE545.out))); replace BK545 := xA.mk (xN (g := gb545) (o := .cells #[.int .i64 a1_0, .int .i64 a1_1] 37 (0, 0)) (qn BK545.out) hb); replace HB := xA.mk (xE (qo GE545.out) hb); clear hb ho8) | (go_at_call 86; (with_reducible refine (r5Cycles.calls k _ _ l0 t549 _ ?side1 ?side2 A5.out).mono ?_); (case side1 => exact qm (Kd.xR HR0.out HB.out)); (case side2 => exact HC0.out); rintro e w9 ⟨v550, rfl, ho0, hb⟩; have HO551 := xA.mk (Kd.N_lower (Kd.N_mono (ok' := fun k_ => some k_ ≠ (v547 : Value).ownBlock ∧ k_ ≠ gb545) ho0 (fun k_ hk_ => ⟨(Kd.fresh' (Kd.R_lt (qi HO548.out)) k_ hk_), (Kd.freshB (g := gb545) (o := .cells #[.int .i64 a1_0, .int .i64 a1_1] 37 (0, 0)) (qn BK545.out) k_ hk_)⟩)) (xC (qo GE545.out))); replace HO548 := xA.mk (Kd.R_below (qi HO548.out) hb); replace BK545 := xA.mk (xN (g := gb545) (o := .cells #[.int .i64 a1_0, .int .i64 a1_1] 37 (0, 0)) (qn BK545.out) hb); replace HB := xA.mk (xE (qo GE545.out) hb); (try clear hb); (try clear hb2); (try clear hk); (try clear hi); (try clear ho0))); try go_wp2_with (first | ((with_reducible refine xW (N := 3) rfl ?_); refine xY ?hg (N := 3) ?hd (cs := #[.int .i64 a1_0, .int .i64 a1_1]) (t := 37) ?hr ?_; (case hd => rfl); (case hg => rfl); (case hr => first | (go_simp; done) | (go_simp; rfl)); intro gb545 hg w6 hbox hb; have n0_ := xA.mk (xE qa hb); have n1_ := xA.mk (hbox); have n2_ := xA.mk ((by rw [hg]; exact (xC qa) : w.heap.size ≤ gb545)); have n3_ := xA.mk ((by rw [hg]; exact (xC qa) : w.heap.size ≤ gb545)); clear HB; have HB := n0_; have BK545 := n1_; have GW545 := n2_; have GE545 := n3_; clear n0_ n1_ n2_ n3_; clear hb hbox hg) | ((with_reducible refine xW (N := 13) rfl ?_); refine Kd.R_make Kd.bool _ 4 rfl (N := 13) rfl 91 _ _ rfl (l0.length : Int) rfl rfl Try.underlying91 (.bool false) 1 info4 rfl (by decide) jj false (ok := fun _ => True) (okp := fun _ => True) rfl (fun _ hk => hk) trivial (qr) (Nat.le_trans (Nat.mul_le_mul_right _ (qr : (l0.length : Int).toNat ≤ 281474976710656)) jj) (Below.refl _ _) (Nat.le_refl _) ?_; intro v547 w7 ho8 hb hg_ hnew_; clear hg_ hnew_; (first | rw [← Ny546.out] at ho8 | (simp only [Int.reduceToNat] at ho8; rw [← Ny546.out] at ho8)); have HO548 := xA.mk (Kd.R_lower ho8 (xC (qo GE545.out))); replace BK545 := xA.mk (xN (g := gb545) (o := .cells #[.int .i64 a1_0, .int .i64 a1_1] 37 (0, 0)) (qn BK545.out) hb); replace HB := xA.mk (xE (qo GE545.out) hb); clear hb ho8) | (go_at_call 86; (with_reducible refine (r5Cycles.calls k _ _ l0 t549 _ ?side1 ?side2 A5.out).mono ?_); (case side1 => exact qm (Kd.xR HR0.out HB.out)); (case side2 => exact HC0.out); rintro e w9 ⟨v550, rfl, ho0, hb⟩; have HO551 := xA.mk (Kd.N_lower (Kd.N_mono (ok' := fun k_ => some k_ ≠ (v547 : Value).ownBlock ∧ k_ ≠ gb545) ho0 (fun k_ hk_ => ⟨(Kd.fresh' (Kd.R_lt (qi HO548.out)) k_ hk_), (Kd.freshB (g := gb545) (o := .cells #[.int .i64 a1_0, .int .i64 a1_1] 37 (0, 0)) (qn BK545.out) k_ hk_)⟩)) (xC (qo GE545.out))); replace HO548 := xA.mk (Kd.R_below (qi HO548.out) hb); replace BK545 := xA.mk (xN (g := gb545) (o := .cells #[.int .i64 a1_0, .int .i64 a1_1] 37 (0, 0)) (qn BK545.out) hb); replace HB := xA.mk (xE (qo GE545.out) hb); (try clear hb); (try clear hb2); (try clear hk); (try clear hi); (try clear ho0))))
 go_loopg [7] k (fun kq v7 w' => ∃ (x5_1 : List Bool) (x7_1 : Int), v7 = .int .i64 x7_1 ∧ xA (r5critical.l0 kq l0 x5_1 t549 x7_1 a1_0 a1_1 = some r) ∧ xA (kq ≤ k) ∧ xA (Kd.R Kd.bool 4 w' w.heap.size (fun _ => True) v547 x5_1) ∧ xA (Kd.N (Kd.slice 3 (Kd.int .i64)) 26 w' w.heap.size (fun k_ => some k_ ≠ (v547 : Value).ownBlock ∧ k_ ≠ gb545) v550 t549) ∧ xA (w'.heap[gb545]? = some (.cells #[.int .i64 a1_0, .int .i64 a1_1] 37 (0, 0))) ∧ xA (Below w.heap.size w w'))
 case atStart => exact ⟨(y546), (0), qf, H', ⟨Nat.le_refl _⟩, ⟨qi HO548.out⟩, ⟨qk HO551.out⟩, ⟨qn BK545.out⟩, ⟨qo GE545.out⟩⟩
 case round =>
  clear H'
  try clear p2
  try clear c3
  try clear c3b0
  try clear c3b1
  try clear c4
  try clear c4b0
  try clear c4b1
  try clear c5
  obtain ⟨x5_1, x7_1, rfl, HA, HK1, HO_5, HO_6, BK545, HB⟩ := hrel
  obtain _ | k1 := gk
  · exact absurd HA.out (by simp [r5critical.l0])
  have H := HA.out
  clear HA
  simp only [r5critical.l0] at H
  obtain ⟨c10b0, H⟩ | ⟨c10b0, H⟩ := itd_or H
  rotate_left
  ·
   have H' := xA.mk H
   clear H
   obtain ⟨Ao27, co27, eo27⟩ := Kd.N_slice HO_6.out
   subst eo27
   go_wp2
   go_loopg [9, 10] k1 (fun kq v9 v10 w' => ∃ (x9_2 : List Int) (x10_2 : Int), v10 = .int .i64 x10_2 ∧ xA (r5critical.l2 kq x5_1 x9_2 x10_2 = some r) ∧ xA (kq ≤ k1) ∧ xA (Kd.R Kd.bool 4 w' w.heap.size (fun _ => True) v547 x5_1) ∧ xA (Kd.R (Kd.int .i64) 3 w' w.heap.size (fun _ => True) v9 x9_2) ∧ xA (w'.heap[gb545]? = some (.cells #[.int .i64 a1_0, .int .i64 a1_1] 37 (0, 0))) ∧ xA (Below w.heap.size w w'))
   case atStart => exact ⟨(([] : List Int)), (0), rfl, H', ⟨Nat.le_refl _⟩, ⟨by exact HO_5.out⟩, ⟨by first | exact Kd.R_nil _ _ _ _ _ | exact Kd.N_nil _ _ _ _ _ | exact Kd.V_nil _ _ _ _ _ | exact Kd.Q_nil _ _ _ _ _ | exact Kd.S_nil _ _ _ _ _⟩, ⟨by exact BK545.out⟩, ⟨HB.out⟩⟩
   case round =>
    clear H'
    obtain ⟨x9_2, x10_2, rfl, HA, HK2, HO_5, HO_9, BK545, HB⟩ := hrel
    obtain _ | k2 := gk
    · exact absurd HA.out (by simp [r5critical.l2])
    have H := HA.out
    clear HA
    simp only [r5critical.l2] at H
    obtain ⟨c28b0, H⟩ | ⟨c28b0, H⟩ := itd_or H
    rotate_left
    ·
     obtain rfl := qx H
     obtain ⟨Ao36, co36, eo36⟩ := Kd.R_slice HO_5.out
     subst eo36
     go_wp2
     go_ret
     exact ⟨_, rfl, by exact HO_9.out, HB.out⟩
    obtain ⟨c29b0, H⟩ := xK H
    obtain ⟨bq30, hbq30⟩ : ∃ b_ : Bool, b_ = (rdOf false x5_1 x10_2) := ⟨_, rfl⟩
    replace H : (if bq30 = true then (if x9_2.length < 17592186044416 then (r5critical.l2 k2 x5_1 (x9_2 ++ [x10_2]) (wrap64 (x10_2 + 1))) else (none)) else (r5critical.l2 k2 x5_1 x9_2 (wrap64 (x10_2 + 1)))) = some r := by rw [← hbq30] at H; exact H
    have Nbq30 := xA.mk hbq30
    clear hbq30
    by_cases c31 : bq30 = true
    rotate_left
    ·
     replace c31 := Bool.eq_false_iff.mpr c31
     subst c31
     have H1 : (r5critical.l2 k2 x5_1 x9_2 (wrap64 (x10_2 + 1))) = some r := by rw [if_neg (show ¬ (false = true) by decide)] at H; exact H
     clear H
     have H := H1
     clear H1
     have H' := xA.mk H
     clear H
     obtain ⟨Ao35, co35, eo35⟩ := Kd.R_slice HO_5.out
     subst eo35
     have p559 : 0 ≤ (x10_2 : Int) := qq
     have q559 : x10_2 < (x5_1.length : Int) := qq
     obtain ⟨ad559, e559, hx559_0⟩ := Kd.at_bool (Kd.yA HO_5.out).2.2 x10_2 p559 q559
     (try rw [← Nbq30.out] at hx559_0)
     cases e559
     replace p559 := eq_true p559
     replace q559 := eq_true q559
     go_wp2
     go_roundg k2
     case measure => have := HK1.out; have := HK2.out; omega
     case rel => exact ⟨(x9_2), (wrap64 (x10_2 + 1)), rfl, H', ⟨by have := HK1.out; have := HK2.out; omega⟩, ⟨by exact HO_5.out⟩, ⟨by exact HO_9.out⟩, ⟨by exact BK545.out⟩, ⟨HB.out⟩⟩
    subst c31
    have H1 : (if x9_2.length < 17592186044416 then (r5critical.l2 k2 x5_1 (x9_2 ++ [x10_2]) (wrap64 (x10_2 + 1))) else (none)) = some r := by rw [if_pos rfl] at H; exact H
    clear H
    have H := H1
    clear H1
    obtain ⟨c32, H⟩ := ite_some H
    have LMc32 := xA.mk c32
    clear c32
    obtain ⟨y560, hy560⟩ : ∃ y_ : List Int, y_ = (x9_2 ++ [x10_2]) := ⟨_, rfl⟩
    replace H : (r5critical.l2 k2 x5_1 y560 (wrap64 (x10_2 + 1))) = some r := by rw [hy560]; exact H
    have Ny560 := xA.mk hy560
    clear hy560
    have H' := xA.mk H
    clear H
    obtain ⟨Ao33, co33, eo33⟩ := Kd.R_slice HO_5.out
    subst eo33
    have p559 : 0 ≤ (x10_2 : Int) := qq
    have q559 : x10_2 < (x5_1.length : Int) := qq
    obtain ⟨ad559, e559, hx559_0⟩ := Kd.at_bool (Kd.yA HO_5.out).2.2 x10_2 p559 q559
    (try rw [← Nbq30.out] at hx559_0)
    cases e559
    replace p559 := eq_true p559
    replace q559 := eq_true q559
    go_wp2_with (first | ((with_reducible refine gate_builtin (b := .append) (xs := #[.tmp 68, .tmp 70]) rfl ?_); at_builtin; refine Kd.R_append (Kd.int .i64) (w0 := w) w.heap.size rfl (.tmp 68) (.tmp 70) 26 3 (.int .i64 0) 8 rfl Try.underlying26 info3 rfl (by decide) jj u9 x9_2 x10_2 [.int .i64 x10_2] (fun _ => True) (fun _ => False) rfl rfl ?aP (fun _ hk => hk.elim) ?aF ?aO ?aB ?aS ?aL ?_; (case aP => exact rfl); (case aB => exact (HB.out)); (case aF => exact (fun _ _ => trivial)); (case aO => exact (by exact HO_9.out)); (case aS => exact (xC (HB.out))); (case aL => have := LMc32.out; omega); intro v561 w34 ho hb hg hat; rw [← Ny560.out] at ho; have n0_ := xA.mk (Kd.R_over' (by exact HO_5.out) (Kd.R_typed (by exact HO_9.out)) (by decide) hg); have n1_ := xA.mk (blk_grown (g := gb545) (o := .cells #[.int .i64 a1_0, .int .i64 a1_1] 37 (0, 0)) (by exact BK545.out) hg (Kd.R_ne HO_9.out BK545.out (by decide))); have n2_ := xA.mk (hb); have n3_ := xA.mk (ho); clear HO_5; clear BK545; clear HB; clear HO_9; have HO_5 := n0_; have BK545 := n1_; have HB := n2_; have HO562 := n3_; clear n0_ n1_ n2_ n3_; clear ho hb hg hat))
    go_roundg k2
    case measure => have := HK1.out; have := HK2.out; omega
    case rel => exact ⟨(y560), (wrap64 (x10_2 + 1)), rfl, H', ⟨by have := HK1.out; have := HK2.out; omega⟩, ⟨by exact HO_5.out⟩, ⟨by exact HO562.out⟩, ⟨by exact BK545.out⟩, ⟨HB.out⟩⟩
  obtain ⟨c11b0, H⟩ := xK H
  replace H := qw H
  obtain ⟨t553, A120, H⟩ := H
  replace H : (if (wrap64 (t553 * a1_1)) = (wrap64 (a1_0 * ((rd_L1 t549 x7_1).length : Int))) then (r5critical.l1 k1 l0 x5_1 t549 x7_1 0 a1_0 a1_1) else (r5critical.l0 k1 l0 x5_1 t549 (wrap64 (x7_1 + 1)) a1_0 a1_1)) = some r := H
  have A12 := xA.mk A120
  clear A120
  by_cases c13 : (wrap64 (t553 * a1_1)) = (wrap64 (a1_0 * ((rd_L1 t549 x7_1).length : Int)))
  rotate_left
  ·
   rw [if_neg c13] at H
   have c13b0 : ((wrap64 (t553 * a1_1)) == (wrap64 (a1_0 * ((rd_L1 t549 x7_1).length : Int)))) = false := jg c13
   have c13b0w : ((IntKind.i64.wrap (t553 * a1_1)) == (IntKind.i64.wrap (a1_0 * ((rd_L1 t549 x7_1).length : Int)))) = false := by simp only [i64_w]; exact c13b0
   have c13b1 : ((wrap64 (t553 * a1_1)) != (wrap64 (a1_0 * ((rd_L1 t549 x7_1).length : Int)))) = true := bne_iff_ne.mpr c13
   have c13b1w : ((IntKind.i64.wrap (t553 * a1_1)) != (IntKind.i64.wrap (a1_0 * ((rd_L1 t549 x7_1).length : Int)))) = true := by simp only [i64_w]; exact c13b1
   have H' := xA.mk H
   clear H
   obtain ⟨Ao25, co25, eo25⟩ := Kd.N_slice HO_6.out
   subst eo25
   have p552 : 0 ≤ (x7_1 : Int) := qr
   have q552 : x7_1 < (t549.length : Int) := qr
   obtain ⟨ad552, A552_0, c552_0, e552, hx552_0, hl552_0, hi552_0⟩ := at_L1 (Kd.yB HO_6.out).2.2 x7_1 p552 q552
   cases e552
   obtain ⟨ce552, hce552, hMe552, hcc552⟩ := Kd.N_get HO_6.out [] x7_1 p552 (by first | exact q552 | exact qr | (have e_ := (Kd.yB HO_6.out).1; omega))
   obtain ⟨ua552_0, uc552_0, rfl, ul552_0, ge552_0⟩ := Kd.yC hMe552
   have hv552_0 := hcc552 0 _ rfl
   rw [Nat.add_zero, show ((Kd.slice 3 (Kd.int .i64))).sz = 1 from rfl, Nat.mul_one] at hv552_0
   replace hv552_0 := qx (hv552_0.symm.trans hx552_0)
   injection hv552_0 with hva_ hvn_ hvc_
   rw [hva_] at ge552_0
   rw [hvc_] at ul552_0
   have HL552_0 := xA.mk (show Kd.V (Kd.int .i64) 3 _ w.heap.size _ _ (rd_L1 t549 x7_1) from Kd.V_mk ul552_0 ge552_0)
   clear hva_ hvn_ hvc_ ge552_0 ul552_0
   clear hcc552 hce552
   have HR552_0 := xA.mk hi552_0
   have HC552_0 := xA.mk hl552_0
   clear hi552_0 hl552_0
   replace p552 := eq_true p552
   replace q552 := eq_true q552
   go_wp2_with (first | (go_at_call 73; (with_reducible refine (r5weight.calls k1 _ _ l0 _ _ (rd_L1 t549 x7_1) t553 _ ?side1 ?side2 ?side3 ?side4 A12.out).mono ?_); (case side1 => exact qm (Kd.xR HR0.out HB.out)); (case side2 => exact HC0.out); (case side3 => repeat (first | exact (by repeat (first | (with_reducible exact HR552_0.out) | (with_reducible refine Kd.C_alloc ?_ _) | (with_reducible refine Kd.C_drewN ?_ _) | (with_reducible refine Kd.C_drew ?_) | exact HR552_0.out)) | (with_reducible refine Kd.C_alloc ?_ _) | (with_reducible refine Kd.C_drewN ?_ _) | (with_reducible refine Kd.C_drew ?_))); (case side4 => exact HC552_0.out); rintro e w' ⟨rfl, ⟨nd, rfl⟩⟩; (try exact qp); have hcz26_0 : wr.cell? ⟨gb545, 0, none⟩ = some (.int .i64 a1_0) := (xB BK545.out 0).trans rfl; have hcz26_1 : wr.cell? ⟨gb545, 1, none⟩ = some (.int .i64 a1_1) := (xB BK545.out 1).trans rfl; have hfz26_0 := xD BK545.out 0; have hfz26_1 := xD BK545.out 1; have p554 : 0 ≤ (x7_1 : Int) := qr; have q554 : x7_1 < (t549.length : Int) := qr; obtain ⟨ad554, A554_0, c554_0, e554, hx554_0, hl554_0, hi554_0⟩ := at_L1 (Kd.yB HO_6.out).2.2 x7_1 p554 q554; obtain rfl : ad552 = ad554 := (by injection e554); obtain ⟨ce554, hce554, hMe554, hcc554⟩ := Kd.N_get HO_6.out [] x7_1 p554 (by first | exact q554 | exact qr | (have e_ := (Kd.yB HO_6.out).1; omega)); obtain ⟨ua554_0, uc554_0, rfl, ul554_0, ge554_0⟩ := Kd.yC hMe554; have hv554_0 := hcc554 0 _ rfl; rw [Nat.add_zero, show ((Kd.slice 3 (Kd.int .i64))).sz = 1 from rfl, Nat.mul_one] at hv554_0; replace hv554_0 := qx (hv554_0.symm.trans hx554_0); injection hv554_0 with hva_ hvn_ hvc_; rw [hva_] at ge554_0; rw [hvc_] at ul554_0; have HL554_0 := xA.mk (show Kd.V (Kd.int .i64) 3 _ w.heap.size _ _ (rd_L1 t549 x7_1) from Kd.V_mk ul554_0 ge554_0); clear hva_ hvn_ hvc_ ge554_0 ul554_0; clear hcc554 hce554; have HR554_0 := xA.mk hi554_0; have HC554_0 := xA.mk hl554_0; clear hi554_0 hl554_0; replace p554 := eq_true p554; replace q554 := eq_true q554; have ea_ := qx (hx552_0.symm.trans hx554_0); injection ea_ with ea_ en_ ec_; subst ea_; subst ec_; clear en_))
   repeat (go_quiet (first | (go_at_call 73; (with_reducible refine (r5weight.calls k1 _ _ l0 _ _ (rd_L1 t549 x7_1) t553 _ ?side1 ?side2 ?side3 ?side4 A12.out).mono ?_); (case side1 => exact qm (Kd.xR HR0.out HB.out)); (case side2 => exact HC0.out); (case side3 => repeat (first | exact (by repeat (first | (with_reducible exact HR552_0.out) | (with_reducible refine Kd.C_alloc ?_ _) | (with_reducible refine Kd.C_drewN ?_ _) | (with_reducible refine Kd.C_drew ?_) | exact HR552_0.out)) | (with_reducible refine Kd.C_alloc ?_ _) | (with_reducible refine Kd.C_drewN ?_ _) | (with_reducible refine Kd.C_drew ?_))); (case side4 => exact HC552_0.out); rintro e w' ⟨rfl, ⟨nd, rfl⟩⟩; (try exact qp); have hcz26_0 : wr.cell? ⟨gb545, 0, none⟩ = some (.int .i64 a1_0) := (xB BK545.out 0).trans rfl; have hcz26_1 : wr.cell? ⟨gb545, 1, none⟩ = some (.int .i64 a1_1) := (xB BK545.out 1).trans rfl; have hfz26_0 := xD BK545.out 0; have hfz26_1 := xD BK545.out 1; have p554 : 0 ≤ (x7_1 : Int) := qr; have q554 : x7_1 < (t549.length : Int) := qr; obtain ⟨ad554, A554_0, c554_0, e554, hx554_0, hl554_0, hi554_0⟩ := at_L1 (Kd.yB HO_6.out).2.2 x7_1 p554 q554; obtain rfl : ad552 = ad554 := (by injection e554); obtain ⟨ce554, hce554, hMe554, hcc554⟩ := Kd.N_get HO_6.out [] x7_1 p554 (by first | exact q554 | exact qr | (have e_ := (Kd.yB HO_6.out).1; omega)); obtain ⟨ua554_0, uc554_0, rfl, ul554_0, ge554_0⟩ := Kd.yC hMe554; have hv554_0 := hcc554 0 _ rfl; rw [Nat.add_zero, show ((Kd.slice 3 (Kd.int .i64))).sz = 1 from rfl, Nat.mul_one] at hv554_0; replace hv554_0 := qx (hv554_0.symm.trans hx554_0); injection hv554_0 with hva_ hvn_ hvc_; rw [hva_] at ge554_0; rw [hvc_] at ul554_0; have HL554_0 := xA.mk (show Kd.V (Kd.int .i64) 3 _ w.heap.size _ _ (rd_L1 t549 x7_1) from Kd.V_mk ul554_0 ge554_0); clear hva_ hvn_ hvc_ ge554_0 ul554_0; clear hcc554 hce554; have HR554_0 := xA.mk hi554_0; have HC554_0 := xA.mk hl554_0; clear hi554_0 hl554_0; replace p554 := eq_true p554; replace q554 := eq_true q554; have ea_ := qx (hx552_0.symm.trans hx554_0); injection ea_ with ea_ en_ ec_; subst ea_; subst ec_; clear en_)); try go_wp2_with (first | (go_at_call 73; (with_reducible refine (r5weight.calls k1 _ _ l0 _ _ (rd_L1 t549 x7_1) t553 _ ?side1 ?side2 ?side3 ?side4 A12.out).mono ?_); (case side1 => exact qm (Kd.xR HR0.out HB.out)); (case side2 => exact HC0.out); (case side3 => repeat (first | exact (by repeat (first | (with_reducible exact HR552_0.out) | (with_reducible refine Kd.C_alloc ?_ _) | (with_reducible refine Kd.C_drewN ?_ _) | (with_reducible refine Kd.C_drew ?_) | exact HR552_0.out)) | (with_reducible refine Kd.C_alloc ?_ _) | (with_reducible refine Kd.C_drewN ?_ _) | (with_reducible refine Kd.C_drew ?_))); (case side4 => exact HC552_0.out); rintro e w' ⟨rfl, ⟨nd, rfl⟩⟩; (try exact qp); have hcz26_0 : wr.cell? ⟨gb545, 0, none⟩ = some (.int .i64 a1_0) := (xB BK545.out 0).trans rfl; have hcz26_1 : wr.cell? ⟨gb545, 1, none⟩ = some (.int .i64 a1_1) := (xB BK545.out 1).trans rfl; have hfz26_0 := xD BK545.out 0; have hfz26_1 := xD BK545.out 1; have p554 : 0 ≤ (x7_1 : Int) := qr; have q554 : x7_1 < (t549.length : Int) := qr; obtain ⟨ad554, A554_0, c554_0, e554, hx554_0, hl554_0, hi554_0⟩ := at_L1 (Kd.yB HO_6.out).2.2 x7_1 p554 q554; obtain rfl : ad552 = ad554 := (by injection e554); obtain ⟨ce554, hce554, hMe554, hcc554⟩ := Kd.N_get HO_6.out [] x7_1 p554 (by first | exact q554 | exact qr | (have e_ := (Kd.yB HO_6.out).1; omega)); obtain ⟨ua554_0, uc554_0, rfl, ul554_0, ge554_0⟩ := Kd.yC hMe554; have hv554_0 := hcc554 0 _ rfl; rw [Nat.add_zero, show ((Kd.slice 3 (Kd.int .i64))).sz = 1 from rfl, Nat.mul_one] at hv554_0; replace hv554_0 := qx (hv554_0.symm.trans hx554_0); injection hv554_0 with hva_ hvn_ hvc_; rw [hva_] at ge554_0; rw [hvc_] at ul554_0; have HL554_0 := xA.mk (show Kd.V (Kd.int .i64) 3 _ w.heap.size _ _ (rd_L1 t549 x7_1) from Kd.V_mk ul554_0 ge554_0); clear hva_ hvn_ hvc_ ge554_0 ul554_0; clear hcc554 hce554; have HR554_0 := xA.mk hi554_0; have HC554_0 := xA.mk hl554_0; clear hi554_0 hl554_0; replace p554 := eq_true p554; replace q554 := eq_true q554; have ea_ := qx (hx552_0.symm.trans hx554_0); injection ea_ with ea_ en_ ec_; subst ea_; subst ec_; clear en_)))
   go_roundg k1
   case measure => have := HK1.out; omega
   case rel => exact ⟨(x5_1), (wrap64 (x7_1 + 1)), qf, H', ⟨by have := HK1.out; omega⟩, ⟨qi HO_5.out⟩, ⟨qk HO_6.out⟩, ⟨qn BK545.out⟩, ⟨qo GE545.out⟩⟩
  rw [if_pos c13] at H
  have c13b0 : ((wrap64 (t553 * a1_1)) == (wrap64 (a1_0 * ((rd_L1 t549 x7_1).length : Int)))) = true := beq_iff_eq.mpr c13
  have c13b0w : ((IntKind.i64.wrap (t553 * a1_1)) == (IntKind.i64.wrap (a1_0 * ((rd_L1 t549 x7_1).length : Int)))) = true := by simp only [i64_w]; exact c13b0
  have c13b1 : ((wrap64 (t553 * a1_1)) != (wrap64 (a1_0 * ((rd_L1 t549 x7_1).length : Int)))) = false := bne_eq_false_iff_eq.mpr c13
  have c13b1w : ((IntKind.i64.wrap (t553 * a1_1)) != (IntKind.i64.wrap (a1_0 * ((rd_L1 t549 x7_1).length : Int)))) = false := by simp only [i64_w]; exact c13b1
  clear c13
  have H' := xA.mk H
  clear H
  obtain ⟨Ao14, co14, eo14⟩ := Kd.N_slice HO_6.out
  subst eo14
  have p552 : 0 ≤ (x7_1 : Int) := qr
  have q552 : x7_1 < (t549.length : Int) := qr
  obtain ⟨ad552, A552_0, c552_0, e552, hx552_0, hl552_0, hi552_0⟩ := at_L1 (Kd.yB HO_6.out).2.2 x7_1 p552 q552
  cases e552
  obtain ⟨ce552, hce552, hMe552, hcc552⟩ := Kd.N_get HO_6.out [] x7_1 p552 (by first | exact q552 | exact qr | (have e_ := (Kd.yB HO_6.out).1; omega))
  obtain ⟨ua552_0, uc552_0, rfl, ul552_0, ge552_0⟩ := Kd.yC hMe552
  have hv552_0 := hcc552 0 _ rfl
  rw [Nat.add_zero, show ((Kd.slice 3 (Kd.int .i64))).sz = 1 from rfl, Nat.mul_one] at hv552_0
  replace hv552_0 := qx (hv552_0.symm.trans hx552_0)
  injection hv552_0 with hva_ hvn_ hvc_
  rw [hva_] at ge552_0
  rw [hvc_] at ul552_0
  have HL552_0 := xA.mk (show Kd.V (Kd.int .i64) 3 _ w.heap.size _ _ (rd_L1 t549 x7_1) from Kd.V_mk ul552_0 ge552_0)
  clear hva_ hvn_ hvc_ ge552_0 ul552_0
  clear hcc552 hce552
  have HR552_0 := xA.mk hi552_0
  have HC552_0 := xA.mk hl552_0
  clear hi552_0 hl552_0
  replace p552 := eq_true p552
  replace q552 := eq_true q552
  go_wp2_with (first | (go_at_call 73; (with_reducible refine (r5weight.calls k1 _ _ l0 _ _ (rd_L1 t549 x7_1) t553 _ ?side1 ?side2 ?side3 ?side4 A12.out).mono ?_); (case side1 => exact qm (Kd.xR HR0.out HB.out)); (case side2 => exact HC0.out); (case side3 => repeat (first | exact (by repeat (first | (with_reducible exact HR552_0.out) | (with_reducible refine Kd.C_alloc ?_ _) | (with_reducible refine Kd.C_drewN ?_ _) | (with_reducible refine Kd.C_drew ?_) | exact HR552_0.out)) | (with_reducible refine Kd.C_alloc ?_ _) | (with_reducible refine Kd.C_drewN ?_ _) | (with_reducible refine Kd.C_drew ?_))); (case side4 => exact HC552_0.out); rintro e w' ⟨rfl, ⟨nd, rfl⟩⟩; (try exact qp); have hcz15_0 : wr.cell? ⟨gb545, 0, none⟩ = some (.int .i64 a1_0) := (xB BK545.out 0).trans rfl; have hcz15_1 : wr.cell? ⟨gb545, 1, none⟩ = some (.int .i64 a1_1) := (xB BK545.out 1).trans rfl; have hfz15_0 := xD BK545.out 0; have hfz15_1 := xD BK545.out 1; have p554 : 0 ≤ (x7_1 : Int) := qr; have q554 : x7_1 < (t549.length : Int) := qr; obtain ⟨ad554, A554_0, c554_0, e554, hx554_0, hl554_0, hi554_0⟩ := at_L1 (Kd.yB HO_6.out).2.2 x7_1 p554 q554; obtain rfl : ad552 = ad554 := (by injection e554); obtain ⟨ce554, hce554, hMe554, hcc554⟩ := Kd.N_get HO_6.out [] x7_1 p554 (by first | exact q554 | exact qr | (have e_ := (Kd.yB HO_6.out).1; omega)); obtain ⟨ua554_0, uc554_0, rfl, ul554_0, ge554_0⟩ := Kd.yC hMe554; have hv554_0 := hcc554 0 _ rfl; rw [Nat.add_zero, show ((Kd.slice 3 (Kd.int .i64))).sz = 1 from rfl, Nat.mul_one] at hv554_0; replace hv554_0 := qx (hv554_0.symm.trans hx554_0); injection hv554_0 with hva_ hvn_ hvc_; rw [hva_] at ge554_0; rw [hvc_] at ul554_0; have HL554_0 := xA.mk (show Kd.V (Kd.int .i64) 3 _ w.heap.size _ _ (rd_L1 t549 x7_1) from Kd.V_mk ul554_0 ge554_0); clear hva_ hvn_ hvc_ ge554_0 ul554_0; clear hcc554 hce554; have HR554_0 := xA.mk hi554_0; have HC554_0 := xA.mk hl554_0; clear hi554_0 hl554_0; replace p554 := eq_true p554; replace q554 := eq_true q554; have ea_ := qx (hx552_0.symm.trans hx554_0); injection ea_ with ea_ en_ ec_; subst ea_; subst ec_; clear en_))
  repeat (go_quiet (first | (go_at_call 73; (with_reducible refine (r5weight.calls k1 _ _ l0 _ _ (rd_L1 t549 x7_1) t553 _ ?side1 ?side2 ?side3 ?side4 A12.out).mono ?_); (case side1 => exact qm (Kd.xR HR0.out HB.out)); (case side2 => exact HC0.out); (case side3 => repeat (first | exact (by repeat (first | (with_reducible exact HR552_0.out) | (with_reducible refine Kd.C_alloc ?_ _) | (with_reducible refine Kd.C_drewN ?_ _) | (with_reducible refine Kd.C_drew ?_) | exact HR552_0.out)) | (with_reducible refine Kd.C_alloc ?_ _) | (with_reducible refine Kd.C_drewN ?_ _) | (with_reducible refine Kd.C_drew ?_))); (case side4 => exact HC552_0.out); rintro e w' ⟨rfl, ⟨nd, rfl⟩⟩; (try exact qp); have hcz15_0 : wr.cell? ⟨gb545, 0, none⟩ = some (.int .i64 a1_0) := (xB BK545.out 0).trans rfl; have hcz15_1 : wr.cell? ⟨gb545, 1, none⟩ = some (.int .i64 a1_1) := (xB BK545.out 1).trans rfl; have hfz15_0 := xD BK545.out 0; have hfz15_1 := xD BK545.out 1; have p554 : 0 ≤ (x7_1 : Int) := qr; have q554 : x7_1 < (t549.length : Int) := qr; obtain ⟨ad554, A554_0, c554_0, e554, hx554_0, hl554_0, hi554_0⟩ := at_L1 (Kd.yB HO_6.out).2.2 x7_1 p554 q554; obtain rfl : ad552 = ad554 := (by injection e554); obtain ⟨ce554, hce554, hMe554, hcc554⟩ := Kd.N_get HO_6.out [] x7_1 p554 (by first | exact q554 | exact qr | (have e_ := (Kd.yB HO_6.out).1; omega)); obtain ⟨ua554_0, uc554_0, rfl, ul554_0, ge554_0⟩ := Kd.yC hMe554; have hv554_0 := hcc554 0 _ rfl; rw [Nat.add_zero, show ((Kd.slice 3 (Kd.int .i64))).sz = 1 from rfl, Nat.mul_one] at hv554_0; replace hv554_0 := qx (hv554_0.symm.trans hx554_0); injection hv554_0 with hva_ hvn_ hvc_; rw [hva_] at ge554_0; rw [hvc_] at ul554_0; have HL554_0 := xA.mk (show Kd.V (Kd.int .i64) 3 _ w.heap.size _ _ (rd_L1 t549 x7_1) from Kd.V_mk ul554_0 ge554_0); clear hva_ hvn_ hvc_ ge554_0 ul554_0; clear hcc554 hce554; have HR554_0 := xA.mk hi554_0; have HC554_0 := xA.mk hl554_0; clear hi554_0 hl554_0; replace p554 := eq_true p554; replace q554 := eq_true q554; have ea_ := qx (hx552_0.symm.trans hx554_0); injection ea_ with ea_ en_ ec_; subst ea_; subst ec_; clear en_)); try go_wp2_with (first | (go_at_call 73; (with_reducible refine (r5weight.calls k1 _ _ l0 _ _ (rd_L1 t549 x7_1) t553 _ ?side1 ?side2 ?side3 ?side4 A12.out).mono ?_); (case side1 => exact qm (Kd.xR HR0.out HB.out)); (case side2 => exact HC0.out); (case side3 => repeat (first | exact (by repeat (first | (with_reducible exact HR552_0.out) | (with_reducible refine Kd.C_alloc ?_ _) | (with_reducible refine Kd.C_drewN ?_ _) | (with_reducible refine Kd.C_drew ?_) | exact HR552_0.out)) | (with_reducible refine Kd.C_alloc ?_ _) | (with_reducible refine Kd.C_drewN ?_ _) | (with_reducible refine Kd.C_drew ?_))); (case side4 => exact HC552_0.out); rintro e w' ⟨rfl, ⟨nd, rfl⟩⟩; (try exact qp); have hcz15_0 : wr.cell? ⟨gb545, 0, none⟩ = some (.int .i64 a1_0) := (xB BK545.out 0).trans rfl; have hcz15_1 : wr.cell? ⟨gb545, 1, none⟩ = some (.int .i64 a1_1) := (xB BK545.out 1).trans rfl; have hfz15_0 := xD BK545.out 0; have hfz15_1 := xD BK545.out 1; have p554 : 0 ≤ (x7_1 : Int) := qr; have q554 : x7_1 < (t549.length : Int) := qr; obtain ⟨ad554, A554_0, c554_0, e554, hx554_0, hl554_0, hi554_0⟩ := at_L1 (Kd.yB HO_6.out).2.2 x7_1 p554 q554; obtain rfl : ad552 = ad554 := (by injection e554); obtain ⟨ce554, hce554, hMe554, hcc554⟩ := Kd.N_get HO_6.out [] x7_1 p554 (by first | exact q554 | exact qr | (have e_ := (Kd.yB HO_6.out).1; omega)); obtain ⟨ua554_0, uc554_0, rfl, ul554_0, ge554_0⟩ := Kd.yC hMe554; have hv554_0 := hcc554 0 _ rfl; rw [Nat.add_zero, show ((Kd.slice 3 (Kd.int .i64))).sz = 1 from rfl, Nat.mul_one] at hv554_0; replace hv554_0 := qx (hv554_0.symm.trans hx554_0); injection hv554_0 with hva_ hvn_ hvc_; rw [hva_] at ge554_0; rw [hvc_] at ul554_0; have HL554_0 := xA.mk (show Kd.V (Kd.int .i64) 3 _ w.heap.size _ _ (rd_L1 t549 x7_1) from Kd.V_mk ul554_0 ge554_0); clear hva_ hvn_ hvc_ ge554_0 ul554_0; clear hcc554 hce554; have HR554_0 := xA.mk hi554_0; have HC554_0 := xA.mk hl554_0; clear hi554_0 hl554_0; replace p554 := eq_true p554; replace q554 := eq_true q554; have ea_ := qx (hx552_0.symm.trans hx554_0); injection ea_ with ea_ en_ ec_; subst ea_; subst ec_; clear en_)))
  go_loopg [8] k1 (fun kq v8 w' => ∃ (x5_2 : List Bool) (x8_2 : Int), v8 = .int .i64 x8_2 ∧ xA (r5critical.l1 kq l0 x5_2 t549 x7_1 x8_2 a1_0 a1_1 = some r) ∧ xA (kq ≤ k1) ∧ xA (Kd.R Kd.bool 4 w' w.heap.size (fun _ => True) v547 x5_2) ∧ xA (Kd.N (Kd.slice 3 (Kd.int .i64)) 26 w' w.heap.size (fun k_ => some k_ ≠ (v547 : Value).ownBlock ∧ k_ ≠ gb545) (.slice (some ad552) t549.length co14) t549) ∧ xA (w'.heap[gb545]? = some (.cells #[.int .i64 a1_0, .int .i64 a1_1] 37 (0, 0))) ∧ xA (Below w.heap.size w w'))
  case atStart => exact ⟨(x5_1), (0), qf, H', ⟨Nat.le_refl _⟩, ⟨qi HO_5.out⟩, ⟨qk HO_6.out⟩, ⟨qn BK545.out⟩, ⟨qo GE545.out⟩⟩
  case round =>
   clear H'
   try clear c1
   try clear p2
   try clear c3
   try clear c3b0
   try clear c3b1
   try clear c4
   try clear c4b0
   try clear c4b1
   obtain ⟨x5_2, x8_2, rfl, HA, HK2, HO_5, HO_6, BK545, HB⟩ := hrel
   obtain _ | k2 := gk
   · exact absurd HA.out (by simp [r5critical.l1])
   have H := HA.out
   clear HA
   simp only [r5critical.l1] at H
   obtain ⟨c16b0, H⟩ := xK H
   obtain ⟨c17b0, H⟩ := xK H
   obtain ⟨c18b0, H⟩ | ⟨c18b0, H⟩ := itd_or H
   rotate_left
   ·
    have H' := xA.mk H
    clear H
    have p555 : 0 ≤ (x7_1 : Int) := qr
    have q555 : x7_1 < (t549.length : Int) := qr
    obtain ⟨ad555, A555_0, c555_0, e555, hx555_0, hl555_0, hi555_0⟩ := at_L1 (Kd.yB HO_6.out).2.2 x7_1 p555 q555
    obtain rfl : ad552 = ad555 := (by injection e555)
    obtain ⟨ce555, hce555, hMe555, hcc555⟩ := Kd.N_get HO_6.out [] x7_1 p555 (by first | exact q555 | exact qr | (have e_ := (Kd.yB HO_6.out).1; omega))
    obtain ⟨ua555_0, uc555_0, rfl, ul555_0, ge555_0⟩ := Kd.yC hMe555
    have hv555_0 := hcc555 0 _ rfl
    rw [Nat.add_zero, show ((Kd.slice 3 (Kd.int .i64))).sz = 1 from rfl, Nat.mul_one] at hv555_0
    replace hv555_0 := qx (hv555_0.symm.trans hx555_0)
    injection hv555_0 with hva_ hvn_ hvc_
    rw [hva_] at ge555_0
    rw [hvc_] at ul555_0
    have HL555_0 := xA.mk (show Kd.V (Kd.int .i64) 3 _ w.heap.size _ _ (rd_L1 t549 x7_1) from Kd.V_mk ul555_0 ge555_0)
    clear hva_ hvn_ hvc_ ge555_0 ul555_0
    clear hcc555 hce555
    have HR555_0 := xA.mk hi555_0
    have HC555_0 := xA.mk hl555_0
    clear hi555_0 hl555_0
    replace p555 := eq_true p555
    replace q555 := eq_true q555
    go_wp2
    repeat (go_quiet (fail); try go_wp2)
    go_roundg k2
    case measure => have := HK1.out; have := HK2.out; omega
    case rel => exact ⟨(x5_2), (wrap64 (x7_1 + 1)), qf, H', ⟨by have := HK1.out; have := HK2.out; omega⟩, ⟨qi HO_5.out⟩, ⟨qk HO_6.out⟩, ⟨qn BK545.out⟩, ⟨qo GE545.out⟩⟩
   obtain ⟨c19b0, H⟩ := xK H
   obtain ⟨c20b0, H⟩ := xK H
   obtain ⟨c21b0, H⟩ := xK H
   obtain ⟨y558, hy558⟩ : ∃ y_ : List Bool, y_ = (x5_2.set ((rd (rd_L1 t549 x7_1) x8_2) : Int).toNat true) := ⟨_, rfl⟩
   replace H : (r5critical.l1 k2 l0 y558 t549 x7_1 (wrap64 (x8_2 + 1)) a1_0 a1_1) = some r := by rw [hy558]; exact H
   have Ny558 := xA.mk hy558
   clear hy558
   have H' := xA.mk H
   clear H
   have p555 : 0 ≤ (x7_1 : Int) := qq
   have q555 : x7_1 < (t549.length : Int) := qq
   obtain ⟨ad555, A555_0, c555_0, e555, hx555_0, hl555_0, hi555_0⟩ := at_L1 (Kd.yB HO_6.out).2.2 x7_1 p555 q555
   obtain rfl : ad552 = ad555 := (by injection e555)
   obtain ⟨ce555, hce555, hMe555, hcc555⟩ := Kd.N_get HO_6.out [] x7_1 p555 (by first | exact q555 | exact qq | (have e_ := (Kd.yB HO_6.out).1; omega))
   obtain ⟨ua555_0, uc555_0, rfl, ul555_0, ge555_0⟩ := Kd.yC hMe555
   have hv555_0 := hcc555 0 _ rfl
   rw [Nat.add_zero, show ((Kd.slice 3 (Kd.int .i64))).sz = 1 from rfl, Nat.mul_one] at hv555_0
   replace hv555_0 := qx (hv555_0.symm.trans hx555_0)
   injection hv555_0 with hva_ hvn_ hvc_
   rw [hva_] at ge555_0
   rw [hvc_] at ul555_0
   have HL555_0 := xA.mk (show Kd.V (Kd.int .i64) 3 _ w.heap.size _ _ (rd_L1 t549 x7_1) from Kd.V_mk ul555_0 ge555_0)
   clear hva_ hvn_ hvc_ ge555_0 ul555_0
   clear hcc555 hce555
   have HR555_0 := xA.mk hi555_0
   have HC555_0 := xA.mk hl555_0
   clear hi555_0 hl555_0
   replace p555 := eq_true p555
   replace q555 := eq_true q555
   have p556 : 0 ≤ (x7_1 : Int) := qq
   have q556 : x7_1 < (t549.length : Int) := qq
   obtain ⟨ad556, A556_0, c556_0, e556, hx556_0, hl556_0, hi556_0⟩ := at_L1 (Kd.yB HO_6.out).2.2 x7_1 p556 q556
   obtain rfl : ad552 = ad556 := (by injection e556)
   obtain ⟨ce556, hce556, hMe556, hcc556⟩ := Kd.N_get HO_6.out [] x7_1 p556 (by first | exact q556 | exact qq | (have e_ := (Kd.yB HO_6.out).1; omega))
   obtain ⟨ua556_0, uc556_0, rfl, ul556_0, ge556_0⟩ := Kd.yC hMe556
   have hv556_0 := hcc556 0 _ rfl
   rw [Nat.add_zero, show ((Kd.slice 3 (Kd.int .i64))).sz = 1 from rfl, Nat.mul_one] at hv556_0
   replace hv556_0 := qx (hv556_0.symm.trans hx556_0)
   injection hv556_0 with hva_ hvn_ hvc_
   rw [hva_] at ge556_0
   rw [hvc_] at ul556_0
   have HL556_0 := xA.mk (show Kd.V (Kd.int .i64) 3 _ w.heap.size _ _ (rd_L1 t549 x7_1) from Kd.V_mk ul556_0 ge556_0)
   clear hva_ hvn_ hvc_ ge556_0 ul556_0
   clear hcc556 hce556
   have HR556_0 := xA.mk hi556_0
   have HC556_0 := xA.mk hl556_0
   clear hi556_0 hl556_0
   replace p556 := eq_true p556
   replace q556 := eq_true q556
   have ea_ := qx (hx555_0.symm.trans hx556_0)
   injection ea_ with ea_ en_ ec_
   subst ea_
   subst ec_
   clear en_
   have p557 : 0 ≤ (x8_2 : Int) := qq
   have q557 : x8_2 < ((rd_L1 t549 x7_1).length : Int) := qq
   obtain ⟨ad557, e557, hx557_0⟩ := Kd.xX (by repeat (first | (with_reducible exact HR556_0.out) | exact HR556_0.out)) x8_2 p557 q557
   cases e557
   replace p557 := eq_true p557
   replace q557 := eq_true q557
   have p22 : 0 ≤ ((rd (rd_L1 t549 x7_1) x8_2) : Int) := qq
   have q22 : ((rd (rd_L1 t549 x7_1) x8_2) : Int) < ((x5_2.length : Int) : Int) := qq
   obtain ⟨go22, co22, eo22, gb22, gl22, cl22, HG22⟩ := Kd.R_form HO_5.out jj
   (first | cases eo22 | (injection eo22 with ea_ en_ ec_; (first | subst ea_ | (injection ea_ with ea_; subst ea_)); subst ec_; clear en_))
   have GB22 := xA.mk gb22
   have GG22 := xA.mk HG22
   clear gb22 gl22 HG22
   obtain ⟨hx22_0, hf22_0⟩ := Kd.R_celln false HO_5.out ((rd (rd_L1 t549 x7_1) x8_2) : Int) p22 q22
   replace p22 := eq_true p22
   replace q22 := eq_true q22
   have HP23 := Kd.R_putg HO_5.out ((rd (rd_L1 t549 x7_1) x8_2) : Int) true
   go_wp2_with (first | ((with_reducible refine gate_store (t := 4) (p := 57) rfl ?_); (try (rw [drewN_self wr]; generalize hq_ : World.drewN wr _ = wr; have n0_ := xA.mk (Kd.R_at hq_ HO_5.out); have n1_ := xA.mk (Kd.N_at hq_ HO_6.out); have n2_ := xA.mk (Kd.V_at hq_ HL555_0.out); have n3_ := xA.mk (Kd.V_at hq_ HL556_0.out); have n4_ := xA.mk (blk_at hq_ BK545.out); have n5_ := xA.mk (below_at hq_ HB.out); clear hq_ HO_5 HO_6 HL555_0 HL556_0 BK545 HB; have HO_5 := n0_; have HO_6 := n1_; have HL555_0 := n2_; have HL556_0 := n3_; have BK545 := n4_; have HB := n5_; clear n0_ n1_ n2_ n3_ n4_ n5_; (try (have HP23 := Kd.R_putg HO_5.out ((rd (rd_L1 t549 x7_1) x8_2) : Int) true)))); refine store_event (t := 4) (p := 57) (v := ?vo_w24) (w1 := (wr.setCell ⟨go22, ((rd (rd_L1 t549 x7_1) x8_2) : Int).toNat, none⟩ (.bool true))) ?hg ?ho ?hn ?hr ?_; (case ho => rfl); (case hg => rfl); (case hn => rfl); (case hr => go_simp); intro w24 hw; have hg : wr.grownBy w24 (some go22) := (by rw [hw]; exact HP23.2); have hp_ : Kd.R Kd.bool 4 w24 w.heap.size (fun _ => True) (.slice (some ⟨go22, 0, none⟩) x5_2.length co22) y558 := (by rw [hw, Ny558.out]; exact HP23.1); clear HP23; have n0_ := xA.mk (hp_); have n1_ := xA.mk (Kd.N_afterv (v := (.slice (some ⟨go22, 0, none⟩) x5_2.length co22)) (v1 := (.slice (some ⟨go22, 0, none⟩) x5_2.length co22)) (ok := (fun k_ => k_ ≠ gb545)) (by exact Kd.N_mono HO_6.out (fun _ hk => ⟨hk.2, hk.1⟩)) hg (.inl rfl)); have n2_ := xA.mk (blk_grown (g := gb545) (o := .cells #[.int .i64 a1_0, .int .i64 a1_1] 37 (0, 0)) (by exact BK545.out) hg (Kd.R_ne HO_5.out BK545.out (by decide))); have n3_ := xA.mk (Kd.V_afterv (v := (.slice (some ⟨go22, 0, none⟩) x5_2.length co22)) (v1 := (.slice (some ⟨go22, 0, none⟩) x5_2.length co22)) (ok := (fun k_ => some k_ ≠ (.slice (some ad552) t549.length co14 : Value).ownBlock ∧ k_ ≠ gb545)) (by exact Kd.V_mono HL555_0.out (fun _ hk => ⟨⟨hk.2, hk.1.2⟩, hk.1.1⟩)) hg (.inl rfl)); have n4_ := xA.mk (Kd.V_afterv (v := (.slice (some ⟨go22, 0, none⟩) x5_2.length co22)) (v1 := (.slice (some ⟨go22, 0, none⟩) x5_2.length co22)) (ok := (fun k_ => some k_ ≠ (.slice (some ad552) t549.length co14 : Value).ownBlock ∧ k_ ≠ gb545)) (by exact Kd.V_mono HL556_0.out (fun _ hk => ⟨⟨hk.2, hk.1.2⟩, hk.1.1⟩)) hg (.inl rfl)); have n5_ := xA.mk ((by rw [hw]; exact xL (HB.out) GB22.out : Below w.heap.size w w24)); clear HO_5; clear HO_6; clear BK545; clear HL555_0; clear HL556_0; clear HB; have HO_5 := n0_; have HO_6 := n1_; have BK545 := n2_; have HL555_0 := n3_; have HL556_0 := n4_; have HB := n5_; clear n0_ n1_ n2_ n3_ n4_ n5_; clear hg hw hp_))
   go_roundg k2
   case measure => have := HK1.out; have := HK2.out; omega
   case rel => exact ⟨(y558), (wrap64 (x8_2 + 1)), rfl, H', ⟨by have := HK1.out; have := HK2.out; omega⟩, ⟨by exact HO_5.out⟩, ⟨by exact Kd.N_mono HO_6.out (fun _ hk => ⟨hk.2, hk.1⟩)⟩, ⟨by exact BK545.out⟩, ⟨HB.out⟩⟩
def r5Critical.f (k : Nat) (l0 : List (List Int)) : Option (List Int × Int) := (r5Speed.f k l0).bind fun bt950 => (if bt950.2.2 = 0 then ((r5critical.f k l0 bt950.1 bt950.2.1).bind fun t954 => (some (t954, 0))) else (some (([] : List Int), bt950.2.2)))
theorem r5Critical.calls (k : Nat) (A0 : Option Addr) (c0 : Nat) (l0 : List (List Int)) (r1 : List Int) (r2 : Int) (w : World) (hr0 : Kd.C (Kd.slice 3 (Kd.int .i64)) w A0 l0.length l0) (hc0 : l0.length ≤ c0) (h : r5Critical.f k l0 = some (r1, r2)) :
  Calls Try.prog 36 #[.slice A0 l0.length c0] w fun e w' => ∃ v0_ : Value, e = .returned (.tuple #[v0_, .int .i64 r2]) ∧ Kd.R (Kd.int .i64) 3 w' w.heap.size (fun _ => True) v0_ r1 ∧ Below w.heap.size w w' := by
 have hu37 := Try.underlying37
 have HR0 := xA.mk hr0
 have HC0 := xA.mk hc0
 clear hr0 hc0
 have HB := xA.mk (Below.refl w.heap.size w)
 have H : ((r5Speed.f k l0).bind fun bt950 => (if bt950.2.2 = 0 then ((r5critical.f k l0 bt950.1 bt950.2.1).bind fun t954 => (some (t954, 0))) else (some (([] : List Int), bt950.2.2)))) = some (r1, r2) := h
 clear h
 replace H := qw H
 obtain ⟨⟨t950, t951, t952⟩, A20, H⟩ := H
 replace H : (if t952 = 0 then ((r5critical.f k l0 t950 t951).bind fun t954 => (some (t954, 0))) else (some (([] : List Int), t952))) = some (r1, r2) := H
 have A2 := xA.mk A20
 clear A20
 by_cases c3 : t952 = 0
 ·
  rw [if_pos c3] at H
  have c3b0 : (t952 == 0) = true := beq_iff_eq.mpr c3
  have c3b1 : (t952 != 0) = false := bne_eq_false_iff_eq.mpr c3
  clear c3
  replace H := qw H
  obtain ⟨t954, A40, H⟩ := H
  replace H : (some (t954, 0)) = some (r1, r2) := H
  have A4 := xA.mk A40
  clear A40
  simp only [Option.some.injEq, Prod.mk.injEq] at H
  obtain ⟨rfl, rfl⟩ := H
  go_enter Try.func36, Try.ntmps36
  go_wp2_with (first | ((with_reducible refine xF (f := 32) rfl ?_); refine xM (some 8) rfl rfl Try.func32 jk rfl #[.slice A0 l0.length c0] rfl qc ?_; (with_reducible refine (r5Speed.calls k _ _ l0 t950 t951 t952 _ ?side1 ?side2 A2.out).mono ?_); (case side1 => exact qm HR0.out); (case side2 => exact HC0.out); rintro e w5 ⟨rfl, hb⟩; refine ⟨_, rfl, ?_⟩; replace HB := xA.mk (xE qa hb); (try clear hb); (try clear hb2); (try clear hk); (try clear hi)) | ((with_reducible refine xW (N := 4) rfl ?_); refine xY ?hg (N := 4) ?hd (cs := #[.int .i64 0, .int .i64 0]) (t := 37) ?hr ?_; (case hd => rfl); (case hg => rfl); (case hr => first | (go_simp; done) | (go_simp; rfl)); intro gb953 hg w6 hbox hb; have n0_ := xA.mk (xE qa hb); have n1_ := xA.mk (hbox); have n2_ := xA.mk ((by rw [hg]; exact (xC qa) : w.heap.size ≤ gb953)); have n3_ := xA.mk ((by rw [hg]; exact (xC qa) : w.heap.size ≤ gb953)); clear HB; have HB := n0_; have BK953 := n1_; have GW953 := n2_; have GE953 := n3_; clear n0_ n1_ n2_ n3_; clear hb hbox hg; have hcz7_0 : w6.cell? ⟨gb953, 0, none⟩ = some (.int .i64 0) := (xB BK953.out 0).trans rfl; have hcz7_1 : w6.cell? ⟨gb953, 1, none⟩ = some (.int .i64 0) := (xB BK953.out 1).trans rfl; have hfz7_0 := xD BK953.out 0; have hfz7_1 := xD BK953.out 1) | ((with_reducible refine xF (f := 51) rfl ?_); refine xM (some 16) rfl rfl Try.func51 jk rfl #[.slice A0 l0.length c0, .agg #[.int .i64 t950, .int .i64 t951]] rfl qc ?_; (with_reducible refine (r5critical.calls k _ _ l0 t950 t951 t954 _ ?side1 ?side2 A4.out).mono ?_); (case side1 => exact Kd.xR HR0.out (qo GE953.out)); (case side2 => exact HC0.out); rintro e w8 ⟨v955, rfl, ho0, hb⟩; refine ⟨_, rfl, ?_⟩; have n0_ := xA.mk (Kd.R_lower ho0 (xC (qo GE953.out))); have n1_ := xA.mk (xN (g := gb953) (o := .cells #[.int .i64 t950, .int .i64 t951] 37 (0, 0)) (by (with_reducible repeat (first | refine xJ ?_ _ | refine xI ?_ | refine xH ?_ _)); refine xT (cs := #[.int .i64 t950, .int .i64 0]) ?_ 1 _ rfl; (with_reducible repeat (first | refine xJ ?_ _ | refine xI ?_ | refine xH ?_ _)); refine xT (cs := #[.int .i64 0, .int .i64 0]) ?_ 0 _ rfl; (with_reducible repeat (first | refine xJ ?_ _ | refine xI ?_ | refine xH ?_ _)); exact BK953.out) hb); have n2_ := xA.mk (xE (qo GE953.out) hb); clear BK953; clear HB; have HO956 := n0_; have BK953 := n1_; have HB := n2_; clear n0_ n1_ n2_; (try clear hb); (try clear hb2); (try clear hk); (try clear hi); (try clear ho0)))
  go_ret2
  exact ⟨_, qg, qi HO956.out, qo GE953.out⟩
 ·
  rw [if_neg c3] at H
  have c3b0 : (t952 == 0) = false := jg c3
  have c3b1 : (t952 != 0) = true := bne_iff_ne.mpr c3
  simp only [Option.some.injEq, Prod.mk.injEq] at H
  obtain ⟨rfl, rfl⟩ := H
  go_enter Try.func36, Try.ntmps36
  go_wp2_with (first | ((with_reducible refine xF (f := 32) rfl ?_); refine xM (some 8) rfl rfl Try.func32 jk rfl #[.slice A0 l0.length c0] rfl qc ?_; (with_reducible refine (r5Speed.calls k _ _ l0 t950 t951 t952 _ ?side1 ?side2 A2.out).mono ?_); (case side1 => exact qm HR0.out); (case side2 => exact HC0.out); rintro e w9 ⟨rfl, hb⟩; refine ⟨_, rfl, ?_⟩; replace HB := xA.mk (xE qa hb); (try clear hb); (try clear hb2); (try clear hk); (try clear hi)) | ((with_reducible refine xW (N := 4) rfl ?_); refine xY ?hg (N := 4) ?hd (cs := #[.int .i64 0, .int .i64 0]) (t := 37) ?hr ?_; (case hd => rfl); (case hg => rfl); (case hr => first | (go_simp; done) | (go_simp; rfl)); intro gb953 hg w10 hbox hb; have n0_ := xA.mk (xE qa hb); have n1_ := xA.mk (hbox); have n2_ := xA.mk ((by rw [hg]; exact (xC qa) : w.heap.size ≤ gb953)); have n3_ := xA.mk ((by rw [hg]; exact (xC qa) : w.heap.size ≤ gb953)); clear HB; have HB := n0_; have BK953 := n1_; have GW953 := n2_; have GE953 := n3_; clear n0_ n1_ n2_ n3_; clear hb hbox hg; have hcz11_0 : w10.cell? ⟨gb953, 0, none⟩ = some (.int .i64 0) := (xB BK953.out 0).trans rfl; have hcz11_1 : w10.cell? ⟨gb953, 1, none⟩ = some (.int .i64 0) := (xB BK953.out 1).trans rfl; have hfz11_0 := xD BK953.out 0; have hfz11_1 := xD BK953.out 1))
  go_ret2
  exact ⟨_, qg, by first | exact Kd.R_nil _ _ _ _ _ | exact Kd.N_nil _ _ _ _ _ | exact Kd.V_nil _ _ _ _ _ | exact Kd.Q_nil _ _ _ _ _ | exact Kd.S_nil _ _ _ _ _, qo GE953.out⟩
end Go.Proofs.Ythjmfbmffchicaa.V
