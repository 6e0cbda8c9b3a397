/- Walks of functions that the law LineAlgebra reaches: each theorem '.calls' says that the call comes to what its printed plain function says, under the conditions that stand in it. -/
import Derived.Test.YthjmfbmffchicaaKAf3
namespace Go.Proofs.Ythjmfbmffchicaa.V
open Go.RowKit Go.Proofs.YthjmfbmffchicaaW.PrintWords Go.Proofs.YthjmfbmffchicaaW.PrintLast Go.Proofs.YthjmfbmffchicaaW.PrintMore
attribute [local go_sem] max2_int min2_int max_two min_two max_three min_three max_four min_four   -- for this text's walks alone
set_option linter.unusedVariables false
set_option linter.unusedSimpArgs false
/-! ### tinplatelaw05_LineAlgebra: function 10 -/
mutual
def tinplatelaw05_LineAlgebra.j0 : Nat → List (List Int) → List (List Int) → List (List Int) → List Int → Int → Int → Bool → Option (Bool)
 | 0, _, _, _, _, _, _, _ => none
 | k + 1, x0, x1, x2, x3, x4, x5, x45 => if x45 = true then ((tinplatelaw05_alive.f k).bind fun t1094 => (some t1094)) else ((line_Multiply.f k x0 x1).bind fun bt1095 => ((line_Multiply.f k x1 x2).bind fun bt1099 => (if bt1095.2 = 0 then (if bt1099.2 = 0 then ((tinplatelaw05_within.f k bt1095.1).bind fun t1103 => (if t1103 = true then ((tinplatelaw05_within.f k bt1099.1).bind fun t1104 => (tinplatelaw05_LineAlgebra.j1 k x0 x2 x3 x4 x5 bt1095.1 bt1099.1 t1104)) else (tinplatelaw05_LineAlgebra.j1 k x0 x2 x3 x4 x5 bt1095.1 bt1099.1 false))) else (tinplatelaw05_LineAlgebra.j1 k x0 x2 x3 x4 x5 bt1095.1 bt1099.1 false)) else (tinplatelaw05_LineAlgebra.j1 k x0 x2 x3 x4 x5 bt1095.1 bt1099.1 false))))
def tinplatelaw05_LineAlgebra.j1 : Nat → List (List Int) → List (List Int) → List Int → Int → Int → List (List Int) → List (List Int) → Bool → Option (Bool)
 | 0, _, _, _, _, _, _, _, _ => none
 | k + 1, x0, x2, x3, x4, x5, x13, x15, x72 => if x72 = true then ((line_Multiply.f k x13 x2).bind fun bt1105 => ((line_Multiply.f k x0 x15).bind fun bt1109 => (if bt1105.2 = 0 then (if bt1109.2 = 0 then ((tinplatelaw05_rows.f k bt1105.1 bt1109.1).bind fun t1113 => (if t1113 = true then (tinplatelaw05_LineAlgebra.j2 k x0 x3 x4 x5) else (some false))) else (some false)) else (some false)))) else (tinplatelaw05_LineAlgebra.j2 k x0 x3 x4 x5)
def tinplatelaw05_LineAlgebra.j2 : Nat → List (List Int) → List Int → Int → Int → Option (Bool)
 | 0, _, _, _, _ => none
 | k + 1, x0, x3, x4, x5 => (line_Power.f k x0 (wrap64 (Int.tmod x4 1000))).bind fun bt1114 => ((line_Power.f k x0 (wrap64 (Int.tmod x5 1000))).bind fun bt1118 => ((line_Power.f k x0 (wrap64 ((wrap64 (Int.tmod x4 1000)) + (wrap64 (Int.tmod x5 1000))))).bind fun bt1122 => (if bt1114.2 = bt1118.2 then (tinplatelaw05_LineAlgebra.j3 k x0 x3 bt1114.1 bt1114.2 bt1118.1 (wrap64 (Int.tmod x4 1000)) (wrap64 (Int.tmod x5 1000)) bt1122.1 (bt1118.2 != bt1122.2)) else (tinplatelaw05_LineAlgebra.j3 k x0 x3 bt1114.1 bt1114.2 bt1118.1 (wrap64 (Int.tmod x4 1000)) (wrap64 (Int.tmod x5 1000)) bt1122.1 true))))
def tinplatelaw05_LineAlgebra.j3 : Nat → List (List Int) → List Int → List (List Int) → Int → List (List Int) → Int → Int → List (List Int) → Bool → Option (Bool)
 | 0, _, _, _, _, _, _, _, _, _ => none
 | k + 1, x0, x3, x13, x14, x15, x21, x22, x23, x130 => if x130 = true then (some false) else (if x14 = 0 then ((tinplatelaw05_square.f k x13 (x0.length : Int)).bind fun t1127 => (if t1127 = true then ((tinplatelaw05_square.f k x15 (x0.length : Int)).bind fun t1128 => (if t1128 = true then ((tinplatelaw05_product.f k x13 x15).bind fun t1129 => ((tinplatelaw05_rows.f k x23 t1129).bind fun t1132 => (tinplatelaw05_LineAlgebra.j4 k x0 x3 x21 x22 (!t1132)))) else (tinplatelaw05_LineAlgebra.j4 k x0 x3 x21 x22 true))) else (tinplatelaw05_LineAlgebra.j4 k x0 x3 x21 x22 true))) else ((tinplatelaw05_alive.f k).bind fun t1126 => (some t1126)))
def tinplatelaw05_LineAlgebra.j4 : Nat → List (List Int) → List Int → Int → Int → Bool → Option (Bool)
 | 0, _, _, _, _, _ => none
 | k + 1, x0, x3, x21, x22, x153 => if x153 = true then (some false) else ((line_Run.f k x0 x3 x21).bind fun bt1133 => (if bt1133.2 = 0 then ((line_Run.f k x0 bt1133.1 x22).bind fun bt1138 => ((line_Run.f k x0 x3 (wrap64 (x21 + x22))).bind fun bt1142 => (if bt1138.2 = 0 then (if bt1142.2 = 0 then ((tinplatelaw05_same.f k bt1138.1 bt1142.1).bind fun t1146 => (if t1146 = true then ((tinplatelaw05_alive.f k).bind fun t1147 => (some t1147)) else (some false))) else ((tinplatelaw05_alive.f k).bind fun t1148 => (some t1148))) else ((tinplatelaw05_alive.f k).bind fun t1149 => (some t1149))))) else ((tinplatelaw05_alive.f k).bind fun t1137 => (some t1137))))
end
def tinplatelaw05_LineAlgebra.f (k : Nat) (l0 : List (List Int)) (l1 : List (List Int)) (l2 : List (List Int)) (l3 : List Int) (a4 : Int) (a5 : Int) : Option (Bool) := (tinplatelaw05_few.f k l0).bind fun t1091 => (if t1091 = true then ((tinplatelaw05_few.f k l1).bind fun t1092 => (if t1092 = true then ((tinplatelaw05_few.f k l2).bind fun t1093 => (if t1093 = true then (tinplatelaw05_LineAlgebra.j0 k l0 l1 l2 l3 a4 a5 (decide ((l3.length : Int) > 20))) else (tinplatelaw05_LineAlgebra.j0 k l0 l1 l2 l3 a4 a5 true))) else (tinplatelaw05_LineAlgebra.j0 k l0 l1 l2 l3 a4 a5 true))) else (tinplatelaw05_LineAlgebra.j0 k l0 l1 l2 l3 a4 a5 true))
theorem tinplatelaw05_LineAlgebra.mono_l : ∀ k, (∀ y0 y1 y2 y3 y4 y5 y6, LeO (tinplatelaw05_LineAlgebra.j0 k y0 y1 y2 y3 y4 y5 y6) (tinplatelaw05_LineAlgebra.j0 (k + 1) y0 y1 y2 y3 y4 y5 y6)) ∧ (∀ y0 y1 y2 y3 y4 y5 y6 y7, LeO (tinplatelaw05_LineAlgebra.j1 k y0 y1 y2 y3 y4 y5 y6 y7) (tinplatelaw05_LineAlgebra.j1 (k + 1) y0 y1 y2 y3 y4 y5 y6 y7)) ∧ (∀ y0 y1 y2 y3, LeO (tinplatelaw05_LineAlgebra.j2 k y0 y1 y2 y3) (tinplatelaw05_LineAlgebra.j2 (k + 1) y0 y1 y2 y3)) ∧ (∀ y0 y1 y2 y3 y4 y5 y6 y7 y8, LeO (tinplatelaw05_LineAlgebra.j3 k y0 y1 y2 y3 y4 y5 y6 y7 y8) (tinplatelaw05_LineAlgebra.j3 (k + 1) y0 y1 y2 y3 y4 y5 y6 y7 y8)) ∧ (∀ y0 y1 y2 y3 y4, LeO (tinplatelaw05_LineAlgebra.j4 k y0 y1 y2 y3 y4) (tinplatelaw05_LineAlgebra.j4 (k + 1) y0 y1 y2 y3 y4))
 | 0 => ⟨fun _ _ _ _ _ _ _ r h => by simp [tinplatelaw05_LineAlgebra.j0] at h, fun _ _ _ _ _ _ _ _ r h => by simp [tinplatelaw05_LineAlgebra.j1] at h, fun _ _ _ _ r h => by simp [tinplatelaw05_LineAlgebra.j2] at h, fun _ _ _ _ _ _ _ _ _ r h => by simp [tinplatelaw05_LineAlgebra.j3] at h, fun _ _ _ _ _ r h => by simp [tinplatelaw05_LineAlgebra.j4] at h⟩
 | k + 1 => by
  obtain ⟨ih0, ih1, ih2, ih3, ih4⟩ := tinplatelaw05_LineAlgebra.mono_l k
  refine ⟨?_, ?_, ?_, ?_, ?_⟩
  ·
   intro y0 y1 y2 y3 y4 y5 y6
   unfold tinplatelaw05_LineAlgebra.j0
   repeat' first
   | (with_reducible exact ih0 _ _ _ _ _ _ _)
   | (with_reducible exact ih1 _ _ _ _ _ _ _ _)
   | (with_reducible exact ih2 _ _ _ _)
   | (with_reducible exact ih3 _ _ _ _ _ _ _ _ _)
   | (with_reducible exact ih4 _ _ _ _ _)
   | (with_reducible exact line_Multiply.mono _ _ _)
   | (with_reducible exact line_Power.mono _ _ _)
   | (with_reducible exact line_Run.mono _ _ _ _)
   | (with_reducible exact tinplatelaw05_alive.mono _)
   | (with_reducible exact tinplatelaw05_few.mono _ _)
   | (with_reducible exact tinplatelaw05_product.mono _ _ _)
   | (with_reducible exact tinplatelaw05_rows.mono _ _ _)
   | (with_reducible exact tinplatelaw05_same.mono _ _ _)
   | (with_reducible exact tinplatelaw05_square.mono _ _ _)
   | (with_reducible exact tinplatelaw05_within.mono _ _)
   | (with_reducible exact LeO.refl _)
   | (with_reducible exact LeO.none _)
   | (with_reducible refine LeO.ite ?_ ?_)
   | (with_reducible refine LeO.bind ?_ (fun _ => ?_))
   | exact ih0 _ _ _ _ _ _ _
   | exact ih1 _ _ _ _ _ _ _ _
   | exact ih2 _ _ _ _
   | exact ih3 _ _ _ _ _ _ _ _ _
   | exact ih4 _ _ _ _ _
   | exact line_Multiply.mono _ _ _
   | exact line_Power.mono _ _ _
   | exact line_Run.mono _ _ _ _
   | exact tinplatelaw05_alive.mono _
   | exact tinplatelaw05_few.mono _ _
   | exact tinplatelaw05_product.mono _ _ _
   | exact tinplatelaw05_rows.mono _ _ _
   | exact tinplatelaw05_same.mono _ _ _
   | exact tinplatelaw05_square.mono _ _ _
   | exact tinplatelaw05_within.mono _ _
   | exact LeO.none _
   | refine LeO.ite ?_ ?_
   | refine LeO.bind ?_ (fun _ => ?_)
  ·
   intro y0 y1 y2 y3 y4 y5 y6 y7
   unfold tinplatelaw05_LineAlgebra.j1
   repeat' first
   | (with_reducible exact ih0 _ _ _ _ _ _ _)
   | (with_reducible exact ih1 _ _ _ _ _ _ _ _)
   | (with_reducible exact ih2 _ _ _ _)
   | (with_reducible exact ih3 _ _ _ _ _ _ _ _ _)
   | (with_reducible exact ih4 _ _ _ _ _)
   | (with_reducible exact line_Multiply.mono _ _ _)
   | (with_reducible exact line_Power.mono _ _ _)
   | (with_reducible exact line_Run.mono _ _ _ _)
   | (with_reducible exact tinplatelaw05_alive.mono _)
   | (with_reducible exact tinplatelaw05_few.mono _ _)
   | (with_reducible exact tinplatelaw05_product.mono _ _ _)
   | (with_reducible exact tinplatelaw05_rows.mono _ _ _)
   | (with_reducible exact tinplatelaw05_same.mono _ _ _)
   | (with_reducible exact tinplatelaw05_square.mono _ _ _)
   | (with_reducible exact tinplatelaw05_within.mono _ _)
   | (with_reducible exact LeO.refl _)
   | (with_reducible exact LeO.none _)
   | (with_reducible refine LeO.ite ?_ ?_)
   | (with_reducible refine LeO.bind ?_ (fun _ => ?_))
   | exact ih0 _ _ _ _ _ _ _
   | exact ih1 _ _ _ _ _ _ _ _
   | exact ih2 _ _ _ _
   | exact ih3 _ _ _ _ _ _ _ _ _
   | exact ih4 _ _ _ _ _
   | exact line_Multiply.mono _ _ _
   | exact line_Power.mono _ _ _
   | exact line_Run.mono _ _ _ _
   | exact tinplatelaw05_alive.mono _
   | exact tinplatelaw05_few.mono _ _
   | exact tinplatelaw05_product.mono _ _ _
   | exact tinplatelaw05_rows.mono _ _ _
   | exact tinplatelaw05_same.mono _ _ _
   | exact tinplatelaw05_square.mono _ _ _
   | exact tinplatelaw05_within.mono _ _
   | exact LeO.none _
   | refine LeO.ite ?_ ?_
   | refine LeO.bind ?_ (fun _ => ?_)
  ·
   intro y0 y1 y2 y3
   unfold tinplatelaw05_LineAlgebra.j2
   repeat' first
   | (with_reducible exact ih0 _ _ _ _ _ _ _)
   | (with_reducible exact ih1 _ _ _ _ _ _ _ _)
   | (with_reducible exact ih2 _ _ _ _)
   | (with_reducible exact ih3 _ _ _ _ _ _ _ _ _)
   | (with_reducible exact ih4 _ _ _ _ _)
   | (with_reducible exact line_Multiply.mono _ _ _)
   | (with_reducible exact line_Power.mono _ _ _)
   | (with_reducible exact line_Run.mono _ _ _ _)
   | (with_reducible exact tinplatelaw05_alive.mono _)
   | (with_reducible exact tinplatelaw05_few.mono _ _)
   | (with_reducible exact tinplatelaw05_product.mono _ _ _)
   | (with_reducible exact tinplatelaw05_rows.mono _ _ _)
   | (with_reducible exact tinplatelaw05_same.mono _ _ _)
   | (with_reducible exact tinplatelaw05_square.mono _ _ _)
   | (with_reducible exact tinplatelaw05_within.mono _ _)
   | (with_reducible exact LeO.refl _)
   | (with_reducible exact LeO.none _)
   | (with_reducible refine LeO.ite ?_ ?_)
   | (with_reducible refine LeO.bind ?_ (fun _ => ?_))
   | exact ih0 _ _ _ _ _ _ _
   | exact ih1 _ _ _ _ _ _ _ _
   | exact ih2 _ _ _ _
   | exact ih3 _ _ _ _ _ _ _ _ _
   | exact ih4 _ _ _ _ _
   | exact line_Multiply.mono _ _ _
   | exact line_Power.mono _ _ _
   | exact line_Run.mono _ _ _ _
   | exact tinplatelaw05_alive.mono _
   | exact tinplatelaw05_few.mono _ _
   | exact tinplatelaw05_product.mono _ _ _
   | exact tinplatelaw05_rows.mono _ _ _
   | exact tinplatelaw05_same.mono _ _ _
   | exact tinplatelaw05_square.mono _ _ _
   | exact tinplatelaw05_within.mono _ _
   | exact LeO.none _
   | refine LeO.ite ?_ ?_
   | refine LeO.bind ?_ (fun _ => ?_)
  ·
   intro y0 y1 y2 y3 y4 y5 y6 y7 y8
   unfold tinplatelaw05_LineAlgebra.j3
   repeat' first
   | (with_reducible exact ih0 _ _ _ _ _ _ _)
   | (with_reducible exact ih1 _ _ _ _ _ _ _ _)
   | (with_reducible exact ih2 _ _ _ _)
   | (with_reducible exact ih3 _ _ _ _ _ _ _ _ _)
   | (with_reducible exact ih4 _ _ _ _ _)
   | (with_reducible exact line_Multiply.mono _ _ _)
   | (with_reducible exact line_Power.mono _ _ _)
   | (with_reducible exact line_Run.mono _ _ _ _)
   | (with_reducible exact tinplatelaw05_alive.mono _)
   | (with_reducible exact tinplatelaw05_few.mono _ _)
   | (with_reducible exact tinplatelaw05_product.mono _ _ _)
   | (with_reducible exact tinplatelaw05_rows.mono _ _ _)
   | (with_reducible exact tinplatelaw05_same.mono _ _ _)
   | (with_reducible exact tinplatelaw05_square.mono _ _ _)
   | (with_reducible exact tinplatelaw05_within.mono _ _)
   | (with_reducible exact LeO.refl _)
   | (with_reducible exact LeO.none _)
   | (with_reducible refine LeO.ite ?_ ?_)
   | (with_reducible refine LeO.bind ?_ (fun _ => ?_))
   | exact ih0 _ _ _ _ _ _ _
   | exact ih1 _ _ _ _ _ _ _ _
   | exact ih2 _ _ _ _
   | exact ih3 _ _ _ _ _ _ _ _ _
   | exact ih4 _ _ _ _ _
   | exact line_Multiply.mono _ _ _
   | exact line_Power.mono _ _ _
   | exact line_Run.mono _ _ _ _
   | exact tinplatelaw05_alive.mono _
   | exact tinplatelaw05_few.mono _ _
   | exact tinplatelaw05_product.mono _ _ _
   | exact tinplatelaw05_rows.mono _ _ _
   | exact tinplatelaw05_same.mono _ _ _
   | exact tinplatelaw05_square.mono _ _ _
   | exact tinplatelaw05_within.mono _ _
   | exact LeO.none _
   | refine LeO.ite ?_ ?_
   | refine LeO.bind ?_ (fun _ => ?_)
  ·
   intro y0 y1 y2 y3 y4
   unfold tinplatelaw05_LineAlgebra.j4
   repeat' first
   | (with_reducible exact ih0 _ _ _ _ _ _ _)
   | (with_reducible exact ih1 _ _ _ _ _ _ _ _)
   | (with_reducible exact ih2 _ _ _ _)
   | (with_reducible exact ih3 _ _ _ _ _ _ _ _ _)
   | (with_reducible exact ih4 _ _ _ _ _)
   | (with_reducible exact line_Multiply.mono _ _ _)
   | (with_reducible exact line_Power.mono _ _ _)
   | (with_reducible exact line_Run.mono _ _ _ _)
   | (with_reducible exact tinplatelaw05_alive.mono _)
   | (with_reducible exact tinplatelaw05_few.mono _ _)
   | (with_reducible exact tinplatelaw05_product.mono _ _ _)
   | (with_reducible exact tinplatelaw05_rows.mono _ _ _)
   | (with_reducible exact tinplatelaw05_same.mono _ _ _)
   | (with_reducible exact tinplatelaw05_square.mono _ _ _)
   | (with_reducible exact tinplatelaw05_within.mono _ _)
   | (with_reducible exact LeO.refl _)
   | (with_reducible exact LeO.none _)
   | (with_reducible refine LeO.ite ?_ ?_)
   | (with_reducible refine LeO.bind ?_ (fun _ => ?_))
   | exact ih0 _ _ _ _ _ _ _
   | exact ih1 _ _ _ _ _ _ _ _
   | exact ih2 _ _ _ _
   | exact ih3 _ _ _ _ _ _ _ _ _
   | exact ih4 _ _ _ _ _
   | exact line_Multiply.mono _ _ _
   | exact line_Power.mono _ _ _
   | exact line_Run.mono _ _ _ _
   | exact tinplatelaw05_alive.mono _
   | exact tinplatelaw05_few.mono _ _
   | exact tinplatelaw05_product.mono _ _ _
   | exact tinplatelaw05_rows.mono _ _ _
   | exact tinplatelaw05_same.mono _ _ _
   | exact tinplatelaw05_square.mono _ _ _
   | exact tinplatelaw05_within.mono _ _
   | exact LeO.none _
   | refine LeO.ite ?_ ?_
   | refine LeO.bind ?_ (fun _ => ?_)
theorem tinplatelaw05_LineAlgebra.mono : ∀ a0 a1 a2 a3 a4 a5 k, LeO (tinplatelaw05_LineAlgebra.f k a0 a1 a2 a3 a4 a5) (tinplatelaw05_LineAlgebra.f (k + 1) a0 a1 a2 a3 a4 a5) := by
 intro a0 a1 a2 a3 a4 a5 k
 obtain ⟨ih0, ih1, ih2, ih3, ih4⟩ := tinplatelaw05_LineAlgebra.mono_l k
 unfold tinplatelaw05_LineAlgebra.f
 repeat' first
   | (with_reducible exact ih0 _ _ _ _ _ _ _)
   | (with_reducible exact ih1 _ _ _ _ _ _ _ _)
   | (with_reducible exact ih2 _ _ _ _)
   | (with_reducible exact ih3 _ _ _ _ _ _ _ _ _)
   | (with_reducible exact ih4 _ _ _ _ _)
   | (with_reducible exact line_Multiply.mono _ _ _)
   | (with_reducible exact line_Power.mono _ _ _)
   | (with_reducible exact line_Run.mono _ _ _ _)
   | (with_reducible exact tinplatelaw05_alive.mono _)
   | (with_reducible exact tinplatelaw05_few.mono _ _)
   | (with_reducible exact tinplatelaw05_product.mono _ _ _)
   | (with_reducible exact tinplatelaw05_rows.mono _ _ _)
   | (with_reducible exact tinplatelaw05_same.mono _ _ _)
   | (with_reducible exact tinplatelaw05_square.mono _ _ _)
   | (with_reducible exact tinplatelaw05_within.mono _ _)
   | (with_reducible exact LeO.refl _)
   | (with_reducible exact LeO.none _)
   | (with_reducible refine LeO.ite ?_ ?_)
   | (with_reducible refine LeO.bind ?_ (fun _ => ?_))
   | exact ih0 _ _ _ _ _ _ _
   | exact ih1 _ _ _ _ _ _ _ _
   | exact ih2 _ _ _ _
   | exact ih3 _ _ _ _ _ _ _ _ _
   | exact ih4 _ _ _ _ _
   | exact line_Multiply.mono _ _ _
   | exact line_Power.mono _ _ _
   | exact line_Run.mono _ _ _ _
   | exact tinplatelaw05_alive.mono _
   | exact tinplatelaw05_few.mono _ _
   | exact tinplatelaw05_product.mono _ _ _
   | exact tinplatelaw05_rows.mono _ _ _
   | exact tinplatelaw05_same.mono _ _ _
   | exact tinplatelaw05_square.mono _ _ _
   | exact tinplatelaw05_within.mono _ _
   | exact LeO.none _
   | refine LeO.ite ?_ ?_
   | refine LeO.bind ?_ (fun _ => ?_)
set_option maxHeartbeats 8000000 in
set_option maxRecDepth 100000 in
theorem tinplatelaw05_LineAlgebra.calls (k : Nat) (A0 : Option Addr) (c0 : Nat) (l0 : List (List Int)) (A1 : Option Addr) (c1 : Nat) (l1 : List (List Int)) (A2 : Option Addr) (c2 : Nat) (l2 : List (List Int)) (A3 : Option Addr) (c3 : Nat) (l3 : List Int) (a4 : Int) (a5 : Int) (r : Bool) (w : World) (hr0 : Kd.C (Kd.slice 3 (Kd.int .i64)) w A0 l0.length l0) (hc0 : l0.length ≤ c0) (hr1 : Kd.C (Kd.slice 3 (Kd.int .i64)) w A1 l1.length l1) (hc1 : l1.length ≤ c1) (hr2 : Kd.C (Kd.slice 3 (Kd.int .i64)) w A2 l2.length l2) (hc2 : l2.length ≤ c2) (hr3 : Kd.C (Kd.int .i64) w A3 l3.length l3) (hc3 : l3.length ≤ c3) (h : tinplatelaw05_LineAlgebra.f k l0 l1 l2 l3 a4 a5 = some r) (hr_ : Aside0 (r = true)) :
  Calls Try.prog 10 #[.slice A0 l0.length c0, .slice A1 l1.length c1, .slice A2 l2.length c2, .slice A3 l3.length c3, .int .u16 a4, .int .u16 a5] w fun e w' => e = .returned (.bool r) ∧ Below w.heap.size w w' := by
 have HR0 := Aside0.mk hr0
 have HC0 := Aside0.mk hc0
 clear hr0 hc0
 have HR1 := Aside0.mk hr1
 have HC1 := Aside0.mk hc1
 clear hr1 hc1
 have HR2 := Aside0.mk hr2
 have HC2 := Aside0.mk hc2
 clear hr2 hc2
 have HR3 := Aside0.mk hr3
 have HC3 := Aside0.mk hc3
 clear hr3 hc3
 have HB := Aside0.mk (Below.refl w.heap.size w)
 have H : ((tinplatelaw05_few.f k l0).bind fun t1091 => (if t1091 = true then ((tinplatelaw05_few.f k l1).bind fun t1092 => (if t1092 = true then ((tinplatelaw05_few.f k l2).bind fun t1093 => (if t1093 = true then (tinplatelaw05_LineAlgebra.j0 k l0 l1 l2 l3 a4 a5 (decide ((l3.length : Int) > 20))) else (tinplatelaw05_LineAlgebra.j0 k l0 l1 l2 l3 a4 a5 true))) else (tinplatelaw05_LineAlgebra.j0 k l0 l1 l2 l3 a4 a5 true))) else (tinplatelaw05_LineAlgebra.j0 k l0 l1 l2 l3 a4 a5 true))) = some r := h
 clear h
 have HC7 := Aside0.mk H
 clear H
 go_enter Try.func10, Try.ntmps10
 go_upto_region 1 with (fail)
 go_cut [45] (fun v45 wc => ∃ (kq : Nat) (x45_6 : Bool), v45 = .bool x45_6 ∧ Aside0 (tinplatelaw05_LineAlgebra.j0 kq l0 l1 l2 l3 a4 a5 x45_6 = some r) ∧ Aside0 (kq ≤ k) ∧ Aside0 (Below w.heap.size w wc))
 case first =>
  as_aux_lemma =>
   have H := HC7.out
   clear HC7
   replace H := Option.bind_eq_some_iff.mp H
   obtain ⟨t1091, A80, H⟩ := H
   replace H : (if t1091 = true then ((tinplatelaw05_few.f k l1).bind fun t1092 => (if t1092 = true then ((tinplatelaw05_few.f k l2).bind fun t1093 => (if t1093 = true then (tinplatelaw05_LineAlgebra.j0 k l0 l1 l2 l3 a4 a5 (decide ((l3.length : Int) > 20))) else (tinplatelaw05_LineAlgebra.j0 k l0 l1 l2 l3 a4 a5 true))) else (tinplatelaw05_LineAlgebra.j0 k l0 l1 l2 l3 a4 a5 true))) else (tinplatelaw05_LineAlgebra.j0 k l0 l1 l2 l3 a4 a5 true)) = some r := H
   have A8 := Aside0.mk A80
   clear A80
   by_cases c9 : t1091 = true
   ·
    subst c9
    have H1 : ((tinplatelaw05_few.f k l1).bind fun t1092 => (if t1092 = true then ((tinplatelaw05_few.f k l2).bind fun t1093 => (if t1093 = true then (tinplatelaw05_LineAlgebra.j0 k l0 l1 l2 l3 a4 a5 (decide ((l3.length : Int) > 20))) else (tinplatelaw05_LineAlgebra.j0 k l0 l1 l2 l3 a4 a5 true))) else (tinplatelaw05_LineAlgebra.j0 k l0 l1 l2 l3 a4 a5 true))) = some r := by rw [if_pos rfl] at H; exact H
    clear H
    have H := H1
    clear H1
    replace H := Option.bind_eq_some_iff.mp H
    obtain ⟨t1092, A100, H⟩ := H
    replace H : (if t1092 = true then ((tinplatelaw05_few.f k l2).bind fun t1093 => (if t1093 = true then (tinplatelaw05_LineAlgebra.j0 k l0 l1 l2 l3 a4 a5 (decide ((l3.length : Int) > 20))) else (tinplatelaw05_LineAlgebra.j0 k l0 l1 l2 l3 a4 a5 true))) else (tinplatelaw05_LineAlgebra.j0 k l0 l1 l2 l3 a4 a5 true)) = some r := H
    have A10 := Aside0.mk A100
    clear A100
    by_cases c11 : t1092 = true
    ·
     subst c11
     have H1 : ((tinplatelaw05_few.f k l2).bind fun t1093 => (if t1093 = true then (tinplatelaw05_LineAlgebra.j0 k l0 l1 l2 l3 a4 a5 (decide ((l3.length : Int) > 20))) else (tinplatelaw05_LineAlgebra.j0 k l0 l1 l2 l3 a4 a5 true))) = some r := by rw [if_pos rfl] at H; exact H
     clear H
     have H := H1
     clear H1
     replace H := Option.bind_eq_some_iff.mp H
     obtain ⟨t1093, A120, H⟩ := H
     replace H : (if t1093 = true then (tinplatelaw05_LineAlgebra.j0 k l0 l1 l2 l3 a4 a5 (decide ((l3.length : Int) > 20))) else (tinplatelaw05_LineAlgebra.j0 k l0 l1 l2 l3 a4 a5 true)) = some r := H
     have A12 := Aside0.mk A120
     clear A120
     by_cases c13 : t1093 = true
     ·
      subst c13
      have H1 : (tinplatelaw05_LineAlgebra.j0 k l0 l1 l2 l3 a4 a5 (decide ((l3.length : Int) > 20))) = some r := by rw [if_pos rfl] at H; exact H
      clear H
      have H := H1
      clear H1
      have H' := Aside0.mk H
      clear H
      go_wp2_with (first | ((with_reducible refine gate_callee (f := 12) rfl ?_); refine goesL_ (some 29) rfl rfl Try.func12 (by kernel_rfl) rfl #[.slice A0 l0.length c0] rfl (by (try simp only [List.map_toArray, List.map_cons, List.map_nil]); first | done | rfl | (simp only [List.length_drop, List.length_take]; rfl)) ?_; (with_reducible refine (tinplatelaw05_few.calls k _ _ l0 true _ ?side1 ?side2 A8.out).mono ?_); (case side1 => repeat (first | exact (Kd.C_below HR0.out HB.out) | (with_reducible refine Kd.C_alloc ?_ _) | (with_reducible refine Kd.C_drewN ?_ _) | (with_reducible refine Kd.C_drew ?_))); (case side2 => exact HC0.out); rintro e w' ⟨rfl, ⟨nd, rfl⟩⟩; refine ⟨_, rfl, ?_⟩) | (go_at_call 12; (with_reducible refine (tinplatelaw05_few.calls k _ _ l1 true _ ?side1 ?side2 A10.out).mono ?_); (case side1 => repeat (first | exact (Kd.C_below HR1.out (by repeat (first | (with_reducible first | exact HB.out | apply below_alloc | apply pw_below_drewN | apply below_drew1) | exact HB.out))) | (with_reducible refine Kd.C_alloc ?_ _) | (with_reducible refine Kd.C_drewN ?_ _) | (with_reducible refine Kd.C_drew ?_))); (case side2 => exact HC1.out); rintro e w' ⟨rfl, ⟨nd, rfl⟩⟩) | (go_at_call 12; (with_reducible refine (tinplatelaw05_few.calls k _ _ l2 true _ ?side1 ?side2 A12.out).mono ?_); (case side1 => repeat (first | exact (Kd.C_below HR2.out (by repeat (first | (with_reducible first | exact HB.out | apply below_alloc | apply pw_below_drewN | apply below_drew1) | exact HB.out))) | (with_reducible refine Kd.C_alloc ?_ _) | (with_reducible refine Kd.C_drewN ?_ _) | (with_reducible refine Kd.C_drew ?_))); (case side2 => exact HC2.out); rintro e w' ⟨rfl, ⟨nd, rfl⟩⟩))
      go_meet
      case rel => exact ⟨_, (decide ((l3.length : Int) > 20)), (by first | rfl | (simp; done) | (simp [*]; done)), H', ⟨by first | omega | exact Nat.le_refl _⟩, ⟨by repeat (first | (with_reducible first | exact HB.out | apply below_alloc | apply pw_below_drewN | apply below_drew1) | exact HB.out)⟩⟩
     ·
      replace c13 := Bool.eq_false_iff.mpr c13
      subst c13
      have H1 : (tinplatelaw05_LineAlgebra.j0 k l0 l1 l2 l3 a4 a5 true) = some r := by rw [if_neg (show ¬ (false = true) by decide)] at H; exact H
      clear H
      have H := H1
      clear H1
      have H' := Aside0.mk H
      clear H
      go_wp2_with (first | ((with_reducible refine gate_callee (f := 12) rfl ?_); refine goesL_ (some 29) rfl rfl Try.func12 (by kernel_rfl) rfl #[.slice A0 l0.length c0] rfl (by (try simp only [List.map_toArray, List.map_cons, List.map_nil]); first | done | rfl | (simp only [List.length_drop, List.length_take]; rfl)) ?_; (with_reducible refine (tinplatelaw05_few.calls k _ _ l0 true _ ?side1 ?side2 A8.out).mono ?_); (case side1 => repeat (first | exact (Kd.C_below HR0.out HB.out) | (with_reducible refine Kd.C_alloc ?_ _) | (with_reducible refine Kd.C_drewN ?_ _) | (with_reducible refine Kd.C_drew ?_))); (case side2 => exact HC0.out); rintro e w' ⟨rfl, ⟨nd, rfl⟩⟩; refine ⟨_, rfl, ?_⟩) | (go_at_call 12; (with_reducible refine (tinplatelaw05_few.calls k _ _ l1 true _ ?side1 ?side2 A10.out).mono ?_); (case side1 => repeat (first | exact (Kd.C_below HR1.out (by repeat (first | (with_reducible first | exact HB.out | apply below_alloc | apply pw_below_drewN | apply below_drew1) | exact HB.out))) | (with_reducible refine Kd.C_alloc ?_ _) | (with_reducible refine Kd.C_drewN ?_ _) | (with_reducible refine Kd.C_drew ?_))); (case side2 => exact HC1.out); rintro e w' ⟨rfl, ⟨nd, rfl⟩⟩) | (go_at_call 12; (with_reducible refine (tinplatelaw05_few.calls k _ _ l2 false _ ?side1 ?side2 A12.out).mono ?_); (case side1 => repeat (first | exact (Kd.C_below HR2.out (by repeat (first | (with_reducible first | exact HB.out | apply below_alloc | apply pw_below_drewN | apply below_drew1) | exact HB.out))) | (with_reducible refine Kd.C_alloc ?_ _) | (with_reducible refine Kd.C_drewN ?_ _) | (with_reducible refine Kd.C_drew ?_))); (case side2 => exact HC2.out); rintro e w' ⟨rfl, ⟨nd, rfl⟩⟩))
      go_meet
      case rel => exact ⟨_, (true), (by first | rfl | (simp; done) | (simp [*]; done)), H', ⟨by first | omega | exact Nat.le_refl _⟩, ⟨by repeat (first | (with_reducible first | exact HB.out | apply below_alloc | apply pw_below_drewN | apply below_drew1) | exact HB.out)⟩⟩
    ·
     replace c11 := Bool.eq_false_iff.mpr c11
     subst c11
     have H1 : (tinplatelaw05_LineAlgebra.j0 k l0 l1 l2 l3 a4 a5 true) = some r := by rw [if_neg (show ¬ (false = true) by decide)] at H; exact H
     clear H
     have H := H1
     clear H1
     have H' := Aside0.mk H
     clear H
     go_wp2_with (first | ((with_reducible refine gate_callee (f := 12) rfl ?_); refine goesL_ (some 29) rfl rfl Try.func12 (by kernel_rfl) rfl #[.slice A0 l0.length c0] rfl (by (try simp only [List.map_toArray, List.map_cons, List.map_nil]); first | done | rfl | (simp only [List.length_drop, List.length_take]; rfl)) ?_; (with_reducible refine (tinplatelaw05_few.calls k _ _ l0 true _ ?side1 ?side2 A8.out).mono ?_); (case side1 => repeat (first | exact (Kd.C_below HR0.out HB.out) | (with_reducible refine Kd.C_alloc ?_ _) | (with_reducible refine Kd.C_drewN ?_ _) | (with_reducible refine Kd.C_drew ?_))); (case side2 => exact HC0.out); rintro e w' ⟨rfl, ⟨nd, rfl⟩⟩; refine ⟨_, rfl, ?_⟩) | (go_at_call 12; (with_reducible refine (tinplatelaw05_few.calls k _ _ l1 false _ ?side1 ?side2 A10.out).mono ?_); (case side1 => repeat (first | exact (Kd.C_below HR1.out (by repeat (first | (with_reducible first | exact HB.out | apply below_alloc | apply pw_below_drewN | apply below_drew1) | exact HB.out))) | (with_reducible refine Kd.C_alloc ?_ _) | (with_reducible refine Kd.C_drewN ?_ _) | (with_reducible refine Kd.C_drew ?_))); (case side2 => exact HC1.out); rintro e w' ⟨rfl, ⟨nd, rfl⟩⟩))
     go_meet
     case rel => exact ⟨_, (true), (by first | rfl | (simp; done) | (simp [*]; done)), H', ⟨by first | omega | exact Nat.le_refl _⟩, ⟨by repeat (first | (with_reducible first | exact HB.out | apply below_alloc | apply pw_below_drewN | apply below_drew1) | exact HB.out)⟩⟩
   ·
    replace c9 := Bool.eq_false_iff.mpr c9
    subst c9
    have H1 : (tinplatelaw05_LineAlgebra.j0 k l0 l1 l2 l3 a4 a5 true) = some r := by rw [if_neg (show ¬ (false = true) by decide)] at H; exact H
    clear H
    have H := H1
    clear H1
    have H' := Aside0.mk H
    clear H
    go_wp2_with (first | ((with_reducible refine gate_callee (f := 12) rfl ?_); refine goesL_ (some 29) rfl rfl Try.func12 (by kernel_rfl) rfl #[.slice A0 l0.length c0] rfl (by (try simp only [List.map_toArray, List.map_cons, List.map_nil]); first | done | rfl | (simp only [List.length_drop, List.length_take]; rfl)) ?_; (with_reducible refine (tinplatelaw05_few.calls k _ _ l0 false _ ?side1 ?side2 A8.out).mono ?_); (case side1 => repeat (first | exact (Kd.C_below HR0.out HB.out) | (with_reducible refine Kd.C_alloc ?_ _) | (with_reducible refine Kd.C_drewN ?_ _) | (with_reducible refine Kd.C_drew ?_))); (case side2 => exact HC0.out); rintro e w' ⟨rfl, ⟨nd, rfl⟩⟩; refine ⟨_, rfl, ?_⟩))
    go_meet
    case rel => exact ⟨_, (true), (by first | rfl | (simp; done) | (simp [*]; done)), H', ⟨by first | omega | exact Nat.le_refl _⟩, ⟨by repeat (first | (with_reducible first | exact HB.out | apply below_alloc | apply pw_below_drewN | apply below_drew1) | exact HB.out)⟩⟩
 case rest =>
  as_aux_lemma =>
   clear HC7
   try clear c1
   try clear c2
   try clear p2
   try clear c3
   try clear c9
   try clear c10
   try clear c11
   try clear c12
   try clear c13
   obtain ⟨kq, x45_6, rfl, HA, HJ6, HB⟩ := hcut
   cases kq with
   | zero => exact absurd HA.out (by simp [tinplatelaw05_LineAlgebra.j0])
   | succ kj6 =>
    have H := HA.out
    clear HA
    simp only [tinplatelaw05_LineAlgebra.j0] at H
    by_cases c14 : x45_6 = true
    ·
     subst c14
     have H1 : ((tinplatelaw05_alive.f kj6).bind fun t1094 => (some t1094)) = some r := by rw [if_pos rfl] at H; exact H
     clear H
     have H := H1
     clear H1
     replace H := Option.bind_eq_some_iff.mp H
     obtain ⟨t1094, A150, H⟩ := H
     replace H : (some t1094) = some r := H
     have A15 := Aside0.mk A150
     clear A150
     obtain rfl := Option.some.inj H
     go_wp2_with (first | ((with_reducible refine gate_callee (f := 13) rfl ?_); refine goesL_ (some 46) rfl rfl Try.func13 (by kernel_rfl) rfl #[] rfl (by (try simp only [List.map_toArray, List.map_cons, List.map_nil]); first | done | rfl | (simp only [List.length_drop, List.length_take]; rfl)) ?_; (with_reducible refine (tinplatelaw05_alive.calls kj6  t1094 _ A15.out).mono ?_); rintro e w16 ⟨rfl, hb⟩; refine ⟨_, rfl, ?_⟩; have n0_ := Aside0.mk (below_step (by repeat (first | (with_reducible first | exact HB.out | apply below_alloc | apply pw_below_drewN | apply below_drew1) | exact HB.out)) hb); clear HB; have HB := n0_; clear n0_; (try clear hb); (try clear hb2); (try clear hk); (try clear hi)))
     go_ret
     exact ⟨by first | rfl | (simp [errW_none, errW_some] <;> rfl) | (simp [*, errW_none, errW_some] <;> rfl), by repeat (first | (with_reducible first | exact HB.out | apply below_alloc | apply pw_below_drewN | apply below_drew1) | exact HB.out)⟩
    ·
     replace c14 := Bool.eq_false_iff.mpr c14
     subst c14
     have H1 : ((line_Multiply.f kj6 l0 l1).bind fun bt1095 => ((line_Multiply.f kj6 l1 l2).bind fun bt1099 => (if bt1095.2 = 0 then (if bt1099.2 = 0 then ((tinplatelaw05_within.f kj6 bt1095.1).bind fun t1103 => (if t1103 = true then ((tinplatelaw05_within.f kj6 bt1099.1).bind fun t1104 => (tinplatelaw05_LineAlgebra.j1 kj6 l0 l2 l3 a4 a5 bt1095.1 bt1099.1 t1104)) else (tinplatelaw05_LineAlgebra.j1 kj6 l0 l2 l3 a4 a5 bt1095.1 bt1099.1 false))) else (tinplatelaw05_LineAlgebra.j1 kj6 l0 l2 l3 a4 a5 bt1095.1 bt1099.1 false)) else (tinplatelaw05_LineAlgebra.j1 kj6 l0 l2 l3 a4 a5 bt1095.1 bt1099.1 false)))) = some r := by rw [if_neg (show ¬ (false = true) by decide)] at H; exact H
     clear H
     have H := H1
     clear H1
     replace H := Option.bind_eq_some_iff.mp H
     obtain ⟨⟨t1095, t1096⟩, A170, H⟩ := H
     replace H : ((line_Multiply.f kj6 l1 l2).bind fun bt1099 => (if t1096 = 0 then (if bt1099.2 = 0 then ((tinplatelaw05_within.f kj6 t1095).bind fun t1103 => (if t1103 = true then ((tinplatelaw05_within.f kj6 bt1099.1).bind fun t1104 => (tinplatelaw05_LineAlgebra.j1 kj6 l0 l2 l3 a4 a5 t1095 bt1099.1 t1104)) else (tinplatelaw05_LineAlgebra.j1 kj6 l0 l2 l3 a4 a5 t1095 bt1099.1 false))) else (tinplatelaw05_LineAlgebra.j1 kj6 l0 l2 l3 a4 a5 t1095 bt1099.1 false)) else (tinplatelaw05_LineAlgebra.j1 kj6 l0 l2 l3 a4 a5 t1095 bt1099.1 false))) = some r := H
     have A17 := Aside0.mk A170
     clear A170
     replace H := Option.bind_eq_some_iff.mp H
     obtain ⟨⟨t1099, t1100⟩, A180, H⟩ := H
     replace H : (if t1096 = 0 then (if t1100 = 0 then ((tinplatelaw05_within.f kj6 t1095).bind fun t1103 => (if t1103 = true then ((tinplatelaw05_within.f kj6 t1099).bind fun t1104 => (tinplatelaw05_LineAlgebra.j1 kj6 l0 l2 l3 a4 a5 t1095 t1099 t1104)) else (tinplatelaw05_LineAlgebra.j1 kj6 l0 l2 l3 a4 a5 t1095 t1099 false))) else (tinplatelaw05_LineAlgebra.j1 kj6 l0 l2 l3 a4 a5 t1095 t1099 false)) else (tinplatelaw05_LineAlgebra.j1 kj6 l0 l2 l3 a4 a5 t1095 t1099 false)) = some r := H
     have A18 := Aside0.mk A180
     clear A180
     have HC19 := Aside0.mk H
     clear H
     go_upto_region 5 with (first | ((with_reducible refine gate_callee (f := 37) rfl ?_); refine goesL_ (some 50) rfl rfl Try.func37 (by kernel_rfl) rfl #[.slice A0 l0.length c0, .slice A1 l1.length c1] rfl (by (try simp only [List.map_toArray, List.map_cons, List.map_nil]); first | done | rfl | (simp only [List.length_drop, List.length_take]; rfl)) ?_; (with_reducible refine (line_Multiply.calls kj6 _ _ l0 _ _ l1 t1095 t1096 _ ?side1 ?side2 ?side3 ?side4 A17.out).mono ?_); (case side1 => repeat (first | exact (Kd.C_below HR0.out HB.out) | (with_reducible refine Kd.C_alloc ?_ _) | (with_reducible refine Kd.C_drewN ?_ _) | (with_reducible refine Kd.C_drew ?_))); (case side2 => exact HC0.out); (case side3 => repeat (first | exact (Kd.C_below HR1.out HB.out) | (with_reducible refine Kd.C_alloc ?_ _) | (with_reducible refine Kd.C_drewN ?_ _) | (with_reducible refine Kd.C_drew ?_))); (case side4 => exact HC1.out); rintro e w20 ⟨v1097, rfl, ho0, hb⟩; refine ⟨_, rfl, ?_⟩; have n0_ := Aside0.mk (Kd.S_lower ho0 (below_size (by repeat (first | (with_reducible first | exact HB.out | apply below_alloc | apply pw_below_drewN | apply below_drew1) | exact HB.out)))); have n1_ := Aside0.mk (below_step (by repeat (first | (with_reducible first | exact HB.out | apply below_alloc | apply pw_below_drewN | apply below_drew1) | exact HB.out)) hb); clear HB; have HO1098 := n0_; have HB := n1_; clear n0_ n1_; (try clear hb); (try clear hb2); (try clear hk); (try clear hi); (try clear ho0)) | ((with_reducible refine gate_callee (f := 37) rfl ?_); refine goesL_ (some 56) rfl rfl Try.func37 (by kernel_rfl) rfl #[.slice A1 l1.length c1, .slice A2 l2.length c2] rfl (by (try simp only [List.map_toArray, List.map_cons, List.map_nil]); first | done | rfl | (simp only [List.length_drop, List.length_take]; rfl)) ?_; (with_reducible refine (line_Multiply.calls kj6 _ _ l1 _ _ l2 t1099 t1100 _ ?side1 ?side2 ?side3 ?side4 A18.out).mono ?_); (case side1 => repeat (first | exact (Kd.C_below HR1.out HB.out) | (with_reducible refine Kd.C_alloc ?_ _) | (with_reducible refine Kd.C_drewN ?_ _) | (with_reducible refine Kd.C_drew ?_))); (case side2 => exact HC1.out); (case side3 => repeat (first | exact (Kd.C_below HR2.out HB.out) | (with_reducible refine Kd.C_alloc ?_ _) | (with_reducible refine Kd.C_drewN ?_ _) | (with_reducible refine Kd.C_drew ?_))); (case side4 => exact HC2.out); rintro e w21 ⟨v1101, rfl, ho0, hb⟩; refine ⟨_, rfl, ?_⟩; have n0_ := Aside0.mk (Kd.S_elder' (by (with_reducible repeat (first | apply Kd.S_alloc | apply Kd.S_drewN | apply Kd.S_drew)); exact HO1098.out) (Kd.S_base ho0) hb); have n1_ := Aside0.mk (Kd.S_lower (Kd.S_new' ho0 (Kd.S_lt (by (with_reducible repeat (first | apply Kd.S_alloc | apply Kd.S_drewN | apply Kd.S_drew)); exact HO1098.out))) (below_size (by repeat (first | (with_reducible first | exact HB.out | apply below_alloc | apply pw_below_drewN | apply below_drew1) | exact HB.out)))); have n2_ := Aside0.mk (below_step (by repeat (first | (with_reducible first | exact HB.out | apply below_alloc | apply pw_below_drewN | apply below_drew1) | exact HB.out)) hb); clear HO1098; clear HB; have HO1098 := n0_; have HO1102 := n1_; have HB := n2_; clear n0_ n1_ n2_; (try clear hb); (try clear hb2); (try clear hk); (try clear hi); (try clear ho0)))
     (try simp only [Act.put, List.setIfInBounds_toArray, List.set_cons_zero, List.set_cons_succ])
     go_cut [72] (fun v72 wc => ∃ (kq : Nat) (x72_18 : Bool), v72 = .bool x72_18 ∧ Aside0 (tinplatelaw05_LineAlgebra.j1 kq l0 l2 l3 a4 a5 t1095 t1099 x72_18 = some r) ∧ Aside0 (kq ≤ kj6) ∧ Aside0 (Kd.S (Kd.slice 3 (Kd.int .i64)) 26 wc w.heap.size (fun k_ => some k_ ≠ (v1101 : Value).ownBlock) v1097 t1095) ∧ Aside0 (Kd.S (Kd.slice 3 (Kd.int .i64)) 26 wc w.heap.size (fun k_ => some k_ ≠ (v1097 : Value).ownBlock) v1101 t1099) ∧ Aside0 (Below w.heap.size w wc))
     case first =>
      as_aux_lemma =>
       have H := HC19.out
       clear HC19
       by_cases c22 : t1096 = 0
       ·
        rw [if_pos c22] at H
        have c22b0 : (t1096 == 0) = true := beq_iff_eq.mpr c22
        have c22b1 : (t1096 != 0) = false := bne_eq_false_iff_eq.mpr c22
        clear c22
        (first | rw [c22b0] | (simp only [i64_w, i32_w]; rw [c22b0]) | skip)
        by_cases c23 : t1100 = 0
        ·
         rw [if_pos c23] at H
         have c23b0 : (t1100 == 0) = true := beq_iff_eq.mpr c23
         have c23b1 : (t1100 != 0) = false := bne_eq_false_iff_eq.mpr c23
         clear c23
         replace H := Option.bind_eq_some_iff.mp H
         obtain ⟨t1103, A240, H⟩ := H
         replace H : (if t1103 = true then ((tinplatelaw05_within.f kj6 t1099).bind fun t1104 => (tinplatelaw05_LineAlgebra.j1 kj6 l0 l2 l3 a4 a5 t1095 t1099 t1104)) else (tinplatelaw05_LineAlgebra.j1 kj6 l0 l2 l3 a4 a5 t1095 t1099 false)) = some r := H
         have A24 := Aside0.mk A240
         clear A240
         by_cases c25 : t1103 = true
         ·
          subst c25
          have H1 : ((tinplatelaw05_within.f kj6 t1099).bind fun t1104 => (tinplatelaw05_LineAlgebra.j1 kj6 l0 l2 l3 a4 a5 t1095 t1099 t1104)) = some r := by rw [if_pos rfl] at H; exact H
          clear H
          have H := H1
          clear H1
          replace H := Option.bind_eq_some_iff.mp H
          obtain ⟨t1104, A260, H⟩ := H
          replace H : (tinplatelaw05_LineAlgebra.j1 kj6 l0 l2 l3 a4 a5 t1095 t1099 t1104) = some r := H
          have A26 := Aside0.mk A260
          clear A260
          have H' := Aside0.mk H
          clear H
          obtain ⟨Ao27, co27, eo27⟩ := Kd.S_slice HO1098.out
          subst eo27
          go_wp2_with (first | (go_at_call 43; (with_reducible refine (tinplatelaw05_within.calls kj6 _ _ t1095 true _ ?side1 ?side2 A24.out).mono ?_); (case side1 => repeat (first | exact (Kd.S_reads' HO1098.out).2.2 | (with_reducible refine Kd.C_alloc ?_ _) | (with_reducible refine Kd.C_drewN ?_ _) | (with_reducible refine Kd.C_drew ?_))); (case side2 => exact (Kd.S_reads' HO1098.out).2.1); rintro e w' ⟨rfl, ⟨nd, rfl⟩⟩; obtain ⟨Ao28, co28, eo28⟩ := Kd.S_slice HO1102.out; subst eo28) | (go_at_call 43; (with_reducible refine (tinplatelaw05_within.calls kj6 _ _ t1099 t1104 _ ?side1 ?side2 A26.out).mono ?_); (case side1 => repeat (first | exact (Kd.S_reads' HO1102.out).2.2 | (with_reducible refine Kd.C_alloc ?_ _) | (with_reducible refine Kd.C_drewN ?_ _) | (with_reducible refine Kd.C_drew ?_))); (case side2 => exact (Kd.S_reads' HO1102.out).2.1); rintro e w' ⟨rfl, ⟨nd, rfl⟩⟩))
          go_meet
          case rel => exact ⟨_, (t1104), (by first | rfl | (simp; done) | (simp [*]; done)), H', ⟨by have := HJ6.out; first | omega | exact Nat.le_refl _⟩, ⟨by (with_reducible repeat (first | apply Kd.S_alloc | apply Kd.S_drewN | apply Kd.S_drew)); exact Kd.S_mono HO1098.out (fun _ hk => hk.2)⟩, ⟨by (with_reducible repeat (first | apply Kd.S_alloc | apply Kd.S_drewN | apply Kd.S_drew)); exact Kd.S_mono HO1102.out (fun _ hk => hk.2)⟩, ⟨by repeat (first | (with_reducible first | exact HB.out | apply below_alloc | apply pw_below_drewN | apply below_drew1) | exact HB.out)⟩⟩
         ·
          replace c25 := Bool.eq_false_iff.mpr c25
          subst c25
          have H1 : (tinplatelaw05_LineAlgebra.j1 kj6 l0 l2 l3 a4 a5 t1095 t1099 false) = some r := by rw [if_neg (show ¬ (false = true) by decide)] at H; exact H
          clear H
          have H := H1
          clear H1
          have H' := Aside0.mk H
          clear H
          obtain ⟨Ao29, co29, eo29⟩ := Kd.S_slice HO1098.out
          subst eo29
          go_wp2_with (first | (go_at_call 43; (with_reducible refine (tinplatelaw05_within.calls kj6 _ _ t1095 false _ ?side1 ?side2 A24.out).mono ?_); (case side1 => repeat (first | exact (Kd.S_reads' HO1098.out).2.2 | (with_reducible refine Kd.C_alloc ?_ _) | (with_reducible refine Kd.C_drewN ?_ _) | (with_reducible refine Kd.C_drew ?_))); (case side2 => exact (Kd.S_reads' HO1098.out).2.1); rintro e w' ⟨rfl, ⟨nd, rfl⟩⟩))
          go_meet
          case rel => exact ⟨_, (false), (by first | rfl | (simp; done) | (simp [*]; done)), H', ⟨by have := HJ6.out; first | omega | exact Nat.le_refl _⟩, ⟨by (with_reducible repeat (first | apply Kd.S_alloc | apply Kd.S_drewN | apply Kd.S_drew)); exact Kd.S_mono HO1098.out (fun _ hk => hk.2)⟩, ⟨by (with_reducible repeat (first | apply Kd.S_alloc | apply Kd.S_drewN | apply Kd.S_drew)); exact Kd.S_mono HO1102.out (fun _ hk => hk.2)⟩, ⟨by repeat (first | (with_reducible first | exact HB.out | apply below_alloc | apply pw_below_drewN | apply below_drew1) | exact HB.out)⟩⟩
        ·
         rw [if_neg c23] at H
         have c23b0 : (t1100 == 0) = false := beq_eq_false_iff_ne.mpr c23
         have c23b1 : (t1100 != 0) = true := bne_iff_ne.mpr c23
         have H' := Aside0.mk H
         clear H
         go_wp2
         go_meet
         case rel => exact ⟨_, (false), (by first | rfl | (simp; done) | (simp [*]; done)), H', ⟨by have := HJ6.out; first | omega | exact Nat.le_refl _⟩, ⟨by (with_reducible repeat (first | apply Kd.S_alloc | apply Kd.S_drewN | apply Kd.S_drew)); exact Kd.S_mono HO1098.out (fun _ hk => hk.2)⟩, ⟨by (with_reducible repeat (first | apply Kd.S_alloc | apply Kd.S_drewN | apply Kd.S_drew)); exact Kd.S_mono HO1102.out (fun _ hk => hk.2)⟩, ⟨by repeat (first | (with_reducible first | exact HB.out | apply below_alloc | apply pw_below_drewN | apply below_drew1) | exact HB.out)⟩⟩
       ·
        rw [if_neg c22] at H
        have c22b0 : (t1096 == 0) = false := beq_eq_false_iff_ne.mpr c22
        have c22b1 : (t1096 != 0) = true := bne_iff_ne.mpr c22
        (first | rw [c22b0] | (simp only [i64_w, i32_w]; rw [c22b0]) | skip)
        have H' := Aside0.mk H
        clear H
        go_wp2
        go_meet
        case rel => exact ⟨_, (false), (by first | rfl | (simp; done) | (simp [*]; done)), H', ⟨by have := HJ6.out; first | omega | exact Nat.le_refl _⟩, ⟨by (with_reducible repeat (first | apply Kd.S_alloc | apply Kd.S_drewN | apply Kd.S_drew)); exact Kd.S_mono HO1098.out (fun _ hk => hk.2)⟩, ⟨by (with_reducible repeat (first | apply Kd.S_alloc | apply Kd.S_drewN | apply Kd.S_drew)); exact Kd.S_mono HO1102.out (fun _ hk => hk.2)⟩, ⟨by repeat (first | (with_reducible first | exact HB.out | apply below_alloc | apply pw_below_drewN | apply below_drew1) | exact HB.out)⟩⟩
     case rest =>
      as_aux_lemma =>
       clear HC19
       try clear c1
       try clear c2
       try clear p2
       try clear c3
       try clear c9
       try clear c10
       try clear c11
       try clear c12
       try clear c13
       try clear c14
       try clear c22
       try clear c22b0
       try clear c22b1
       try clear c23
       try clear c23b0
       try clear c23b1
       try clear c25
       try clear p2
       obtain ⟨kq, x72_18, rfl, HA, HJ18, HO_13, HO_15, HB⟩ := hcut
       cases kq with
       | zero => exact absurd HA.out (by simp [tinplatelaw05_LineAlgebra.j1])
       | succ kj18 =>
        have H := HA.out
        clear HA
        simp only [tinplatelaw05_LineAlgebra.j1] at H
        have HC30 := Aside0.mk H
        clear H
        go_upto_if 72 with (fail)
        go_cut [] (fun wc => ∃ (kq : Nat), Aside0 (tinplatelaw05_LineAlgebra.j2 kq l0 l3 a4 a5 = some r) ∧ Aside0 (kq ≤ kj18) ∧ Aside0 (Below w.heap.size w wc))
        case first =>
         as_aux_lemma =>
          have H := HC30.out
          clear HC30
          by_cases c31 : x72_18 = true
          ·
           subst c31
           have H1 : ((line_Multiply.f kj18 t1095 l2).bind fun bt1105 => ((line_Multiply.f kj18 l0 t1099).bind fun bt1109 => (if bt1105.2 = 0 then (if bt1109.2 = 0 then ((tinplatelaw05_rows.f kj18 bt1105.1 bt1109.1).bind fun t1113 => (if t1113 = true then (tinplatelaw05_LineAlgebra.j2 kj18 l0 l3 a4 a5) else (some false))) else (some false)) else (some false)))) = some r := by rw [if_pos rfl] at H; exact H
           clear H
           have H := H1
           clear H1
           replace H := Option.bind_eq_some_iff.mp H
           obtain ⟨⟨t1105, t1106⟩, A320, H⟩ := H
           replace H : ((line_Multiply.f kj18 l0 t1099).bind fun bt1109 => (if t1106 = 0 then (if bt1109.2 = 0 then ((tinplatelaw05_rows.f kj18 t1105 bt1109.1).bind fun t1113 => (if t1113 = true then (tinplatelaw05_LineAlgebra.j2 kj18 l0 l3 a4 a5) else (some false))) else (some false)) else (some false))) = some r := H
           have A32 := Aside0.mk A320
           clear A320
           replace H := Option.bind_eq_some_iff.mp H
           obtain ⟨⟨t1109, t1110⟩, A330, H⟩ := H
           replace H : (if t1106 = 0 then (if t1110 = 0 then ((tinplatelaw05_rows.f kj18 t1105 t1109).bind fun t1113 => (if t1113 = true then (tinplatelaw05_LineAlgebra.j2 kj18 l0 l3 a4 a5) else (some false))) else (some false)) else (some false)) = some r := H
           have A33 := Aside0.mk A330
           clear A330
           by_cases c34 : t1106 = 0
           ·
            rw [if_pos c34] at H
            have c34b0 : (t1106 == 0) = true := beq_iff_eq.mpr c34
            have c34b1 : (t1106 != 0) = false := bne_eq_false_iff_eq.mpr c34
            clear c34
            (first | rw [c34b0] | (simp only [i64_w, i32_w]; rw [c34b0]) | skip)
            by_cases c35 : t1110 = 0
            ·
             rw [if_pos c35] at H
             have c35b0 : (t1110 == 0) = true := beq_iff_eq.mpr c35
             have c35b1 : (t1110 != 0) = false := bne_eq_false_iff_eq.mpr c35
             clear c35
             replace H := Option.bind_eq_some_iff.mp H
             obtain ⟨t1113, A360, H⟩ := H
             replace H : (if t1113 = true then (tinplatelaw05_LineAlgebra.j2 kj18 l0 l3 a4 a5) else (some false)) = some r := H
             have A36 := Aside0.mk A360
             clear A360
             by_cases c37 : t1113 = true
             ·
              subst c37
              have H1 : (tinplatelaw05_LineAlgebra.j2 kj18 l0 l3 a4 a5) = some r := by rw [if_pos rfl] at H; exact H
              clear H
              have H := H1
              clear H1
              have H' := Aside0.mk H
              clear H
              obtain ⟨Ao38, co38, eo38⟩ := Kd.S_slice HO_13.out
              subst eo38
              go_wp2_with (first | ((with_reducible refine gate_callee (f := 37) rfl ?_); refine goesL_ (some 76) rfl rfl Try.func37 (by kernel_rfl) rfl #[.slice Ao38 t1095.length co38, .slice A2 l2.length c2] rfl (by (try simp only [List.map_toArray, List.map_cons, List.map_nil]); first | done | rfl | (simp only [List.length_drop, List.length_take]; rfl)) ?_; (with_reducible refine (line_Multiply.calls kj18 _ _ t1095 _ _ l2 t1105 t1106 _ ?side1 ?side2 ?side3 ?side4 A32.out).mono ?_); (case side1 => repeat (first | exact (Kd.S_reads' HO_13.out).2.2 | (with_reducible refine Kd.C_alloc ?_ _) | (with_reducible refine Kd.C_drewN ?_ _) | (with_reducible refine Kd.C_drew ?_))); (case side2 => exact (Kd.S_reads' HO_13.out).2.1); (case side3 => repeat (first | exact (Kd.C_below HR2.out HB.out) | (with_reducible refine Kd.C_alloc ?_ _) | (with_reducible refine Kd.C_drewN ?_ _) | (with_reducible refine Kd.C_drew ?_))); (case side4 => exact HC2.out); rintro e w39 ⟨v1107, rfl, ho0, hb⟩; refine ⟨_, rfl, ?_⟩; have n0_ := Aside0.mk (Kd.S_elder' (by (with_reducible repeat (first | apply Kd.S_alloc | apply Kd.S_drewN | apply Kd.S_drew)); exact HO_13.out) (Kd.S_base ho0) hb); have n1_ := Aside0.mk (Kd.S_elder' (by (with_reducible repeat (first | apply Kd.S_alloc | apply Kd.S_drewN | apply Kd.S_drew)); exact HO_15.out) (Kd.S_base ho0) hb); have n2_ := Aside0.mk (Kd.S_lower (Kd.S_new' (Kd.S_new' ho0 (Kd.S_lt (by (with_reducible repeat (first | apply Kd.S_alloc | apply Kd.S_drewN | apply Kd.S_drew)); exact HO_13.out))) (Kd.S_lt (by (with_reducible repeat (first | apply Kd.S_alloc | apply Kd.S_drewN | apply Kd.S_drew)); exact HO_15.out))) (below_size (by repeat (first | (with_reducible first | exact HB.out | apply below_alloc | apply pw_below_drewN | apply below_drew1) | exact HB.out)))); have n3_ := Aside0.mk (below_step (by repeat (first | (with_reducible first | exact HB.out | apply below_alloc | apply pw_below_drewN | apply below_drew1) | exact HB.out)) hb); clear HO_13; clear HO_15; clear HB; have HO_13 := n0_; have HO_15 := n1_; have HO1108 := n2_; have HB := n3_; clear n0_ n1_ n2_ n3_; (try clear hb); (try clear hb2); (try clear hk); (try clear hi); (try clear ho0); obtain ⟨Ao40, co40, eo40⟩ := Kd.S_slice HO_15.out; subst eo40) | ((with_reducible refine gate_callee (f := 37) rfl ?_); refine goesL_ (some 82) rfl rfl Try.func37 (by kernel_rfl) rfl #[.slice A0 l0.length c0, .slice Ao40 t1099.length co40] rfl (by (try simp only [List.map_toArray, List.map_cons, List.map_nil]); first | done | rfl | (simp only [List.length_drop, List.length_take]; rfl)) ?_; (with_reducible refine (line_Multiply.calls kj18 _ _ l0 _ _ t1099 t1109 t1110 _ ?side1 ?side2 ?side3 ?side4 A33.out).mono ?_); (case side1 => repeat (first | exact (Kd.C_below HR0.out HB.out) | (with_reducible refine Kd.C_alloc ?_ _) | (with_reducible refine Kd.C_drewN ?_ _) | (with_reducible refine Kd.C_drew ?_))); (case side2 => exact HC0.out); (case side3 => repeat (first | exact (Kd.S_reads' HO_15.out).2.2 | (with_reducible refine Kd.C_alloc ?_ _) | (with_reducible refine Kd.C_drewN ?_ _) | (with_reducible refine Kd.C_drew ?_))); (case side4 => exact (Kd.S_reads' HO_15.out).2.1); rintro e w41 ⟨v1111, rfl, ho0, hb⟩; refine ⟨_, rfl, ?_⟩; have n0_ := Aside0.mk (Kd.S_elder' (by (with_reducible repeat (first | apply Kd.S_alloc | apply Kd.S_drewN | apply Kd.S_drew)); exact HO_13.out) (Kd.S_base ho0) hb); have n1_ := Aside0.mk (Kd.S_elder' (by (with_reducible repeat (first | apply Kd.S_alloc | apply Kd.S_drewN | apply Kd.S_drew)); exact HO_15.out) (Kd.S_base ho0) hb); have n2_ := Aside0.mk (Kd.S_elder' (by (with_reducible repeat (first | apply Kd.S_alloc | apply Kd.S_drewN | apply Kd.S_drew)); exact HO1108.out) (Kd.S_base ho0) hb); have n3_ := Aside0.mk (Kd.S_lower (Kd.S_new' (Kd.S_new' (Kd.S_new' ho0 (Kd.S_lt (by (with_reducible repeat (first | apply Kd.S_alloc | apply Kd.S_drewN | apply Kd.S_drew)); exact HO_13.out))) (Kd.S_lt (by (with_reducible repeat (first | apply Kd.S_alloc | apply Kd.S_drewN | apply Kd.S_drew)); exact HO_15.out))) (Kd.S_lt (by (with_reducible repeat (first | apply Kd.S_alloc | apply Kd.S_drewN | apply Kd.S_drew)); exact HO1108.out))) (below_size (by repeat (first | (with_reducible first | exact HB.out | apply below_alloc | apply pw_below_drewN | apply below_drew1) | exact HB.out)))); have n4_ := Aside0.mk (below_step (by repeat (first | (with_reducible first | exact HB.out | apply below_alloc | apply pw_below_drewN | apply below_drew1) | exact HB.out)) hb); clear HO_13; clear HO_15; clear HO1108; clear HB; have HO_13 := n0_; have HO_15 := n1_; have HO1108 := n2_; have HO1112 := n3_; have HB := n4_; clear n0_ n1_ n2_ n3_ n4_; (try clear hb); (try clear hb2); (try clear hk); (try clear hi); (try clear ho0); obtain ⟨Ao42, co42, eo42⟩ := Kd.S_slice HO1108.out; subst eo42; obtain ⟨Ao43, co43, eo43⟩ := Kd.S_slice HO1112.out; subst eo43) | (go_at_call 20; (with_reducible refine (tinplatelaw05_rows.calls kj18 _ _ t1105 _ _ t1109 true _ ?side1 ?side2 ?side3 ?side4 A36.out).mono ?_); (case side1 => repeat (first | exact (Kd.S_reads' HO1108.out).2.2 | (with_reducible refine Kd.C_alloc ?_ _) | (with_reducible refine Kd.C_drewN ?_ _) | (with_reducible refine Kd.C_drew ?_))); (case side2 => exact (Kd.S_reads' HO1108.out).2.1); (case side3 => repeat (first | exact (Kd.S_reads' HO1112.out).2.2 | (with_reducible refine Kd.C_alloc ?_ _) | (with_reducible refine Kd.C_drewN ?_ _) | (with_reducible refine Kd.C_drew ?_))); (case side4 => exact (Kd.S_reads' HO1112.out).2.1); rintro e w' ⟨rfl, ⟨nd, rfl⟩⟩))
              go_meet
              case rel => exact ⟨_, H', ⟨by have := HJ6.out; have := HJ18.out; first | omega | exact Nat.le_refl _⟩, ⟨by repeat (first | (with_reducible first | exact HB.out | apply below_alloc | apply pw_below_drewN | apply below_drew1) | exact HB.out)⟩⟩
             ·
              replace c37 := Bool.eq_false_iff.mpr c37
              subst c37
              have H1 : (some false) = some r := by rw [if_neg (show ¬ (false = true) by decide)] at H; exact H
              clear H
              have H := H1
              clear H1
              exact absurd (H.trans (congrArg some hr_.out)) (by simp)
            ·
             rw [if_neg c35] at H
             have c35b0 : (t1110 == 0) = false := beq_eq_false_iff_ne.mpr c35
             have c35b1 : (t1110 != 0) = true := bne_iff_ne.mpr c35
             exact absurd (H.trans (congrArg some hr_.out)) (by simp)
           ·
            rw [if_neg c34] at H
            have c34b0 : (t1106 == 0) = false := beq_eq_false_iff_ne.mpr c34
            have c34b1 : (t1106 != 0) = true := bne_iff_ne.mpr c34
            (first | rw [c34b0] | (simp only [i64_w, i32_w]; rw [c34b0]) | skip)
            exact absurd (H.trans (congrArg some hr_.out)) (by simp)
          ·
           replace c31 := Bool.eq_false_iff.mpr c31
           subst c31
           have H1 : (tinplatelaw05_LineAlgebra.j2 kj18 l0 l3 a4 a5) = some r := by rw [if_neg (show ¬ (false = true) by decide)] at H; exact H
           clear H
           have H := H1
           clear H1
           have H' := Aside0.mk H
           clear H
           go_wp2
           go_meet
           case rel => exact ⟨_, H', ⟨by have := HJ6.out; have := HJ18.out; first | omega | exact Nat.le_refl _⟩, ⟨by repeat (first | (with_reducible first | exact HB.out | apply below_alloc | apply pw_below_drewN | apply below_drew1) | exact HB.out)⟩⟩
        case rest =>
         as_aux_lemma =>
          clear HC30
          try clear c1
          try clear c2
          try clear p2
          try clear c3
          try clear c9
          try clear c10
          try clear c11
          try clear c12
          try clear c13
          try clear c14
          try clear c22
          try clear c22b0
          try clear c22b1
          try clear c23
          try clear c23b0
          try clear c23b1
          try clear c25
          try clear c31
          try clear c34
          try clear c34b0
          try clear c34b1
          try clear c35
          try clear c35b0
          try clear c35b1
          try clear c37
          try clear p2
          obtain ⟨kq, HA, HJ29, HB⟩ := hcut
          cases kq with
          | zero => exact absurd HA.out (by simp [tinplatelaw05_LineAlgebra.j2])
          | succ kj29 =>
           have H := HA.out
           clear HA
           simp only [tinplatelaw05_LineAlgebra.j2] at H
           replace H := Option.bind_eq_some_iff.mp H
           obtain ⟨⟨t1114, t1115⟩, A580, H⟩ := H
           replace H : ((line_Power.f kj29 l0 (wrap64 (Int.tmod a5 1000))).bind fun bt1118 => ((line_Power.f kj29 l0 (wrap64 ((wrap64 (Int.tmod a4 1000)) + (wrap64 (Int.tmod a5 1000))))).bind fun bt1122 => (if t1115 = bt1118.2 then (tinplatelaw05_LineAlgebra.j3 kj29 l0 l3 t1114 t1115 bt1118.1 (wrap64 (Int.tmod a4 1000)) (wrap64 (Int.tmod a5 1000)) bt1122.1 (bt1118.2 != bt1122.2)) else (tinplatelaw05_LineAlgebra.j3 kj29 l0 l3 t1114 t1115 bt1118.1 (wrap64 (Int.tmod a4 1000)) (wrap64 (Int.tmod a5 1000)) bt1122.1 true)))) = some r := H
           have A58 := Aside0.mk A580
           clear A580
           replace H := Option.bind_eq_some_iff.mp H
           obtain ⟨⟨t1118, t1119⟩, A590, H⟩ := H
           replace H : ((line_Power.f kj29 l0 (wrap64 ((wrap64 (Int.tmod a4 1000)) + (wrap64 (Int.tmod a5 1000))))).bind fun bt1122 => (if t1115 = t1119 then (tinplatelaw05_LineAlgebra.j3 kj29 l0 l3 t1114 t1115 t1118 (wrap64 (Int.tmod a4 1000)) (wrap64 (Int.tmod a5 1000)) bt1122.1 (t1119 != bt1122.2)) else (tinplatelaw05_LineAlgebra.j3 kj29 l0 l3 t1114 t1115 t1118 (wrap64 (Int.tmod a4 1000)) (wrap64 (Int.tmod a5 1000)) bt1122.1 true))) = some r := H
           have A59 := Aside0.mk A590
           clear A590
           replace H := Option.bind_eq_some_iff.mp H
           obtain ⟨⟨t1122, t1123⟩, A600, H⟩ := H
           replace H : (if t1115 = t1119 then (tinplatelaw05_LineAlgebra.j3 kj29 l0 l3 t1114 t1115 t1118 (wrap64 (Int.tmod a4 1000)) (wrap64 (Int.tmod a5 1000)) t1122 (t1119 != t1123)) else (tinplatelaw05_LineAlgebra.j3 kj29 l0 l3 t1114 t1115 t1118 (wrap64 (Int.tmod a4 1000)) (wrap64 (Int.tmod a5 1000)) t1122 true)) = some r := H
           have A60 := Aside0.mk A600
           clear A600
           have HC61 := Aside0.mk H
           clear H
           go_upto_region 14 with (first | ((with_reducible refine gate_callee (f := 40) rfl ?_); refine goesL_ (some 106) rfl rfl Try.func40 (by kernel_rfl) rfl #[.slice A0 l0.length c0, .int .i64 (wrap64 (Int.tmod a4 1000))] rfl (by (try simp only [List.map_toArray, List.map_cons, List.map_nil]); first | done | rfl | (simp only [List.length_drop, List.length_take]; rfl)) ?_; (with_reducible refine (line_Power.calls kj29 _ _ l0 (wrap64 (Int.tmod a4 1000)) t1114 t1115 _ ?side1 ?side2 A58.out).mono ?_); (case side1 => repeat (first | exact (Kd.C_below HR0.out HB.out) | (with_reducible refine Kd.C_alloc ?_ _) | (with_reducible refine Kd.C_drewN ?_ _) | (with_reducible refine Kd.C_drew ?_))); (case side2 => exact HC0.out); rintro e w62 ⟨v1116, rfl, ho0, hb⟩; refine ⟨_, rfl, ?_⟩; have n0_ := Aside0.mk (Kd.S_lower ho0 (below_size (by repeat (first | (with_reducible first | exact HB.out | apply below_alloc | apply pw_below_drewN | apply below_drew1) | exact HB.out)))); have n1_ := Aside0.mk (below_step (by repeat (first | (with_reducible first | exact HB.out | apply below_alloc | apply pw_below_drewN | apply below_drew1) | exact HB.out)) hb); clear HB; have HO1117 := n0_; have HB := n1_; clear n0_ n1_; (try clear hb); (try clear hb2); (try clear hk); (try clear hi); (try clear ho0)) | ((with_reducible refine gate_callee (f := 40) rfl ?_); refine goesL_ (some 112) rfl rfl Try.func40 (by kernel_rfl) rfl #[.slice A0 l0.length c0, .int .i64 (wrap64 (Int.tmod a5 1000))] rfl (by (try simp only [List.map_toArray, List.map_cons, List.map_nil]); first | done | rfl | (simp only [List.length_drop, List.length_take]; rfl)) ?_; (with_reducible refine (line_Power.calls kj29 _ _ l0 (wrap64 (Int.tmod a5 1000)) t1118 t1119 _ ?side1 ?side2 A59.out).mono ?_); (case side1 => repeat (first | exact (Kd.C_below HR0.out HB.out) | (with_reducible refine Kd.C_alloc ?_ _) | (with_reducible refine Kd.C_drewN ?_ _) | (with_reducible refine Kd.C_drew ?_))); (case side2 => exact HC0.out); rintro e w63 ⟨v1120, rfl, ho0, hb⟩; refine ⟨_, rfl, ?_⟩; have n0_ := Aside0.mk (Kd.S_elder' (by (with_reducible repeat (first | apply Kd.S_alloc | apply Kd.S_drewN | apply Kd.S_drew)); exact HO1117.out) (Kd.S_base ho0) hb); have n1_ := Aside0.mk (Kd.S_lower (Kd.S_new' ho0 (Kd.S_lt (by (with_reducible repeat (first | apply Kd.S_alloc | apply Kd.S_drewN | apply Kd.S_drew)); exact HO1117.out))) (below_size (by repeat (first | (with_reducible first | exact HB.out | apply below_alloc | apply pw_below_drewN | apply below_drew1) | exact HB.out)))); have n2_ := Aside0.mk (below_step (by repeat (first | (with_reducible first | exact HB.out | apply below_alloc | apply pw_below_drewN | apply below_drew1) | exact HB.out)) hb); clear HO1117; clear HB; have HO1117 := n0_; have HO1121 := n1_; have HB := n2_; clear n0_ n1_ n2_; (try clear hb); (try clear hb2); (try clear hk); (try clear hi); (try clear ho0)) | ((with_reducible refine gate_callee (f := 40) rfl ?_); refine goesL_ (some 120) rfl rfl Try.func40 (by kernel_rfl) rfl #[.slice A0 l0.length c0, .int .i64 (wrap64 ((wrap64 (Int.tmod a4 1000)) + (wrap64 (Int.tmod a5 1000))))] rfl (by (try simp only [List.map_toArray, List.map_cons, List.map_nil]); first | done | rfl | (simp only [List.length_drop, List.length_take]; rfl)) ?_; (with_reducible refine (line_Power.calls kj29 _ _ l0 (wrap64 ((wrap64 (Int.tmod a4 1000)) + (wrap64 (Int.tmod a5 1000)))) t1122 t1123 _ ?side1 ?side2 A60.out).mono ?_); (case side1 => repeat (first | exact (Kd.C_below HR0.out HB.out) | (with_reducible refine Kd.C_alloc ?_ _) | (with_reducible refine Kd.C_drewN ?_ _) | (with_reducible refine Kd.C_drew ?_))); (case side2 => exact HC0.out); rintro e w64 ⟨v1124, rfl, ho0, hb⟩; refine ⟨_, rfl, ?_⟩; have n0_ := Aside0.mk (Kd.S_elder' (by (with_reducible repeat (first | apply Kd.S_alloc | apply Kd.S_drewN | apply Kd.S_drew)); exact HO1117.out) (Kd.S_base ho0) hb); have n1_ := Aside0.mk (Kd.S_elder' (by (with_reducible repeat (first | apply Kd.S_alloc | apply Kd.S_drewN | apply Kd.S_drew)); exact HO1121.out) (Kd.S_base ho0) hb); have n2_ := Aside0.mk (Kd.S_lower (Kd.S_new' (Kd.S_new' ho0 (Kd.S_lt (by (with_reducible repeat (first | apply Kd.S_alloc | apply Kd.S_drewN | apply Kd.S_drew)); exact HO1117.out))) (Kd.S_lt (by (with_reducible repeat (first | apply Kd.S_alloc | apply Kd.S_drewN | apply Kd.S_drew)); exact HO1121.out))) (below_size (by repeat (first | (with_reducible first | exact HB.out | apply below_alloc | apply pw_below_drewN | apply below_drew1) | exact HB.out)))); have n3_ := Aside0.mk (below_step (by repeat (first | (with_reducible first | exact HB.out | apply below_alloc | apply pw_below_drewN | apply below_drew1) | exact HB.out)) hb); clear HO1117; clear HO1121; clear HB; have HO1117 := n0_; have HO1121 := n1_; have HO1125 := n2_; have HB := n3_; clear n0_ n1_ n2_ n3_; (try clear hb); (try clear hb2); (try clear hk); (try clear hi); (try clear ho0)))
           (try simp only [Act.put, List.setIfInBounds_toArray, List.set_cons_zero, List.set_cons_succ])
           go_cut [130] (fun v130 wc => ∃ (kq : Nat) (x130_60 : Bool), v130 = .bool x130_60 ∧ Aside0 (tinplatelaw05_LineAlgebra.j3 kq l0 l3 t1114 t1115 t1118 (wrap64 (Int.tmod a4 1000)) (wrap64 (Int.tmod a5 1000)) t1122 x130_60 = some r) ∧ Aside0 (kq ≤ kj29) ∧ Aside0 (Kd.S (Kd.slice 3 (Kd.int .i64)) 26 wc w.heap.size (fun k_ => some k_ ≠ (v1120 : Value).ownBlock ∧ some k_ ≠ (v1124 : Value).ownBlock) v1116 t1114) ∧ Aside0 (Kd.S (Kd.slice 3 (Kd.int .i64)) 26 wc w.heap.size (fun k_ => some k_ ≠ (v1116 : Value).ownBlock ∧ some k_ ≠ (v1124 : Value).ownBlock) v1120 t1118) ∧ Aside0 (Kd.S (Kd.slice 3 (Kd.int .i64)) 26 wc w.heap.size (fun k_ => some k_ ≠ (v1116 : Value).ownBlock ∧ some k_ ≠ (v1120 : Value).ownBlock) v1124 t1122) ∧ Aside0 (Below w.heap.size w wc))
           case first =>
            have H := HC61.out
            clear HC61
            by_cases c65 : t1115 = t1119
            ·
             rw [if_pos c65] at H
             have c65b0 : (t1115 == t1119) = true := beq_iff_eq.mpr c65
             have c65b1 : (t1115 != t1119) = false := bne_eq_false_iff_eq.mpr c65
             clear c65
             (first | rw [c65b0] | (simp only [i64_w, i32_w]; rw [c65b0]) | skip)
             have H' := Aside0.mk H
             clear H
             go_wp2
             go_meet
             case rel => exact ⟨_, ((t1119 != t1123)), (by first | rfl | (simp; done) | (simp [*]; done)), H', ⟨by have := HJ6.out; have := HJ18.out; have := HJ29.out; first | omega | exact Nat.le_refl _⟩, ⟨by (with_reducible repeat (first | apply Kd.S_alloc | apply Kd.S_drewN | apply Kd.S_drew)); exact Kd.S_mono HO1117.out (fun _ hk => ⟨hk.1.2, hk.2⟩)⟩, ⟨by (with_reducible repeat (first | apply Kd.S_alloc | apply Kd.S_drewN | apply Kd.S_drew)); exact Kd.S_mono HO1121.out (fun _ hk => ⟨hk.1.2, hk.2⟩)⟩, ⟨by (with_reducible repeat (first | apply Kd.S_alloc | apply Kd.S_drewN | apply Kd.S_drew)); exact Kd.S_mono HO1125.out (fun _ hk => ⟨hk.1.2, hk.2⟩)⟩, ⟨by repeat (first | (with_reducible first | exact HB.out | apply below_alloc | apply pw_below_drewN | apply below_drew1) | exact HB.out)⟩⟩
            ·
             rw [if_neg c65] at H
             have c65b0 : (t1115 == t1119) = false := beq_eq_false_iff_ne.mpr c65
             have c65b1 : (t1115 != t1119) = true := bne_iff_ne.mpr c65
             (first | rw [c65b0] | (simp only [i64_w, i32_w]; rw [c65b0]) | skip)
             have H' := Aside0.mk H
             clear H
             go_wp2
             go_meet
             case rel => exact ⟨_, (true), (by first | rfl | (simp; done) | (simp [*]; done)), H', ⟨by have := HJ6.out; have := HJ18.out; have := HJ29.out; first | omega | exact Nat.le_refl _⟩, ⟨by (with_reducible repeat (first | apply Kd.S_alloc | apply Kd.S_drewN | apply Kd.S_drew)); exact Kd.S_mono HO1117.out (fun _ hk => ⟨hk.1.2, hk.2⟩)⟩, ⟨by (with_reducible repeat (first | apply Kd.S_alloc | apply Kd.S_drewN | apply Kd.S_drew)); exact Kd.S_mono HO1121.out (fun _ hk => ⟨hk.1.2, hk.2⟩)⟩, ⟨by (with_reducible repeat (first | apply Kd.S_alloc | apply Kd.S_drewN | apply Kd.S_drew)); exact Kd.S_mono HO1125.out (fun _ hk => ⟨hk.1.2, hk.2⟩)⟩, ⟨by repeat (first | (with_reducible first | exact HB.out | apply below_alloc | apply pw_below_drewN | apply below_drew1) | exact HB.out)⟩⟩
           case rest =>
            as_aux_lemma =>
             clear HC61
             try clear c1
             try clear c2
             try clear p2
             try clear c3
             try clear c4
             try clear c6
             try clear p6
             try clear c9
             try clear c10
             try clear c11
             try clear c12
             try clear c13
             try clear c14
             try clear c22
             try clear c22b0
             try clear c22b1
             try clear c23
             try clear c23b0
             try clear c23b1
             try clear c25
             try clear c31
             try clear c34
             try clear c34b0
             try clear c34b1
             try clear c35
             try clear c35b0
             try clear c35b1
             try clear c37
             try clear c40
             try clear p64
             try clear c65
             try clear c65b0
             try clear c65b1
             try clear p2
             obtain ⟨kq, x130_60, rfl, HA, HJ60, HO_13, HO_15, HO_23, HB⟩ := hcut
             cases kq with
             | zero => exact absurd HA.out (by simp [tinplatelaw05_LineAlgebra.j3])
             | succ kj60 =>
              have H := HA.out
              clear HA
              simp only [tinplatelaw05_LineAlgebra.j3] at H
              by_cases c66 : x130_60 = true
              ·
               subst c66
               have H1 : (some false) = some r := by rw [if_pos rfl] at H; exact H
               clear H
               have H := H1
               clear H1
               exact absurd (H.trans (congrArg some hr_.out)) (by simp)
              ·
               replace c66 := Bool.eq_false_iff.mpr c66
               subst c66
               have H1 : (if t1115 = 0 then ((tinplatelaw05_square.f kj60 t1114 (l0.length : Int)).bind fun t1127 => (if t1127 = true then ((tinplatelaw05_square.f kj60 t1118 (l0.length : Int)).bind fun t1128 => (if t1128 = true then ((tinplatelaw05_product.f kj60 t1114 t1118).bind fun t1129 => ((tinplatelaw05_rows.f kj60 t1122 t1129).bind fun t1132 => (tinplatelaw05_LineAlgebra.j4 kj60 l0 l3 (wrap64 (Int.tmod a4 1000)) (wrap64 (Int.tmod a5 1000)) (!t1132)))) else (tinplatelaw05_LineAlgebra.j4 kj60 l0 l3 (wrap64 (Int.tmod a4 1000)) (wrap64 (Int.tmod a5 1000)) true))) else (tinplatelaw05_LineAlgebra.j4 kj60 l0 l3 (wrap64 (Int.tmod a4 1000)) (wrap64 (Int.tmod a5 1000)) true))) else ((tinplatelaw05_alive.f kj60).bind fun t1126 => (some t1126))) = some r := by rw [if_neg (show ¬ (false = true) by decide)] at H; exact H
               clear H
               have H := H1
               clear H1
               by_cases c67 : t1115 = 0
               ·
                rw [if_pos c67] at H
                have c67b0 : (t1115 == 0) = true := beq_iff_eq.mpr c67
                have c67b1 : (t1115 != 0) = false := bne_eq_false_iff_eq.mpr c67
                clear c67
                have HC68 := Aside0.mk H
                clear H
                go_upto_region 18 with (fail)
                go_cut [153] (fun v153 wc => ∃ (kq : Nat) (x153_67 : Bool), v153 = .bool x153_67 ∧ Aside0 (tinplatelaw05_LineAlgebra.j4 kq l0 l3 (wrap64 (Int.tmod a4 1000)) (wrap64 (Int.tmod a5 1000)) x153_67 = some r) ∧ Aside0 (kq ≤ kj60) ∧ Aside0 (Below w.heap.size w wc))
                case first =>
                 as_aux_lemma =>
                  have H := HC68.out
                  clear HC68
                  replace H := Option.bind_eq_some_iff.mp H
                  obtain ⟨t1127, A690, H⟩ := H
                  replace H : (if t1127 = true then ((tinplatelaw05_square.f kj60 t1118 (l0.length : Int)).bind fun t1128 => (if t1128 = true then ((tinplatelaw05_product.f kj60 t1114 t1118).bind fun t1129 => ((tinplatelaw05_rows.f kj60 t1122 t1129).bind fun t1132 => (tinplatelaw05_LineAlgebra.j4 kj60 l0 l3 (wrap64 (Int.tmod a4 1000)) (wrap64 (Int.tmod a5 1000)) (!t1132)))) else (tinplatelaw05_LineAlgebra.j4 kj60 l0 l3 (wrap64 (Int.tmod a4 1000)) (wrap64 (Int.tmod a5 1000)) true))) else (tinplatelaw05_LineAlgebra.j4 kj60 l0 l3 (wrap64 (Int.tmod a4 1000)) (wrap64 (Int.tmod a5 1000)) true)) = some r := H
                  have A69 := Aside0.mk A690
                  clear A690
                  by_cases c70 : t1127 = true
                  ·
                   subst c70
                   have H1 : ((tinplatelaw05_square.f kj60 t1118 (l0.length : Int)).bind fun t1128 => (if t1128 = true then ((tinplatelaw05_product.f kj60 t1114 t1118).bind fun t1129 => ((tinplatelaw05_rows.f kj60 t1122 t1129).bind fun t1132 => (tinplatelaw05_LineAlgebra.j4 kj60 l0 l3 (wrap64 (Int.tmod a4 1000)) (wrap64 (Int.tmod a5 1000)) (!t1132)))) else (tinplatelaw05_LineAlgebra.j4 kj60 l0 l3 (wrap64 (Int.tmod a4 1000)) (wrap64 (Int.tmod a5 1000)) true))) = some r := by rw [if_pos rfl] at H; exact H
                   clear H
                   have H := H1
                   clear H1
                   replace H := Option.bind_eq_some_iff.mp H
                   obtain ⟨t1128, A710, H⟩ := H
                   replace H : (if t1128 = true then ((tinplatelaw05_product.f kj60 t1114 t1118).bind fun t1129 => ((tinplatelaw05_rows.f kj60 t1122 t1129).bind fun t1132 => (tinplatelaw05_LineAlgebra.j4 kj60 l0 l3 (wrap64 (Int.tmod a4 1000)) (wrap64 (Int.tmod a5 1000)) (!t1132)))) else (tinplatelaw05_LineAlgebra.j4 kj60 l0 l3 (wrap64 (Int.tmod a4 1000)) (wrap64 (Int.tmod a5 1000)) true)) = some r := H
                   have A71 := Aside0.mk A710
                   clear A710
                   by_cases c72 : t1128 = true
                   ·
                    subst c72
                    have H1 : ((tinplatelaw05_product.f kj60 t1114 t1118).bind fun t1129 => ((tinplatelaw05_rows.f kj60 t1122 t1129).bind fun t1132 => (tinplatelaw05_LineAlgebra.j4 kj60 l0 l3 (wrap64 (Int.tmod a4 1000)) (wrap64 (Int.tmod a5 1000)) (!t1132)))) = some r := by rw [if_pos rfl] at H; exact H
                    clear H
                    have H := H1
                    clear H1
                    replace H := Option.bind_eq_some_iff.mp H
                    obtain ⟨t1129, A730, H⟩ := H
                    replace H : ((tinplatelaw05_rows.f kj60 t1122 t1129).bind fun t1132 => (tinplatelaw05_LineAlgebra.j4 kj60 l0 l3 (wrap64 (Int.tmod a4 1000)) (wrap64 (Int.tmod a5 1000)) (!t1132))) = some r := H
                    have A73 := Aside0.mk A730
                    clear A730
                    replace H := Option.bind_eq_some_iff.mp H
                    obtain ⟨t1132, A740, H⟩ := H
                    replace H : (tinplatelaw05_LineAlgebra.j4 kj60 l0 l3 (wrap64 (Int.tmod a4 1000)) (wrap64 (Int.tmod a5 1000)) (!t1132)) = some r := H
                    have A74 := Aside0.mk A740
                    clear A740
                    have H' := Aside0.mk H
                    clear H
                    obtain ⟨Ao75, co75, eo75⟩ := Kd.S_slice HO_13.out
                    subst eo75
                    go_wp2_with (first | ((with_reducible refine gate_callee (f := 23) rfl ?_); refine goesL_ (some 137) rfl rfl Try.func23 (by kernel_rfl) rfl #[.slice Ao75 t1114.length co75, .int .i64 (l0.length : Int)] rfl (by (try simp only [List.map_toArray, List.map_cons, List.map_nil]); first | done | rfl | (simp only [List.length_drop, List.length_take]; rfl)) ?_; (with_reducible refine (tinplatelaw05_square.calls kj60 _ _ t1114 (l0.length : Int) true _ ?side1 ?side2 A69.out).mono ?_); (case side1 => repeat (first | exact (Kd.S_reads' HO_13.out).2.2 | (with_reducible refine Kd.C_alloc ?_ _) | (with_reducible refine Kd.C_drewN ?_ _) | (with_reducible refine Kd.C_drew ?_))); (case side2 => exact (Kd.S_reads' HO_13.out).2.1); rintro e w' ⟨rfl, ⟨nd, rfl⟩⟩; refine ⟨_, rfl, ?_⟩; obtain ⟨Ao76, co76, eo76⟩ := Kd.S_slice HO_15.out; subst eo76) | (go_at_call 23; (with_reducible refine (tinplatelaw05_square.calls kj60 _ _ t1118 (l0.length : Int) true _ ?side1 ?side2 A71.out).mono ?_); (case side1 => repeat (first | exact (Kd.S_reads' HO_15.out).2.2 | (with_reducible refine Kd.C_alloc ?_ _) | (with_reducible refine Kd.C_drewN ?_ _) | (with_reducible refine Kd.C_drew ?_))); (case side2 => exact (Kd.S_reads' HO_15.out).2.1); rintro e w' ⟨rfl, ⟨nd, rfl⟩⟩) | (go_at_call 24; (with_reducible refine (tinplatelaw05_product.calls kj60 _ _ t1114 _ _ t1118 t1129 _ ?side1 ?side2 ?side3 ?side4 A73.out).mono ?_); (case side1 => repeat (first | exact (Kd.S_reads' HO_13.out).2.2 | (with_reducible refine Kd.C_alloc ?_ _) | (with_reducible refine Kd.C_drewN ?_ _) | (with_reducible refine Kd.C_drew ?_))); (case side2 => exact (Kd.S_reads' HO_13.out).2.1); (case side3 => repeat (first | exact (Kd.S_reads' HO_15.out).2.2 | (with_reducible refine Kd.C_alloc ?_ _) | (with_reducible refine Kd.C_drewN ?_ _) | (with_reducible refine Kd.C_drew ?_))); (case side4 => exact (Kd.S_reads' HO_15.out).2.1); rintro e w77 ⟨v1130, rfl, ho0, hb⟩; have n0_ := Aside0.mk (Kd.S_elder' (by (with_reducible repeat (first | apply Kd.S_alloc | apply Kd.S_drewN | apply Kd.S_drew)); exact HO_13.out) (Kd.S_base ho0) hb); have n1_ := Aside0.mk (Kd.S_elder' (by (with_reducible repeat (first | apply Kd.S_alloc | apply Kd.S_drewN | apply Kd.S_drew)); exact HO_15.out) (Kd.S_base ho0) hb); have n2_ := Aside0.mk (Kd.S_elder' (by (with_reducible repeat (first | apply Kd.S_alloc | apply Kd.S_drewN | apply Kd.S_drew)); exact HO_23.out) (Kd.S_base ho0) hb); have n3_ := Aside0.mk (Kd.S_lower (Kd.S_new' (Kd.S_new' (Kd.S_new' ho0 (Kd.S_lt (by (with_reducible repeat (first | apply Kd.S_alloc | apply Kd.S_drewN | apply Kd.S_drew)); exact HO_13.out))) (Kd.S_lt (by (with_reducible repeat (first | apply Kd.S_alloc | apply Kd.S_drewN | apply Kd.S_drew)); exact HO_15.out))) (Kd.S_lt (by (with_reducible repeat (first | apply Kd.S_alloc | apply Kd.S_drewN | apply Kd.S_drew)); exact HO_23.out))) (below_size (by repeat (first | (with_reducible first | exact HB.out | apply below_alloc | apply pw_below_drewN | apply below_drew1) | exact HB.out)))); have n4_ := Aside0.mk (below_step (by repeat (first | (with_reducible first | exact HB.out | apply below_alloc | apply pw_below_drewN | apply below_drew1) | exact HB.out)) hb); clear HO_13; clear HO_15; clear HO_23; clear HB; have HO_13 := n0_; have HO_15 := n1_; have HO_23 := n2_; have HO1131 := n3_; have HB := n4_; clear n0_ n1_ n2_ n3_ n4_; (try clear hb); (try clear hb2); (try clear hk); (try clear hi); (try clear ho0); obtain ⟨Ao78, co78, eo78⟩ := Kd.S_slice HO_23.out; subst eo78; obtain ⟨Ao79, co79, eo79⟩ := Kd.S_slice HO1131.out; subst eo79) | (go_at_call 20; (with_reducible refine (tinplatelaw05_rows.calls kj60 _ _ t1122 _ _ t1129 t1132 _ ?side1 ?side2 ?side3 ?side4 A74.out).mono ?_); (case side1 => repeat (first | exact (Kd.S_reads' HO_23.out).2.2 | (with_reducible refine Kd.C_alloc ?_ _) | (with_reducible refine Kd.C_drewN ?_ _) | (with_reducible refine Kd.C_drew ?_))); (case side2 => exact (Kd.S_reads' HO_23.out).2.1); (case side3 => repeat (first | exact (Kd.S_reads' HO1131.out).2.2 | (with_reducible refine Kd.C_alloc ?_ _) | (with_reducible refine Kd.C_drewN ?_ _) | (with_reducible refine Kd.C_drew ?_))); (case side4 => exact (Kd.S_reads' HO1131.out).2.1); rintro e w' ⟨rfl, ⟨nd, rfl⟩⟩))
                    go_meet
                    case rel => exact ⟨_, (!t1132), (by first | rfl | (simp; done) | (simp [*]; done)), H', ⟨by have := HJ6.out; have := HJ18.out; have := HJ29.out; have := HJ60.out; first | omega | exact Nat.le_refl _⟩, ⟨by repeat (first | (with_reducible first | exact HB.out | apply below_alloc | apply pw_below_drewN | apply below_drew1) | exact HB.out)⟩⟩
                   ·
                    replace c72 := Bool.eq_false_iff.mpr c72
                    subst c72
                    have H1 : (tinplatelaw05_LineAlgebra.j4 kj60 l0 l3 (wrap64 (Int.tmod a4 1000)) (wrap64 (Int.tmod a5 1000)) true) = some r := by rw [if_neg (show ¬ (false = true) by decide)] at H; exact H
                    clear H
                    have H := H1
                    clear H1
                    have H' := Aside0.mk H
                    clear H
                    obtain ⟨Ao80, co80, eo80⟩ := Kd.S_slice HO_13.out
                    subst eo80
                    go_wp2_with (first | ((with_reducible refine gate_callee (f := 23) rfl ?_); refine goesL_ (some 137) rfl rfl Try.func23 (by kernel_rfl) rfl #[.slice Ao80 t1114.length co80, .int .i64 (l0.length : Int)] rfl (by (try simp only [List.map_toArray, List.map_cons, List.map_nil]); first | done | rfl | (simp only [List.length_drop, List.length_take]; rfl)) ?_; (with_reducible refine (tinplatelaw05_square.calls kj60 _ _ t1114 (l0.length : Int) true _ ?side1 ?side2 A69.out).mono ?_); (case side1 => repeat (first | exact (Kd.S_reads' HO_13.out).2.2 | (with_reducible refine Kd.C_alloc ?_ _) | (with_reducible refine Kd.C_drewN ?_ _) | (with_reducible refine Kd.C_drew ?_))); (case side2 => exact (Kd.S_reads' HO_13.out).2.1); rintro e w' ⟨rfl, ⟨nd, rfl⟩⟩; refine ⟨_, rfl, ?_⟩; obtain ⟨Ao81, co81, eo81⟩ := Kd.S_slice HO_15.out; subst eo81) | (go_at_call 23; (with_reducible refine (tinplatelaw05_square.calls kj60 _ _ t1118 (l0.length : Int) false _ ?side1 ?side2 A71.out).mono ?_); (case side1 => repeat (first | exact (Kd.S_reads' HO_15.out).2.2 | (with_reducible refine Kd.C_alloc ?_ _) | (with_reducible refine Kd.C_drewN ?_ _) | (with_reducible refine Kd.C_drew ?_))); (case side2 => exact (Kd.S_reads' HO_15.out).2.1); rintro e w' ⟨rfl, ⟨nd, rfl⟩⟩))
                    go_meet
                    case rel => exact ⟨_, (true), (by first | rfl | (simp; done) | (simp [*]; done)), H', ⟨by have := HJ6.out; have := HJ18.out; have := HJ29.out; have := HJ60.out; first | omega | exact Nat.le_refl _⟩, ⟨by repeat (first | (with_reducible first | exact HB.out | apply below_alloc | apply pw_below_drewN | apply below_drew1) | exact HB.out)⟩⟩
                  ·
                   replace c70 := Bool.eq_false_iff.mpr c70
                   subst c70
                   have H1 : (tinplatelaw05_LineAlgebra.j4 kj60 l0 l3 (wrap64 (Int.tmod a4 1000)) (wrap64 (Int.tmod a5 1000)) true) = some r := by rw [if_neg (show ¬ (false = true) by decide)] at H; exact H
                   clear H
                   have H := H1
                   clear H1
                   have H' := Aside0.mk H
                   clear H
                   obtain ⟨Ao82, co82, eo82⟩ := Kd.S_slice HO_13.out
                   subst eo82
                   go_wp2_with (first | ((with_reducible refine gate_callee (f := 23) rfl ?_); refine goesL_ (some 137) rfl rfl Try.func23 (by kernel_rfl) rfl #[.slice Ao82 t1114.length co82, .int .i64 (l0.length : Int)] rfl (by (try simp only [List.map_toArray, List.map_cons, List.map_nil]); first | done | rfl | (simp only [List.length_drop, List.length_take]; rfl)) ?_; (with_reducible refine (tinplatelaw05_square.calls kj60 _ _ t1114 (l0.length : Int) false _ ?side1 ?side2 A69.out).mono ?_); (case side1 => repeat (first | exact (Kd.S_reads' HO_13.out).2.2 | (with_reducible refine Kd.C_alloc ?_ _) | (with_reducible refine Kd.C_drewN ?_ _) | (with_reducible refine Kd.C_drew ?_))); (case side2 => exact (Kd.S_reads' HO_13.out).2.1); rintro e w' ⟨rfl, ⟨nd, rfl⟩⟩; refine ⟨_, rfl, ?_⟩))
                   go_meet
                   case rel => exact ⟨_, (true), (by first | rfl | (simp; done) | (simp [*]; done)), H', ⟨by have := HJ6.out; have := HJ18.out; have := HJ29.out; have := HJ60.out; first | omega | exact Nat.le_refl _⟩, ⟨by repeat (first | (with_reducible first | exact HB.out | apply below_alloc | apply pw_below_drewN | apply below_drew1) | exact HB.out)⟩⟩
                case rest =>
                 as_aux_lemma =>
                  clear HC68
                  try clear c1
                  try clear c2
                  try clear p2
                  try clear c3
                  try clear c4
                  try clear c6
                  try clear p6
                  try clear c7
                  try clear c9
                  try clear c10
                  try clear c11
                  try clear c12
                  try clear c13
                  try clear c14
                  try clear c22
                  try clear c22b0
                  try clear c22b1
                  try clear c23
                  try clear c23b0
                  try clear c23b1
                  try clear c25
                  try clear c31
                  try clear c34
                  try clear c34b0
                  try clear c34b1
                  try clear c35
                  try clear c35b0
                  try clear c35b1
                  try clear c37
                  try clear c40
                  try clear p64
                  try clear c65
                  try clear c65b0
                  try clear c65b1
                  try clear c66
                  try clear c67
                  try clear c67b0
                  try clear c67b1
                  try clear c70
                  try clear c72
                  try clear p2
                  try clear p6
                  try clear p64
                  obtain ⟨kq, x153_67, rfl, HA, HJ67, HB⟩ := hcut
                  cases kq with
                  | zero => exact absurd HA.out (by simp [tinplatelaw05_LineAlgebra.j4])
                  | succ kj67 =>
                   have H := HA.out
                   clear HA
                   simp only [tinplatelaw05_LineAlgebra.j4] at H
                   by_cases c83 : x153_67 = true
                   ·
                    subst c83
                    have H1 : (some false) = some r := by rw [if_pos rfl] at H; exact H
                    clear H
                    have H := H1
                    clear H1
                    exact absurd (H.trans (congrArg some hr_.out)) (by simp)
                   ·
                    replace c83 := Bool.eq_false_iff.mpr c83
                    subst c83
                    have H1 : ((line_Run.f kj67 l0 l3 (wrap64 (Int.tmod a4 1000))).bind fun bt1133 => (if bt1133.2 = 0 then ((line_Run.f kj67 l0 bt1133.1 (wrap64 (Int.tmod a5 1000))).bind fun bt1138 => ((line_Run.f kj67 l0 l3 (wrap64 ((wrap64 (Int.tmod a4 1000)) + (wrap64 (Int.tmod a5 1000))))).bind fun bt1142 => (if bt1138.2 = 0 then (if bt1142.2 = 0 then ((tinplatelaw05_same.f kj67 bt1138.1 bt1142.1).bind fun t1146 => (if t1146 = true then ((tinplatelaw05_alive.f kj67).bind fun t1147 => (some t1147)) else (some false))) else ((tinplatelaw05_alive.f kj67).bind fun t1148 => (some t1148))) else ((tinplatelaw05_alive.f kj67).bind fun t1149 => (some t1149))))) else ((tinplatelaw05_alive.f kj67).bind fun t1137 => (some t1137)))) = some r := by rw [if_neg (show ¬ (false = true) by decide)] at H; exact H
                    clear H
                    have H := H1
                    clear H1
                    replace H := Option.bind_eq_some_iff.mp H
                    obtain ⟨⟨t1133, t1134⟩, A840, H⟩ := H
                    replace H : (if t1134 = 0 then ((line_Run.f kj67 l0 t1133 (wrap64 (Int.tmod a5 1000))).bind fun bt1138 => ((line_Run.f kj67 l0 l3 (wrap64 ((wrap64 (Int.tmod a4 1000)) + (wrap64 (Int.tmod a5 1000))))).bind fun bt1142 => (if bt1138.2 = 0 then (if bt1142.2 = 0 then ((tinplatelaw05_same.f kj67 bt1138.1 bt1142.1).bind fun t1146 => (if t1146 = true then ((tinplatelaw05_alive.f kj67).bind fun t1147 => (some t1147)) else (some false))) else ((tinplatelaw05_alive.f kj67).bind fun t1148 => (some t1148))) else ((tinplatelaw05_alive.f kj67).bind fun t1149 => (some t1149))))) else ((tinplatelaw05_alive.f kj67).bind fun t1137 => (some t1137))) = some r := H
                    have A84 := Aside0.mk A840
                    clear A840
                    by_cases c85 : t1134 = 0
                    ·
                     rw [if_pos c85] at H
                     have c85b0 : (t1134 == 0) = true := beq_iff_eq.mpr c85
                     have c85b1 : (t1134 != 0) = false := bne_eq_false_iff_eq.mpr c85
                     clear c85
                     replace H := Option.bind_eq_some_iff.mp H
                     obtain ⟨⟨t1138, t1139⟩, A860, H⟩ := H
                     replace H : ((line_Run.f kj67 l0 l3 (wrap64 ((wrap64 (Int.tmod a4 1000)) + (wrap64 (Int.tmod a5 1000))))).bind fun bt1142 => (if t1139 = 0 then (if bt1142.2 = 0 then ((tinplatelaw05_same.f kj67 t1138 bt1142.1).bind fun t1146 => (if t1146 = true then ((tinplatelaw05_alive.f kj67).bind fun t1147 => (some t1147)) else (some false))) else ((tinplatelaw05_alive.f kj67).bind fun t1148 => (some t1148))) else ((tinplatelaw05_alive.f kj67).bind fun t1149 => (some t1149)))) = some r := H
                     have A86 := Aside0.mk A860
                     clear A860
                     replace H := Option.bind_eq_some_iff.mp H
                     obtain ⟨⟨t1142, t1143⟩, A870, H⟩ := H
                     replace H : (if t1139 = 0 then (if t1143 = 0 then ((tinplatelaw05_same.f kj67 t1138 t1142).bind fun t1146 => (if t1146 = true then ((tinplatelaw05_alive.f kj67).bind fun t1147 => (some t1147)) else (some false))) else ((tinplatelaw05_alive.f kj67).bind fun t1148 => (some t1148))) else ((tinplatelaw05_alive.f kj67).bind fun t1149 => (some t1149))) = some r := H
                     have A87 := Aside0.mk A870
                     clear A870
                     by_cases c88 : t1139 = 0
                     ·
                      rw [if_pos c88] at H
                      have c88b0 : (t1139 == 0) = true := beq_iff_eq.mpr c88
                      have c88b1 : (t1139 != 0) = false := bne_eq_false_iff_eq.mpr c88
                      clear c88
                      by_cases c89 : t1143 = 0
                      ·
                       rw [if_pos c89] at H
                       have c89b0 : (t1143 == 0) = true := beq_iff_eq.mpr c89
                       have c89b1 : (t1143 != 0) = false := bne_eq_false_iff_eq.mpr c89
                       clear c89
                       replace H := Option.bind_eq_some_iff.mp H
                       obtain ⟨t1146, A900, H⟩ := H
                       replace H : (if t1146 = true then ((tinplatelaw05_alive.f kj67).bind fun t1147 => (some t1147)) else (some false)) = some r := H
                       have A90 := Aside0.mk A900
                       clear A900
                       by_cases c91 : t1146 = true
                       ·
                        subst c91
                        have H1 : ((tinplatelaw05_alive.f kj67).bind fun t1147 => (some t1147)) = some r := by rw [if_pos rfl] at H; exact H
                        clear H
                        have H := H1
                        clear H1
                        replace H := Option.bind_eq_some_iff.mp H
                        obtain ⟨t1147, A920, H⟩ := H
                        replace H : (some t1147) = some r := H
                        have A92 := Aside0.mk A920
                        clear A920
                        obtain rfl := Option.some.inj H
                        go_wp2_with (first | ((with_reducible refine gate_callee (f := 27) rfl ?_); refine goesL_ (some 158) rfl rfl Try.func27 (by kernel_rfl) rfl #[.slice A0 l0.length c0, .slice A3 l3.length c3, .int .i64 (wrap64 (Int.tmod a4 1000))] rfl (by (try simp only [List.map_toArray, List.map_cons, List.map_nil]); first | done | rfl | (simp only [List.length_drop, List.length_take]; rfl)) ?_; (with_reducible refine (line_Run.calls kj67 _ _ l0 _ _ l3 (wrap64 (Int.tmod a4 1000)) t1133 t1134 _ ?side1 ?side2 ?side3 ?side4 A84.out).mono ?_); (case side1 => repeat (first | exact (Kd.C_below HR0.out HB.out) | (with_reducible refine Kd.C_alloc ?_ _) | (with_reducible refine Kd.C_drewN ?_ _) | (with_reducible refine Kd.C_drew ?_))); (case side2 => exact HC0.out); (case side3 => repeat (first | exact (Kd.C_below HR3.out HB.out) | (with_reducible refine Kd.C_alloc ?_ _) | (with_reducible refine Kd.C_drewN ?_ _) | (with_reducible refine Kd.C_drew ?_))); (case side4 => exact HC3.out); rintro e w93 ⟨v1135, rfl, ho0, hb⟩; refine ⟨_, rfl, ?_⟩; have n0_ := Aside0.mk (Kd.R_lower ho0 (below_size (by repeat (first | (with_reducible first | exact HB.out | apply below_alloc | apply pw_below_drewN | apply below_drew1) | exact HB.out)))); have n1_ := Aside0.mk (below_step (by repeat (first | (with_reducible first | exact HB.out | apply below_alloc | apply pw_below_drewN | apply below_drew1) | exact HB.out)) hb); clear HB; have HO1136 := n0_; have HB := n1_; clear n0_ n1_; (try clear hb); (try clear hb2); (try clear hk); (try clear hi); (try clear ho0); obtain ⟨Ao94, co94, eo94⟩ := Kd.R_slice HO1136.out; subst eo94) | ((with_reducible refine gate_callee (f := 27) rfl ?_); refine goesL_ (some 168) rfl rfl Try.func27 (by kernel_rfl) rfl #[.slice A0 l0.length c0, .slice Ao94 t1133.length co94, .int .i64 (wrap64 (Int.tmod a5 1000))] rfl (by (try simp only [List.map_toArray, List.map_cons, List.map_nil]); first | done | rfl | (simp only [List.length_drop, List.length_take]; rfl)) ?_; (with_reducible refine (line_Run.calls kj67 _ _ l0 _ _ t1133 (wrap64 (Int.tmod a5 1000)) t1138 t1139 _ ?side1 ?side2 ?side3 ?side4 A86.out).mono ?_); (case side1 => repeat (first | exact (Kd.C_below HR0.out HB.out) | (with_reducible refine Kd.C_alloc ?_ _) | (with_reducible refine Kd.C_drewN ?_ _) | (with_reducible refine Kd.C_drew ?_))); (case side2 => exact HC0.out); (case side3 => repeat (first | exact (Kd.R_reads' HO1136.out).2.2 | (with_reducible refine Kd.C_alloc ?_ _) | (with_reducible refine Kd.C_drewN ?_ _) | (with_reducible refine Kd.C_drew ?_))); (case side4 => exact (Kd.R_reads' HO1136.out).2.1); rintro e w95 ⟨v1140, rfl, ho0, hb⟩; refine ⟨_, rfl, ?_⟩; have n0_ := Aside0.mk (Kd.R_elder' (by (with_reducible repeat (first | apply Kd.R_alloc | apply Kd.R_drewN | apply Kd.R_drew)); exact HO1136.out) (Kd.R_base ho0) hb); have n1_ := Aside0.mk (Kd.R_lower (Kd.R_new' ho0 (Kd.R_lt (by (with_reducible repeat (first | apply Kd.R_alloc | apply Kd.R_drewN | apply Kd.R_drew)); exact HO1136.out))) (below_size (by repeat (first | (with_reducible first | exact HB.out | apply below_alloc | apply pw_below_drewN | apply below_drew1) | exact HB.out)))); have n2_ := Aside0.mk (below_step (by repeat (first | (with_reducible first | exact HB.out | apply below_alloc | apply pw_below_drewN | apply below_drew1) | exact HB.out)) hb); clear HO1136; clear HB; have HO1136 := n0_; have HO1141 := n1_; have HB := n2_; clear n0_ n1_ n2_; (try clear hb); (try clear hb2); (try clear hk); (try clear hi); (try clear ho0)) | ((with_reducible refine gate_callee (f := 27) rfl ?_); refine goesL_ (some 177) rfl rfl Try.func27 (by kernel_rfl) rfl #[.slice A0 l0.length c0, .slice A3 l3.length c3, .int .i64 (wrap64 ((wrap64 (Int.tmod a4 1000)) + (wrap64 (Int.tmod a5 1000))))] rfl (by (try simp only [List.map_toArray, List.map_cons, List.map_nil]); first | done | rfl | (simp only [List.length_drop, List.length_take]; rfl)) ?_; (with_reducible refine (line_Run.calls kj67 _ _ l0 _ _ l3 (wrap64 ((wrap64 (Int.tmod a4 1000)) + (wrap64 (Int.tmod a5 1000)))) t1142 t1143 _ ?side1 ?side2 ?side3 ?side4 A87.out).mono ?_); (case side1 => repeat (first | exact (Kd.C_below HR0.out HB.out) | (with_reducible refine Kd.C_alloc ?_ _) | (with_reducible refine Kd.C_drewN ?_ _) | (with_reducible refine Kd.C_drew ?_))); (case side2 => exact HC0.out); (case side3 => repeat (first | exact (Kd.C_below HR3.out HB.out) | (with_reducible refine Kd.C_alloc ?_ _) | (with_reducible refine Kd.C_drewN ?_ _) | (with_reducible refine Kd.C_drew ?_))); (case side4 => exact HC3.out); rintro e w96 ⟨v1144, rfl, ho0, hb⟩; refine ⟨_, rfl, ?_⟩; have n0_ := Aside0.mk (Kd.R_elder' (by (with_reducible repeat (first | apply Kd.R_alloc | apply Kd.R_drewN | apply Kd.R_drew)); exact HO1136.out) (Kd.R_base ho0) hb); have n1_ := Aside0.mk (Kd.R_elder' (by (with_reducible repeat (first | apply Kd.R_alloc | apply Kd.R_drewN | apply Kd.R_drew)); exact HO1141.out) (Kd.R_base ho0) hb); have n2_ := Aside0.mk (Kd.R_lower (Kd.R_new' (Kd.R_new' ho0 (Kd.R_lt (by (with_reducible repeat (first | apply Kd.R_alloc | apply Kd.R_drewN | apply Kd.R_drew)); exact HO1136.out))) (Kd.R_lt (by (with_reducible repeat (first | apply Kd.R_alloc | apply Kd.R_drewN | apply Kd.R_drew)); exact HO1141.out))) (below_size (by repeat (first | (with_reducible first | exact HB.out | apply below_alloc | apply pw_below_drewN | apply below_drew1) | exact HB.out)))); have n3_ := Aside0.mk (below_step (by repeat (first | (with_reducible first | exact HB.out | apply below_alloc | apply pw_below_drewN | apply below_drew1) | exact HB.out)) hb); clear HO1136; clear HO1141; clear HB; have HO1136 := n0_; have HO1141 := n1_; have HO1145 := n2_; have HB := n3_; clear n0_ n1_ n2_ n3_; (try clear hb); (try clear hb2); (try clear hk); (try clear hi); (try clear ho0); obtain ⟨Ao97, co97, eo97⟩ := Kd.R_slice HO1141.out; subst eo97; obtain ⟨Ao98, co98, eo98⟩ := Kd.R_slice HO1145.out; subst eo98) | (go_at_call 17; (with_reducible refine (tinplatelaw05_same.calls kj67 _ _ t1138 _ _ t1142 true _ ?side1 ?side2 ?side3 ?side4 A90.out).mono ?_); (case side1 => repeat (first | exact (Kd.R_reads' HO1141.out).2.2 | (with_reducible refine Kd.C_alloc ?_ _) | (with_reducible refine Kd.C_drewN ?_ _) | (with_reducible refine Kd.C_drew ?_))); (case side2 => exact (Kd.R_reads' HO1141.out).2.1); (case side3 => repeat (first | exact (Kd.R_reads' HO1145.out).2.2 | (with_reducible refine Kd.C_alloc ?_ _) | (with_reducible refine Kd.C_drewN ?_ _) | (with_reducible refine Kd.C_drew ?_))); (case side4 => exact (Kd.R_reads' HO1145.out).2.1); rintro e w' ⟨rfl, ⟨nd, rfl⟩⟩) | (go_at_call 13; (with_reducible refine (tinplatelaw05_alive.calls kj67  t1147 _ A92.out).mono ?_); rintro e w99 ⟨rfl, hb⟩; have n0_ := Aside0.mk (Kd.R_below (by (with_reducible repeat (first | apply Kd.R_alloc | apply Kd.R_drewN | apply Kd.R_drew)); exact HO1136.out) hb); have n1_ := Aside0.mk (Kd.R_below (by (with_reducible repeat (first | apply Kd.R_alloc | apply Kd.R_drewN | apply Kd.R_drew)); exact HO1141.out) hb); have n2_ := Aside0.mk (Kd.R_below (by (with_reducible repeat (first | apply Kd.R_alloc | apply Kd.R_drewN | apply Kd.R_drew)); exact HO1145.out) hb); have n3_ := Aside0.mk (below_step (by repeat (first | (with_reducible first | exact HB.out | apply below_alloc | apply pw_below_drewN | apply below_drew1) | exact HB.out)) hb); clear HO1136; clear HO1141; clear HO1145; clear HB; have HO1136 := n0_; have HO1141 := n1_; have HO1145 := n2_; have HB := n3_; clear n0_ n1_ n2_ n3_; (try clear hb); (try clear hb2); (try clear hk); (try clear hi)))
                        go_ret
                        exact ⟨by first | rfl | (simp [errW_none, errW_some] <;> rfl) | (simp [*, errW_none, errW_some] <;> rfl), by repeat (first | (with_reducible first | exact HB.out | apply below_alloc | apply pw_below_drewN | apply below_drew1) | exact HB.out)⟩
                       ·
                        replace c91 := Bool.eq_false_iff.mpr c91
                        subst c91
                        have H1 : (some false) = some r := by rw [if_neg (show ¬ (false = true) by decide)] at H; exact H
                        clear H
                        have H := H1
                        clear H1
                        exact absurd (H.trans (congrArg some hr_.out)) (by simp)
                      ·
                       rw [if_neg c89] at H
                       have c89b0 : (t1143 == 0) = false := beq_eq_false_iff_ne.mpr c89
                       have c89b1 : (t1143 != 0) = true := bne_iff_ne.mpr c89
                       replace H := Option.bind_eq_some_iff.mp H
                       obtain ⟨t1148, A1060, H⟩ := H
                       replace H : (some t1148) = some r := H
                       have A106 := Aside0.mk A1060
                       clear A1060
                       obtain rfl := Option.some.inj H
                       go_wp2_with (first | ((with_reducible refine gate_callee (f := 27) rfl ?_); refine goesL_ (some 158) rfl rfl Try.func27 (by kernel_rfl) rfl #[.slice A0 l0.length c0, .slice A3 l3.length c3, .int .i64 (wrap64 (Int.tmod a4 1000))] rfl (by (try simp only [List.map_toArray, List.map_cons, List.map_nil]); first | done | rfl | (simp only [List.length_drop, List.length_take]; rfl)) ?_; (with_reducible refine (line_Run.calls kj67 _ _ l0 _ _ l3 (wrap64 (Int.tmod a4 1000)) t1133 t1134 _ ?side1 ?side2 ?side3 ?side4 A84.out).mono ?_); (case side1 => repeat (first | exact (Kd.C_below HR0.out HB.out) | (with_reducible refine Kd.C_alloc ?_ _) | (with_reducible refine Kd.C_drewN ?_ _) | (with_reducible refine Kd.C_drew ?_))); (case side2 => exact HC0.out); (case side3 => repeat (first | exact (Kd.C_below HR3.out HB.out) | (with_reducible refine Kd.C_alloc ?_ _) | (with_reducible refine Kd.C_drewN ?_ _) | (with_reducible refine Kd.C_drew ?_))); (case side4 => exact HC3.out); rintro e w107 ⟨v1135, rfl, ho0, hb⟩; refine ⟨_, rfl, ?_⟩; have n0_ := Aside0.mk (Kd.R_lower ho0 (below_size (by repeat (first | (with_reducible first | exact HB.out | apply below_alloc | apply pw_below_drewN | apply below_drew1) | exact HB.out)))); have n1_ := Aside0.mk (below_step (by repeat (first | (with_reducible first | exact HB.out | apply below_alloc | apply pw_below_drewN | apply below_drew1) | exact HB.out)) hb); clear HB; have HO1136 := n0_; have HB := n1_; clear n0_ n1_; (try clear hb); (try clear hb2); (try clear hk); (try clear hi); (try clear ho0); obtain ⟨Ao108, co108, eo108⟩ := Kd.R_slice HO1136.out; subst eo108) | ((with_reducible refine gate_callee (f := 27) rfl ?_); refine goesL_ (some 168) rfl rfl Try.func27 (by kernel_rfl) rfl #[.slice A0 l0.length c0, .slice Ao108 t1133.length co108, .int .i64 (wrap64 (Int.tmod a5 1000))] rfl (by (try simp only [List.map_toArray, List.map_cons, List.map_nil]); first | done | rfl | (simp only [List.length_drop, List.length_take]; rfl)) ?_; (with_reducible refine (line_Run.calls kj67 _ _ l0 _ _ t1133 (wrap64 (Int.tmod a5 1000)) t1138 t1139 _ ?side1 ?side2 ?side3 ?side4 A86.out).mono ?_); (case side1 => repeat (first | exact (Kd.C_below HR0.out HB.out) | (with_reducible refine Kd.C_alloc ?_ _) | (with_reducible refine Kd.C_drewN ?_ _) | (with_reducible refine Kd.C_drew ?_))); (case side2 => exact HC0.out); (case side3 => repeat (first | exact (Kd.R_reads' HO1136.out).2.2 | (with_reducible refine Kd.C_alloc ?_ _) | (with_reducible refine Kd.C_drewN ?_ _) | (with_reducible refine Kd.C_drew ?_))); (case side4 => exact (Kd.R_reads' HO1136.out).2.1); rintro e w109 ⟨v1140, rfl, ho0, hb⟩; refine ⟨_, rfl, ?_⟩; have n0_ := Aside0.mk (Kd.R_elder' (by (with_reducible repeat (first | apply Kd.R_alloc | apply Kd.R_drewN | apply Kd.R_drew)); exact HO1136.out) (Kd.R_base ho0) hb); have n1_ := Aside0.mk (Kd.R_lower (Kd.R_new' ho0 (Kd.R_lt (by (with_reducible repeat (first | apply Kd.R_alloc | apply Kd.R_drewN | apply Kd.R_drew)); exact HO1136.out))) (below_size (by repeat (first | (with_reducible first | exact HB.out | apply below_alloc | apply pw_below_drewN | apply below_drew1) | exact HB.out)))); have n2_ := Aside0.mk (below_step (by repeat (first | (with_reducible first | exact HB.out | apply below_alloc | apply pw_below_drewN | apply below_drew1) | exact HB.out)) hb); clear HO1136; clear HB; have HO1136 := n0_; have HO1141 := n1_; have HB := n2_; clear n0_ n1_ n2_; (try clear hb); (try clear hb2); (try clear hk); (try clear hi); (try clear ho0)) | ((with_reducible refine gate_callee (f := 27) rfl ?_); refine goesL_ (some 177) rfl rfl Try.func27 (by kernel_rfl) rfl #[.slice A0 l0.length c0, .slice A3 l3.length c3, .int .i64 (wrap64 ((wrap64 (Int.tmod a4 1000)) + (wrap64 (Int.tmod a5 1000))))] rfl (by (try simp only [List.map_toArray, List.map_cons, List.map_nil]); first | done | rfl | (simp only [List.length_drop, List.length_take]; rfl)) ?_; (with_reducible refine (line_Run.calls kj67 _ _ l0 _ _ l3 (wrap64 ((wrap64 (Int.tmod a4 1000)) + (wrap64 (Int.tmod a5 1000)))) t1142 t1143 _ ?side1 ?side2 ?side3 ?side4 A87.out).mono ?_); (case side1 => repeat (first | exact (Kd.C_below HR0.out HB.out) | (with_reducible refine Kd.C_alloc ?_ _) | (with_reducible refine Kd.C_drewN ?_ _) | (with_reducible refine Kd.C_drew ?_))); (case side2 => exact HC0.out); (case side3 => repeat (first | exact (Kd.C_below HR3.out HB.out) | (with_reducible refine Kd.C_alloc ?_ _) | (with_reducible refine Kd.C_drewN ?_ _) | (with_reducible refine Kd.C_drew ?_))); (case side4 => exact HC3.out); rintro e w110 ⟨v1144, rfl, ho0, hb⟩; refine ⟨_, rfl, ?_⟩; have n0_ := Aside0.mk (Kd.R_elder' (by (with_reducible repeat (first | apply Kd.R_alloc | apply Kd.R_drewN | apply Kd.R_drew)); exact HO1136.out) (Kd.R_base ho0) hb); have n1_ := Aside0.mk (Kd.R_elder' (by (with_reducible repeat (first | apply Kd.R_alloc | apply Kd.R_drewN | apply Kd.R_drew)); exact HO1141.out) (Kd.R_base ho0) hb); have n2_ := Aside0.mk (Kd.R_lower (Kd.R_new' (Kd.R_new' ho0 (Kd.R_lt (by (with_reducible repeat (first | apply Kd.R_alloc | apply Kd.R_drewN | apply Kd.R_drew)); exact HO1136.out))) (Kd.R_lt (by (with_reducible repeat (first | apply Kd.R_alloc | apply Kd.R_drewN | apply Kd.R_drew)); exact HO1141.out))) (below_size (by repeat (first | (with_reducible first | exact HB.out | apply below_alloc | apply pw_below_drewN | apply below_drew1) | exact HB.out)))); have n3_ := Aside0.mk (below_step (by repeat (first | (with_reducible first | exact HB.out | apply below_alloc | apply pw_below_drewN | apply below_drew1) | exact HB.out)) hb); clear HO1136; clear HO1141; clear HB; have HO1136 := n0_; have HO1141 := n1_; have HO1145 := n2_; have HB := n3_; clear n0_ n1_ n2_ n3_; (try clear hb); (try clear hb2); (try clear hk); (try clear hi); (try clear ho0)) | (go_at_call 13; (with_reducible refine (tinplatelaw05_alive.calls kj67  t1148 _ A106.out).mono ?_); rintro e w111 ⟨rfl, hb⟩; have n0_ := Aside0.mk (Kd.R_below (by (with_reducible repeat (first | apply Kd.R_alloc | apply Kd.R_drewN | apply Kd.R_drew)); exact HO1136.out) hb); have n1_ := Aside0.mk (Kd.R_below (by (with_reducible repeat (first | apply Kd.R_alloc | apply Kd.R_drewN | apply Kd.R_drew)); exact HO1141.out) hb); have n2_ := Aside0.mk (Kd.R_below (by (with_reducible repeat (first | apply Kd.R_alloc | apply Kd.R_drewN | apply Kd.R_drew)); exact HO1145.out) hb); have n3_ := Aside0.mk (below_step (by repeat (first | (with_reducible first | exact HB.out | apply below_alloc | apply pw_below_drewN | apply below_drew1) | exact HB.out)) hb); clear HO1136; clear HO1141; clear HO1145; clear HB; have HO1136 := n0_; have HO1141 := n1_; have HO1145 := n2_; have HB := n3_; clear n0_ n1_ n2_ n3_; (try clear hb); (try clear hb2); (try clear hk); (try clear hi)))
                       go_ret
                       exact ⟨by first | rfl | (simp [errW_none, errW_some] <;> rfl) | (simp [*, errW_none, errW_some] <;> rfl), by repeat (first | (with_reducible first | exact HB.out | apply below_alloc | apply pw_below_drewN | apply below_drew1) | exact HB.out)⟩
                     ·
                      rw [if_neg c88] at H
                      have c88b0 : (t1139 == 0) = false := beq_eq_false_iff_ne.mpr c88
                      have c88b1 : (t1139 != 0) = true := bne_iff_ne.mpr c88
                      replace H := Option.bind_eq_some_iff.mp H
                      obtain ⟨t1149, A1120, H⟩ := H
                      replace H : (some t1149) = some r := H
                      have A112 := Aside0.mk A1120
                      clear A1120
                      obtain rfl := Option.some.inj H
                      go_wp2_with (first | ((with_reducible refine gate_callee (f := 27) rfl ?_); refine goesL_ (some 158) rfl rfl Try.func27 (by kernel_rfl) rfl #[.slice A0 l0.length c0, .slice A3 l3.length c3, .int .i64 (wrap64 (Int.tmod a4 1000))] rfl (by (try simp only [List.map_toArray, List.map_cons, List.map_nil]); first | done | rfl | (simp only [List.length_drop, List.length_take]; rfl)) ?_; (with_reducible refine (line_Run.calls kj67 _ _ l0 _ _ l3 (wrap64 (Int.tmod a4 1000)) t1133 t1134 _ ?side1 ?side2 ?side3 ?side4 A84.out).mono ?_); (case side1 => repeat (first | exact (Kd.C_below HR0.out HB.out) | (with_reducible refine Kd.C_alloc ?_ _) | (with_reducible refine Kd.C_drewN ?_ _) | (with_reducible refine Kd.C_drew ?_))); (case side2 => exact HC0.out); (case side3 => repeat (first | exact (Kd.C_below HR3.out HB.out) | (with_reducible refine Kd.C_alloc ?_ _) | (with_reducible refine Kd.C_drewN ?_ _) | (with_reducible refine Kd.C_drew ?_))); (case side4 => exact HC3.out); rintro e w113 ⟨v1135, rfl, ho0, hb⟩; refine ⟨_, rfl, ?_⟩; have n0_ := Aside0.mk (Kd.R_lower ho0 (below_size (by repeat (first | (with_reducible first | exact HB.out | apply below_alloc | apply pw_below_drewN | apply below_drew1) | exact HB.out)))); have n1_ := Aside0.mk (below_step (by repeat (first | (with_reducible first | exact HB.out | apply below_alloc | apply pw_below_drewN | apply below_drew1) | exact HB.out)) hb); clear HB; have HO1136 := n0_; have HB := n1_; clear n0_ n1_; (try clear hb); (try clear hb2); (try clear hk); (try clear hi); (try clear ho0); obtain ⟨Ao114, co114, eo114⟩ := Kd.R_slice HO1136.out; subst eo114) | ((with_reducible refine gate_callee (f := 27) rfl ?_); refine goesL_ (some 168) rfl rfl Try.func27 (by kernel_rfl) rfl #[.slice A0 l0.length c0, .slice Ao114 t1133.length co114, .int .i64 (wrap64 (Int.tmod a5 1000))] rfl (by (try simp only [List.map_toArray, List.map_cons, List.map_nil]); first | done | rfl | (simp only [List.length_drop, List.length_take]; rfl)) ?_; (with_reducible refine (line_Run.calls kj67 _ _ l0 _ _ t1133 (wrap64 (Int.tmod a5 1000)) t1138 t1139 _ ?side1 ?side2 ?side3 ?side4 A86.out).mono ?_); (case side1 => repeat (first | exact (Kd.C_below HR0.out HB.out) | (with_reducible refine Kd.C_alloc ?_ _) | (with_reducible refine Kd.C_drewN ?_ _) | (with_reducible refine Kd.C_drew ?_))); (case side2 => exact HC0.out); (case side3 => repeat (first | exact (Kd.R_reads' HO1136.out).2.2 | (with_reducible refine Kd.C_alloc ?_ _) | (with_reducible refine Kd.C_drewN ?_ _) | (with_reducible refine Kd.C_drew ?_))); (case side4 => exact (Kd.R_reads' HO1136.out).2.1); rintro e w115 ⟨v1140, rfl, ho0, hb⟩; refine ⟨_, rfl, ?_⟩; have n0_ := Aside0.mk (Kd.R_elder' (by (with_reducible repeat (first | apply Kd.R_alloc | apply Kd.R_drewN | apply Kd.R_drew)); exact HO1136.out) (Kd.R_base ho0) hb); have n1_ := Aside0.mk (Kd.R_lower (Kd.R_new' ho0 (Kd.R_lt (by (with_reducible repeat (first | apply Kd.R_alloc | apply Kd.R_drewN | apply Kd.R_drew)); exact HO1136.out))) (below_size (by repeat (first | (with_reducible first | exact HB.out | apply below_alloc | apply pw_below_drewN | apply below_drew1) | exact HB.out)))); have n2_ := Aside0.mk (below_step (by repeat (first | (with_reducible first | exact HB.out | apply below_alloc | apply pw_below_drewN | apply below_drew1) | exact HB.out)) hb); clear HO1136; clear HB; have HO1136 := n0_; have HO1141 := n1_; have HB := n2_; clear n0_ n1_ n2_; (try clear hb); (try clear hb2); (try clear hk); (try clear hi); (try clear ho0)) | ((with_reducible refine gate_callee (f := 27) rfl ?_); refine goesL_ (some 177) rfl rfl Try.func27 (by kernel_rfl) rfl #[.slice A0 l0.length c0, .slice A3 l3.length c3, .int .i64 (wrap64 ((wrap64 (Int.tmod a4 1000)) + (wrap64 (Int.tmod a5 1000))))] rfl (by (try simp only [List.map_toArray, List.map_cons, List.map_nil]); first | done | rfl | (simp only [List.length_drop, List.length_take]; rfl)) ?_; (with_reducible refine (line_Run.calls kj67 _ _ l0 _ _ l3 (wrap64 ((wrap64 (Int.tmod a4 1000)) + (wrap64 (Int.tmod a5 1000)))) t1142 t1143 _ ?side1 ?side2 ?side3 ?side4 A87.out).mono ?_); (case side1 => repeat (first | exact (Kd.C_below HR0.out HB.out) | (with_reducible refine Kd.C_alloc ?_ _) | (with_reducible refine Kd.C_drewN ?_ _) | (with_reducible refine Kd.C_drew ?_))); (case side2 => exact HC0.out); (case side3 => repeat (first | exact (Kd.C_below HR3.out HB.out) | (with_reducible refine Kd.C_alloc ?_ _) | (with_reducible refine Kd.C_drewN ?_ _) | (with_reducible refine Kd.C_drew ?_))); (case side4 => exact HC3.out); rintro e w116 ⟨v1144, rfl, ho0, hb⟩; refine ⟨_, rfl, ?_⟩; have n0_ := Aside0.mk (Kd.R_elder' (by (with_reducible repeat (first | apply Kd.R_alloc | apply Kd.R_drewN | apply Kd.R_drew)); exact HO1136.out) (Kd.R_base ho0) hb); have n1_ := Aside0.mk (Kd.R_elder' (by (with_reducible repeat (first | apply Kd.R_alloc | apply Kd.R_drewN | apply Kd.R_drew)); exact HO1141.out) (Kd.R_base ho0) hb); have n2_ := Aside0.mk (Kd.R_lower (Kd.R_new' (Kd.R_new' ho0 (Kd.R_lt (by (with_reducible repeat (first | apply Kd.R_alloc | apply Kd.R_drewN | apply Kd.R_drew)); exact HO1136.out))) (Kd.R_lt (by (with_reducible repeat (first | apply Kd.R_alloc | apply Kd.R_drewN | apply Kd.R_drew)); exact HO1141.out))) (below_size (by repeat (first | (with_reducible first | exact HB.out | apply below_alloc | apply pw_below_drewN | apply below_drew1) | exact HB.out)))); have n3_ := Aside0.mk (below_step (by repeat (first | (with_reducible first | exact HB.out | apply below_alloc | apply pw_below_drewN | apply below_drew1) | exact HB.out)) hb); clear HO1136; clear HO1141; clear HB; have HO1136 := n0_; have HO1141 := n1_; have HO1145 := n2_; have HB := n3_; clear n0_ n1_ n2_ n3_; (try clear hb); (try clear hb2); (try clear hk); (try clear hi); (try clear ho0)) | (go_at_call 13; (with_reducible refine (tinplatelaw05_alive.calls kj67  t1149 _ A112.out).mono ?_); rintro e w117 ⟨rfl, hb⟩; have n0_ := Aside0.mk (Kd.R_below (by (with_reducible repeat (first | apply Kd.R_alloc | apply Kd.R_drewN | apply Kd.R_drew)); exact HO1136.out) hb); have n1_ := Aside0.mk (Kd.R_below (by (with_reducible repeat (first | apply Kd.R_alloc | apply Kd.R_drewN | apply Kd.R_drew)); exact HO1141.out) hb); have n2_ := Aside0.mk (Kd.R_below (by (with_reducible repeat (first | apply Kd.R_alloc | apply Kd.R_drewN | apply Kd.R_drew)); exact HO1145.out) hb); have n3_ := Aside0.mk (below_step (by repeat (first | (with_reducible first | exact HB.out | apply below_alloc | apply pw_below_drewN | apply below_drew1) | exact HB.out)) hb); clear HO1136; clear HO1141; clear HO1145; clear HB; have HO1136 := n0_; have HO1141 := n1_; have HO1145 := n2_; have HB := n3_; clear n0_ n1_ n2_ n3_; (try clear hb); (try clear hb2); (try clear hk); (try clear hi)))
                      go_ret
                      exact ⟨by first | rfl | (simp [errW_none, errW_some] <;> rfl) | (simp [*, errW_none, errW_some] <;> rfl), by repeat (first | (with_reducible first | exact HB.out | apply below_alloc | apply pw_below_drewN | apply below_drew1) | exact HB.out)⟩
                    ·
                     rw [if_neg c85] at H
                     have c85b0 : (t1134 == 0) = false := beq_eq_false_iff_ne.mpr c85
                     have c85b1 : (t1134 != 0) = true := bne_iff_ne.mpr c85
                     replace H := Option.bind_eq_some_iff.mp H
                     obtain ⟨t1137, A1180, H⟩ := H
                     replace H : (some t1137) = some r := H
                     have A118 := Aside0.mk A1180
                     clear A1180
                     obtain rfl := Option.some.inj H
                     go_wp2_with (first | ((with_reducible refine gate_callee (f := 27) rfl ?_); refine goesL_ (some 158) rfl rfl Try.func27 (by kernel_rfl) rfl #[.slice A0 l0.length c0, .slice A3 l3.length c3, .int .i64 (wrap64 (Int.tmod a4 1000))] rfl (by (try simp only [List.map_toArray, List.map_cons, List.map_nil]); first | done | rfl | (simp only [List.length_drop, List.length_take]; rfl)) ?_; (with_reducible refine (line_Run.calls kj67 _ _ l0 _ _ l3 (wrap64 (Int.tmod a4 1000)) t1133 t1134 _ ?side1 ?side2 ?side3 ?side4 A84.out).mono ?_); (case side1 => repeat (first | exact (Kd.C_below HR0.out HB.out) | (with_reducible refine Kd.C_alloc ?_ _) | (with_reducible refine Kd.C_drewN ?_ _) | (with_reducible refine Kd.C_drew ?_))); (case side2 => exact HC0.out); (case side3 => repeat (first | exact (Kd.C_below HR3.out HB.out) | (with_reducible refine Kd.C_alloc ?_ _) | (with_reducible refine Kd.C_drewN ?_ _) | (with_reducible refine Kd.C_drew ?_))); (case side4 => exact HC3.out); rintro e w119 ⟨v1135, rfl, ho0, hb⟩; refine ⟨_, rfl, ?_⟩; have n0_ := Aside0.mk (Kd.R_lower ho0 (below_size (by repeat (first | (with_reducible first | exact HB.out | apply below_alloc | apply pw_below_drewN | apply below_drew1) | exact HB.out)))); have n1_ := Aside0.mk (below_step (by repeat (first | (with_reducible first | exact HB.out | apply below_alloc | apply pw_below_drewN | apply below_drew1) | exact HB.out)) hb); clear HB; have HO1136 := n0_; have HB := n1_; clear n0_ n1_; (try clear hb); (try clear hb2); (try clear hk); (try clear hi); (try clear ho0)) | ((with_reducible refine gate_callee (f := 13) rfl ?_); refine goesL_ (some 163) rfl rfl Try.func13 (by kernel_rfl) rfl #[] rfl (by (try simp only [List.map_toArray, List.map_cons, List.map_nil]); first | done | rfl | (simp only [List.length_drop, List.length_take]; rfl)) ?_; (with_reducible refine (tinplatelaw05_alive.calls kj67  t1137 _ A118.out).mono ?_); rintro e w120 ⟨rfl, hb⟩; refine ⟨_, rfl, ?_⟩; have n0_ := Aside0.mk (Kd.R_below (by (with_reducible repeat (first | apply Kd.R_alloc | apply Kd.R_drewN | apply Kd.R_drew)); exact HO1136.out) hb); have n1_ := Aside0.mk (below_step (by repeat (first | (with_reducible first | exact HB.out | apply below_alloc | apply pw_below_drewN | apply below_drew1) | exact HB.out)) hb); clear HO1136; clear HB; have HO1136 := n0_; have HB := n1_; clear n0_ n1_; (try clear hb); (try clear hb2); (try clear hk); (try clear hi)))
                     go_ret
                     exact ⟨by first | rfl | (simp [errW_none, errW_some] <;> rfl) | (simp [*, errW_none, errW_some] <;> rfl), by repeat (first | (with_reducible first | exact HB.out | apply below_alloc | apply pw_below_drewN | apply below_drew1) | exact HB.out)⟩
               ·
                rw [if_neg c67] at H
                have c67b0 : (t1115 == 0) = false := beq_eq_false_iff_ne.mpr c67
                have c67b1 : (t1115 != 0) = true := bne_iff_ne.mpr c67
                replace H := Option.bind_eq_some_iff.mp H
                obtain ⟨t1126, A1210, H⟩ := H
                replace H : (some t1126) = some r := H
                have A121 := Aside0.mk A1210
                clear A1210
                obtain rfl := Option.some.inj H
                go_wp2_with (first | ((with_reducible refine gate_callee (f := 13) rfl ?_); refine goesL_ (some 133) rfl rfl Try.func13 (by kernel_rfl) rfl #[] rfl (by (try simp only [List.map_toArray, List.map_cons, List.map_nil]); first | done | rfl | (simp only [List.length_drop, List.length_take]; rfl)) ?_; (with_reducible refine (tinplatelaw05_alive.calls kj60  t1126 _ A121.out).mono ?_); rintro e w122 ⟨rfl, hb⟩; refine ⟨_, rfl, ?_⟩; have n0_ := Aside0.mk (Kd.S_below (by (with_reducible repeat (first | apply Kd.S_alloc | apply Kd.S_drewN | apply Kd.S_drew)); exact HO_13.out) hb); have n1_ := Aside0.mk (Kd.S_below (by (with_reducible repeat (first | apply Kd.S_alloc | apply Kd.S_drewN | apply Kd.S_drew)); exact HO_15.out) hb); have n2_ := Aside0.mk (Kd.S_below (by (with_reducible repeat (first | apply Kd.S_alloc | apply Kd.S_drewN | apply Kd.S_drew)); exact HO_23.out) hb); have n3_ := Aside0.mk (below_step (by repeat (first | (with_reducible first | exact HB.out | apply below_alloc | apply pw_below_drewN | apply below_drew1) | exact HB.out)) hb); clear HO_13; clear HO_15; clear HO_23; clear HB; have HO_13 := n0_; have HO_15 := n1_; have HO_23 := n2_; have HB := n3_; clear n0_ n1_ n2_ n3_; (try clear hb); (try clear hb2); (try clear hk); (try clear hi)))
                go_ret
                exact ⟨by first | rfl | (simp [errW_none, errW_some] <;> rfl) | (simp [*, errW_none, errW_some] <;> rfl), by repeat (first | (with_reducible first | exact HB.out | apply below_alloc | apply pw_below_drewN | apply below_drew1) | exact HB.out)⟩
end Go.Proofs.Ythjmfbmffchicaa.V
