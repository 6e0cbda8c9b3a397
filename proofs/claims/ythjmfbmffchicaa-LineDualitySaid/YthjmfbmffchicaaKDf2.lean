/- Walks of functions that the law LineDuality reaches: each theorem '.calls' says that the call comes to what its printed plain function says, under the conditions that stand in it. -/
import Derived.Test.YthjmfbmffchicaaKDHub
import Derived.Test.YthjmfbmffchicaaKDf0
import Derived.Test.YthjmfbmffchicaaKDf1
namespace Go.Proofs.Ythjmfbmffchicaa.V
open Go.RowKit Go.Proofs.YthjmfbmffchicaaW.PrintWords Go.Proofs.YthjmfbmffchicaaW.PrintLast Go.Proofs.YthjmfbmffchicaaW.PrintMore
attribute [local go_sem] max2_int min2_int max_two min_two max_three min_three max_four min_four
set_option maxHeartbeats 8000000
set_option maxRecDepth 100000
set_option linter.unusedVariables false
set_option linter.unusedSimpArgs false
mutual
def lgmapped.l0 (G : Int → Option Int) : Nat → List (List Int) → List (List Int) → Int → Int → Option ((List (List Int)))
 | 0, _, _, _, _ => none
 | k + 1, x5, x13, x14, x15 => if x15 < x14 then (if 0 ≤ x15 then (if x15 < (x13.length : Int) then ((slices_Clone_int_int.f (rd_L1 x13 x15)).bind fun t188 => (if x15 < (x5.length : Int) then (lgmapped.l1 G k (x5.set (x15 : Int).toNat t188) x15 x13 x14 x15 (rd_L1 x13 x15) ((rd_L1 x13 x15).length : Int) 0) else (none))) else (none)) else (none)) else (some x5)
def lgmapped.l1 (G : Int → Option Int) : Nat → List (List Int) → Int → List (List Int) → Int → Int → List Int → Int → Int → Option ((List (List Int)))
 | 0, _, _, _, _, _, _, _, _ => none
 | k + 1, x5, x6, x13, x14, x15, x25, x26, x27 => if x27 < x26 then (if 0 ≤ x27 then (if x27 < (x25.length : Int) then ((line_never_int.f).bind fun t193 => (if (rd x25 x27) = t193 then (lgmapped.l1 G k x5 x6 x13 x14 x15 x25 x26 (wrap64 (x27 + 1))) else (if 0 ≤ x6 then (if x6 < (x5.length : Int) then ((G (rd x25 x27)).bind fun t195 => (if x27 < ((rd_L1 x5 x6).length : Int) then (lgmapped.l1 G k (x5.set (x6 : Int).toNat ((rd_L1 x5 x6).set (x27 : Int).toNat t195)) x6 x13 x14 x15 x25 x26 (wrap64 (x27 + 1))) else (none))) else (none)) else (none)))) else (none)) else (none)) else (lgmapped.l0 G k x5 x13 x14 (wrap64 (x15 + 1)))
end
def lgmapped.f (G : Int → Option Int) (k : Nat) (l0 : List (List Int)) (a1 : Int) : Option ((List (List Int))) := if 0 ≤ (l0.length : Int) then (if ((l0.length : Int) : Int).toNat ≤ 11728124029610 then (lgmapped.l0 G k (List.replicate ((l0.length : Int) : Int).toNat []) l0 (l0.length : Int) 0) else (none)) else (none)
theorem lgmapped.mono_l (G : Int → Option Int) : ∀ k, (∀ y0 y1 y2 y3, LeO (lgmapped.l0 G k y0 y1 y2 y3) (lgmapped.l0 G (k + 1) y0 y1 y2 y3)) ∧ (∀ y0 y1 y2 y3 y4 y5 y6 y7, LeO (lgmapped.l1 G k y0 y1 y2 y3 y4 y5 y6 y7) (lgmapped.l1 G (k + 1) y0 y1 y2 y3 y4 y5 y6 y7))
 | 0 => ⟨fun _ _ _ _ r h => by simp [lgmapped.l0] at h, fun _ _ _ _ _ _ _ _ r h => by simp [lgmapped.l1] at h⟩
 | k + 1 => by
  obtain ⟨ih0, ih1⟩ := lgmapped.mono_l G k
  refine ⟨?_, ?_⟩
  ·
   intro y0 y1 y2 y3
   unfold lgmapped.l0
   repeat' first
   | (with_reducible exact LeO.refl _)
   | (with_reducible exact LeO.none _)
   | (with_reducible refine LeO.ite ?_ ?_)
   | (with_reducible refine LeO.bind ?_ (fun _ => ?_))
   | exact ih0 _ _ _ _
   | exact ih1 _ _ _ _ _ _ _ _
  ·
   intro y0 y1 y2 y3 y4 y5 y6 y7
   unfold lgmapped.l1
   repeat' first
   | (with_reducible exact LeO.refl _)
   | (with_reducible exact LeO.none _)
   | (with_reducible refine LeO.ite ?_ ?_)
   | (with_reducible refine LeO.bind ?_ (fun _ => ?_))
   | exact ih0 _ _ _ _
   | exact ih1 _ _ _ _ _ _ _ _
theorem lgmapped.mono (G : Int → Option Int) : ∀ a0 a1 k, LeO (lgmapped.f G k a0 a1) (lgmapped.f G (k + 1) a0 a1) := by
 intro a0 a1 k
 obtain ⟨ih0, ih1⟩ := lgmapped.mono_l G k
 unfold lgmapped.f
 repeat' first
   | (with_reducible exact LeO.refl _)
   | (with_reducible exact LeO.none _)
   | (with_reducible refine LeO.ite ?_ ?_)
   | (with_reducible refine LeO.bind ?_ (fun _ => ?_))
   | exact ih0 _ _ _ _
   | exact ih1 _ _ _ _ _ _ _ _
def lgmapped.T10 : Bool × List (List Nat × List Nat) := (true, [([], []), ([], []), ([0, 1], [0, 1]), ([2], [2]), ([], []), ([], []), ([], []), ([5, 6], [5, 6]), ([3, 4, 0, 1, 2, 3, 4, 5, 6, 7], [3, 4]), ([8, 7, 7, 0, 1, 2, 3, 4, 5, 6, 7], [7, 8])])
def lgmapped.B10 : List Nat := [0, 0, 3, 7, 0, 0, 0, 96, 255, 511]
theorem lgmapped.tab10 : rtab .any (opsOf Try.f57 10) = lgmapped.T10 := by kernel_rfl
theorem lgmapped.bits10 : waitsOk lgmapped.T10.2 lgmapped.B10 = true := by kernel_rfl
theorem lgmapped.calls (G : Int → Option Int) (F : FuncId) (fn : Func) (cap : Array Value) (hfF : Try.prog.funcs[F]? = some fn) (hnF : (fn.name == "runtime.NumGoroutine") = false) (hbF : fn.body.isSome = true) (k : Nat) (A0 : Option Addr) (c0 : Nat) (l0 : List (List Int)) (a1 : Int) (r : List (List Int)) (w : World) (hr0 : Kd.C (Kd.slice 3 (Kd.int .i64)) w A0 l0.length l0) (hc0 : l0.length ≤ c0) (hG : ∀ w', Below w.heap.size w w' → ∀ x r, G x = some r → Calls Try.prog F (#[.int .i64 x] ++ cap) w' fun e w'' => e = .returned (.int .i64 r) ∧ Drawn0 w' w'') (h : lgmapped.f G k l0 a1 = some r) :
  Calls Try.prog 57 #[.slice A0 l0.length c0, .func (.func F) #[] cap] w fun e w' => ∃ v0_ : Value, e = .returned (v0_) ∧ Kd.S (Kd.slice 3 (Kd.int .i64)) 26 w' w.heap.size (fun _ => True) v0_ r ∧ Below w.heap.size w w' := by
 have HR0 := xA.mk hr0
 have HC0 := xA.mk hc0
 clear hr0 hc0
 have HB := xA.mk (Below.refl w.heap.size w)
 have H : (if 0 ≤ (l0.length : Int) then (if ((l0.length : Int) : Int).toNat ≤ 11728124029610 then (lgmapped.l0 G k (List.replicate ((l0.length : Int) : Int).toNat []) l0 (l0.length : Int) 0) else (none)) else (none)) = some r := h
 clear h
 obtain ⟨c3, H⟩ := ite_some H
 have c3b0 := eq_true c3
 have c3b1 : decide (0 ≤ (l0.length : Int)) = true := qu c3
 clear c3
 obtain ⟨c4, H⟩ := ite_some H
 have c4b0 := eq_true c4
 have c4b1 : decide (((l0.length : Int) : Int).toNat ≤ 11728124029610) = true := qu c4
 clear c4
 obtain ⟨y184, hy184⟩ : ∃ y_ : List (List Int), y_ = (List.replicate ((l0.length : Int) : Int).toNat []) := ⟨_, rfl⟩
 replace H : (lgmapped.l0 G k y184 l0 (l0.length : Int) 0) = some r := by first | (rw [hy184]; with_reducible exact H) | (have H2_ := (Option.bind_some _ _).symm.trans H; rw [hy184]; with_reducible exact H2_) | (have H2_ := (Option.bind_some _ _).symm.trans H; with_reducible exact H2_) | with_reducible exact H | (rw [hy184]; exact H) | exact H
 have Ny184 := xA.mk hy184
 clear hy184
 have H' := xA.mk H
 clear H
 go_enter Try.func57, Try.ntmps57
 go_wp2_with (first | ((with_reducible refine xW (N := 12) rfl ?_); refine Kd.S_make (Kd.slice 3 (Kd.int .i64)) _ 26 rfl (N := 12) rfl 56 _ _ rfl (l0.length : Int) rfl rfl Try.underlying56 (.slice none 0 0) 24 info26 rfl (by decide) jj [] (ok := fun _ => True) (okp := fun _ => True) ⟨_, rfl, Kd.R_nil _ _ _ _ _⟩ (fun _ hk => hk) trivial (qr) (Nat.le_trans (Nat.mul_le_mul_right _ (qr : (l0.length : Int).toNat ≤ 11728124029610)) jj) (Below.refl _ _) (Nat.le_refl _) ?_; intro v185 w5 ho6 hb hg_ hnew_; clear hg_ hnew_; (first | rw [← Ny184.out] at ho6 | (simp only [Int.reduceToNat] at ho6; rw [← Ny184.out] at ho6)); have HO186 := xA.mk (Kd.S_lower ho6 (xD qa)); replace HB := xA.mk (xF qa hb); clear hb ho6))
 go_loopg [15] k (fun kq v15 w' => ∃ (x5_1 : List (List Int)) (x15_1 : Int), v15 = .int .i64 x15_1 ∧ xA (lgmapped.l0 G kq x5_1 l0 (l0.length : Int) x15_1 = some r) ∧ xA (kq ≤ k) ∧ xA (Kd.S (Kd.slice 3 (Kd.int .i64)) 26 w' w.heap.size (fun _ => True) v185 x5_1) ∧ xA (Below w.heap.size w w'))
 case atStart => exact ⟨(y184), (0), qf, H', ⟨Nat.le_refl _⟩, ⟨qh HO186.out⟩, ⟨qa⟩⟩
 case round =>
  clear H'
  try clear c1
  try clear p2
  try clear c3
  try clear c3b0
  try clear c3b1
  try clear c4
  try clear c4b0
  try clear c4b1
  obtain ⟨x5_1, x15_1, rfl, HA, HK1, HO_5, HB⟩ := hrel
  obtain _ | k1 := gk
  · exact absurd HA.out (by simp [lgmapped.l0])
  have H := HA.out
  clear HA
  simp only [lgmapped.l0] at H
  obtain ⟨c7b0, H⟩ | ⟨c7b0, H⟩ := itd_or H
  rotate_left
  ·
   obtain rfl := qx H
   go_wp2
   go_ret
   exact ⟨_, rfl, by exact HO_5.out, HB.out⟩
  obtain ⟨c8b0, H⟩ := xL H
  obtain ⟨c9b0, H⟩ := xL H
  replace H := qw H
  obtain ⟨t188, A100, H⟩ := H
  replace H : (if x15_1 < (x5_1.length : Int) then (lgmapped.l1 G k1 (x5_1.set (x15_1 : Int).toNat t188) x15_1 l0 (l0.length : Int) x15_1 (rd_L1 l0 x15_1) ((rd_L1 l0 x15_1).length : Int) 0) else (none)) = some r := H
  have A10 := xA.mk A100
  clear A100
  obtain ⟨c11b0, H⟩ := xL H
  obtain ⟨y191, hy191⟩ : ∃ y_ : List (List Int), y_ = (x5_1.set (x15_1 : Int).toNat t188) := ⟨_, rfl⟩
  replace H : (lgmapped.l1 G k1 y191 x15_1 l0 (l0.length : Int) x15_1 (rd_L1 l0 x15_1) ((rd_L1 l0 x15_1).length : Int) 0) = some r := by rw [hy191]; exact H
  have Ny191 := xA.mk hy191
  clear hy191
  have H' := xA.mk H
  clear H
  have p187 : 0 ≤ (x15_1 : Int) := qq
  have q187 : x15_1 < (l0.length : Int) := qq
  obtain ⟨ad187, A187_0, c187_0, e187, hx187_0, hl187_0, hi187_0⟩ := at_L1 HR0.out x15_1 p187 q187
  cases e187
  replace hx187_0 := (HB.out.cell (World.block_lt_of_cell? w _ hx187_0)).trans hx187_0
  have HR187_0 := xA.mk hi187_0
  have HC187_0 := xA.mk hl187_0
  clear hi187_0 hl187_0
  replace p187 := eq_true p187
  replace q187 := eq_true q187
  go_wp2_with (first | ((with_reducible refine xK (f := 90) rfl ?_); refine xS (some 23) rfl rfl Try.func90 jk rfl #[.slice A187_0 (rd_L1 l0 x15_1).length c187_0] rfl qd ?_; (with_reducible refine (slices_Clone_int_int.calls _ _ (rd_L1 l0 x15_1) t188 _ ?side1 ?side2 A10.out).mono ?_); (case side1 => repeat (first | exact (Kd.yC HR187_0.out HB.out))); (case side2 => exact HC187_0.out); rintro e w13 ⟨v189, rfl, ho0, hb⟩; refine ⟨_, rfl, ?_⟩; replace HO_5 := xA.mk (Kd.S_elder' (by exact HO_5.out) (Kd.R_base ho0) hb); have HO190 := xA.mk (Kd.R_lower ho0 (xD (HB.out))); replace HB := xA.mk (xF (HB.out) hb); have p12 : 0 ≤ (x15_1 : Int) := qq; have q12 : (x15_1 : Int) < ((x5_1.length : Int) : Int) := qq; obtain ⟨go12, co12, eo12, gb12, gl12, cl12, HG12⟩ := Kd.S_form HO_5.out jj; (first | cases eo12 | (injection eo12 with ea_ en_ ec_; (first | subst ea_ | (injection ea_ with ea_; subst ea_)); subst ec_; clear en_)); have GB12 := xA.mk gb12; have GG12 := xA.mk HG12; clear gb12 gl12 HG12; obtain ⟨_, ce12, hcl12, hM12, hcc12, hfr12, _, _⟩ := Kd.S_elem HO_5.out [] (x15_1 : Int) p12 q12; obtain ⟨ve12_0, rfl, ge12_0⟩ := hM12; have hx12_0 := hcc12 0 _ rfl; have hf12_0 := hfr12 0; (try simp only [show ((Kd.slice 3 (Kd.int .i64))).sz = 1 from rfl, Nat.mul_one, Nat.add_zero] at hx12_0); (try simp only [show ((Kd.slice 3 (Kd.int .i64))).sz = 1 from rfl, Nat.mul_one, Nat.add_zero] at hf12_0); clear hcl12 hcc12 hfr12; replace p12 := eq_true p12; replace q12 := eq_true q12; have n_ := xA.mk (Kd.xQ (ok' := (fun k_ => some k_ ≠ (v189 : Value).ownBlock)) HO_5.out (fun k_ hk => hk.2)); clear HO_5; have HO_5 := n_; clear n_; have HX14 := xA.mk (show Kd.S (Kd.slice 3 (Kd.int .i64)) 26 w13 w.heap.size (fun k_ => ((fun _ => True)) k_ ∧ ¬ ((fun k_ => some k_ = (v189 : Value).ownBlock)) k_) (.slice (some ⟨go12, 0, none⟩) x5_1.length co12) x5_1 from (by exact Kd.xQ HO_5.out (fun k_ hk => ⟨trivial, fun e_ => hk e_⟩))); obtain ⟨oki14, ce14, hcl14, hM14, hcc14, hfr14, hoki14, hH14⟩ := Kd.S_elem HX14.out [] (x15_1 : Int) (qq) (by have h_ : (x15_1 : Int) < ((x5_1.length : Int) : Int) := qq; first | exact h_ | (have e_ := (Kd.xJ HO_5.out).1; omega) | simpa using h_); obtain ⟨ve14_0, rfl, ge14_0⟩ := hM14; have HP14 := Kd.S_seg hH14 (qq) (by have h_ : (x15_1 : Int) < ((x5_1.length : Int) : Int) := qq; first | exact h_ | (have e_ := (Kd.xJ HO_5.out).1; omega) | simpa using h_) (seg := [v189]) (j := 0) (show 1 ≤ 1 from by decide) (x' := t188) (Kd.M_row (Kd.xZ (Kd.R_tight rfl (Kd.xZ (ok' := fun k_ => ((fun _ => True)) k_ ∧ k_ ≠ go12) (Kd.R_apart' (HO190.out) (Kd.S_typed HO_5.out) (by decide)) (fun k_ hk => ⟨trivial, fun e_ => (hk.2) (by rw [e_]; rfl)⟩))) (fun _ h_ => Or.inr (h_)))) (fun _ hk => hk) (fun k_ hk_ => ((Kd.xZ (ok' := fun k_ => ((fun _ => True)) k_ ∧ k_ ≠ go12) (Kd.R_apart' (HO190.out) (Kd.S_typed HO_5.out) (by decide)) (fun k_ hk => ⟨trivial, fun e_ => (hk.2) (by rw [e_]; rfl)⟩))).1 k_ hk_.symm); have hx14_0 := hcc14 0 _ rfl; (try simp only [show ((Kd.slice 3 (Kd.int .i64))).sz = 1 from rfl, Nat.mul_one, Nat.add_zero] at hx14_0); have hf14_0 := hfr14 0; (try simp only [show ((Kd.slice 3 (Kd.int .i64))).sz = 1 from rfl, Nat.mul_one, Nat.add_zero] at hf14_0); clear hcl14 hcc14 hfr14 hoki14 hH14; (try simp only [show ((Kd.slice 3 (Kd.int .i64))).sz = 1 from rfl, Nat.mul_one, Nat.add_zero] at HP14)) | ((with_reducible refine gate_store (t := 26) (p := 24) rfl ?_); refine store_event (t := 26) (p := 24) (v := ?vo_w15) (w1 := (w13.setCell ⟨go12, (x15_1 : Int).toNat, none⟩ (v189))) ?hg ?ho ?hn ?hr ?_; (case ho => rfl); (case hg => rfl); (case hn => rfl); (case hr => first | (go_simp; done) | (go_simp; rfl) | (obtain ⟨A_, c_, e_⟩ := Kd.R_slice (xA.out (by assumption : xA (Kd.R _ _ _ _ _ v189 _))); rw [e_]; go_simp; done) | (obtain ⟨A_, c_, e_⟩ := Kd.R_slice (xA.out (by assumption : xA (Kd.R _ _ _ _ _ v189 _))); rw [e_]; go_simp; rfl)); intro w15 hw; have hg : w13.grownBy w15 (some go12) := (by rw [hw]; exact HP14.2); have hp_ : Kd.S (Kd.slice 3 (Kd.int .i64)) 26 w15 w.heap.size (fun _ => True) (.slice (some ⟨go12, 0, none⟩) x5_1.length co12) y191 := (by rw [hw, Ny191.out]; exact HP14.1); clear HP14; have n0_ := xA.mk (hp_); have n1_ := xA.mk ((by rw [hw]; exact xM (HB.out) GB12.out : Below w.heap.size w w15)); clear HO_5; clear HB; clear HO190; have HO_5 := n0_; have HB := n1_; clear n0_ n1_; clear hg hw hp_))
  go_loopg [27] k1 (fun kq v27 w' => ∃ (x5_2 : List (List Int)) (x27_2 : Int), v27 = .int .i64 x27_2 ∧ xA (lgmapped.l1 G kq x5_2 x15_1 l0 (l0.length : Int) x15_1 (rd_L1 l0 x15_1) ((rd_L1 l0 x15_1).length : Int) x27_2 = some r) ∧ xA (kq ≤ k1) ∧ xA (Kd.S (Kd.slice 3 (Kd.int .i64)) 26 w' w.heap.size (fun _ => True) (.slice (some ⟨go12, 0, none⟩) x5_1.length co12) x5_2) ∧ xA (Below w.heap.size w w'))
  case atStart => exact ⟨(y191), (0), rfl, H', ⟨Nat.le_refl _⟩, ⟨by exact HO_5.out⟩, ⟨HB.out⟩⟩
  case round =>
   clear H'
   try clear p2
   try clear q12
   try clear q187
   obtain ⟨x5_2, x27_2, rfl, HA, HK2, HO_5, HB⟩ := hrel
   have hl5_2 := (Kd.xJ HO_5.out).1
   rw [hl5_2] at HO_5
   (try simp only [hl5_2])
   obtain _ | k2 := gk
   · exact absurd HA.out (by simp [lgmapped.l1])
   have H := HA.out
   clear HA
   simp only [lgmapped.l1] at H
   obtain ⟨c16b0, H⟩ | ⟨c16b0, H⟩ := itd_or H
   rotate_left
   ·
    have H' := xA.mk H
    clear H
    go_wp2
    (try simp only [← hl5_2])
    go_roundg k2
    case measure => have := HK1.out; have := HK2.out; omega
    case rel => exact ⟨(x5_2), (wrap64 (x15_1 + 1)), rfl, H', ⟨by have := HK1.out; have := HK2.out; omega⟩, ⟨by (try simp only [hl5_2]); exact HO_5.out⟩, ⟨qb⟩⟩
   obtain ⟨c17b0, H⟩ := xL H
   obtain ⟨c18b0, H⟩ := xL H
   replace H := qw H
   obtain ⟨t193, A190, H⟩ := H
   replace H : (if (rd (rd_L1 l0 x15_1) x27_2) = t193 then (lgmapped.l1 G k2 x5_2 x15_1 l0 (l0.length : Int) x15_1 (rd_L1 l0 x15_1) ((rd_L1 l0 x15_1).length : Int) (wrap64 (x27_2 + 1))) else (if 0 ≤ x15_1 then (if x15_1 < (x5_2.length : Int) then ((G (rd (rd_L1 l0 x15_1) x27_2)).bind fun t195 => (if x27_2 < ((rd_L1 x5_2 x15_1).length : Int) then (lgmapped.l1 G k2 (x5_2.set (x15_1 : Int).toNat ((rd_L1 x5_2 x15_1).set (x27_2 : Int).toNat t195)) x15_1 l0 (l0.length : Int) x15_1 (rd_L1 l0 x15_1) ((rd_L1 l0 x15_1).length : Int) (wrap64 (x27_2 + 1))) else (none))) else (none)) else (none))) = some r := H
   have A19 := xA.mk A190
   clear A190
   obtain ⟨⟨c20b0, c20b1⟩, H⟩ | ⟨c20, ⟨c20b0, c20b1⟩, H⟩ := itn_or H
   ·
    have H' := xA.mk H
    clear H
    have p192 : 0 ≤ (x27_2 : Int) := qr
    have q192 : x27_2 < ((rd_L1 l0 x15_1).length : Int) := qr
    obtain ⟨ad192, e192, hx192_0⟩ := Kd.xU HR187_0.out x27_2 p192 q192
    cases e192
    replace hx192_0 := (HB.out.cell (World.block_lt_of_cell? w _ hx192_0)).trans hx192_0
    replace p192 := eq_true p192
    replace q192 := eq_true q192
    go_wp2_with (first | ((with_reducible refine xK (f := 83) rfl ?_); refine xS (some 33) rfl rfl Try.func83 jk rfl #[] rfl qc ?_; (with_reducible refine (line_never_int.calls  t193 _ A19.out).mono ?_); rintro e w' ⟨rfl, ⟨nd, rfl⟩⟩; refine ⟨_, rfl, ?_⟩))
    (try simp only [← hl5_2])
    go_roundg k2
    case measure => have := HK1.out; have := HK2.out; omega
    case rel => exact ⟨(x5_2), (wrap64 (x27_2 + 1)), qf, H', ⟨by have := HK1.out; have := HK2.out; omega⟩, ⟨by (try simp only [hl5_2]); (with_reducible repeat (first | apply Kd.S_alloc | apply Kd.yA | apply Kd.xV)); exact HO_5.out⟩, ⟨qa⟩⟩
   obtain ⟨c21b0, H⟩ := xL H
   obtain ⟨c22b0, H⟩ := xL H
   replace H := qw H
   obtain ⟨t195, A230, H⟩ := H
   replace H : (if x27_2 < ((rd_L1 x5_2 x15_1).length : Int) then (lgmapped.l1 G k2 (x5_2.set (x15_1 : Int).toNat ((rd_L1 x5_2 x15_1).set (x27_2 : Int).toNat t195)) x15_1 l0 (l0.length : Int) x15_1 (rd_L1 l0 x15_1) ((rd_L1 l0 x15_1).length : Int) (wrap64 (x27_2 + 1))) else (none)) = some r := H
   have A23 := xA.mk A230
   clear A230
   obtain ⟨c24b0, H⟩ := xL H
   obtain ⟨y196, hy196⟩ : ∃ y_ : List Int, y_ = ((rd_L1 x5_2 x15_1).set (x27_2 : Int).toNat t195) := ⟨_, rfl⟩
   replace H : (lgmapped.l1 G k2 (x5_2.set (x15_1 : Int).toNat y196) x15_1 l0 (l0.length : Int) x15_1 (rd_L1 l0 x15_1) ((rd_L1 l0 x15_1).length : Int) (wrap64 (x27_2 + 1))) = some r := by first | (rw [hy196]; with_reducible exact H) | (have H2_ := (Option.bind_some _ _).symm.trans H; rw [hy196]; with_reducible exact H2_) | (have H2_ := (Option.bind_some _ _).symm.trans H; with_reducible exact H2_) | with_reducible exact H | (rw [hy196]; exact H) | exact H
   have Ny196 := xA.mk hy196
   clear hy196
   obtain ⟨y198, hy198⟩ : ∃ y_ : List (List Int), y_ = (x5_2.set (x15_1 : Int).toNat y196) := ⟨_, rfl⟩
   replace H : (lgmapped.l1 G k2 y198 x15_1 l0 (l0.length : Int) x15_1 (rd_L1 l0 x15_1) ((rd_L1 l0 x15_1).length : Int) (wrap64 (x27_2 + 1))) = some r := by first | (rw [hy198]; with_reducible exact H) | (have H2_ := (Option.bind_some _ _).symm.trans H; rw [hy198]; with_reducible exact H2_) | (have H2_ := (Option.bind_some _ _).symm.trans H; with_reducible exact H2_) | with_reducible exact H | (rw [hy198]; exact H) | exact H
   have Ny198 := xA.mk hy198
   clear hy198
   have H' := xA.mk H
   clear H
   have p192 : 0 ≤ (x27_2 : Int) := qr
   have q192 : x27_2 < ((rd_L1 l0 x15_1).length : Int) := qr
   obtain ⟨ad192, e192, hx192_0⟩ := Kd.xU HR187_0.out x27_2 p192 q192
   cases e192
   replace hx192_0 := (HB.out.cell (World.block_lt_of_cell? w _ hx192_0)).trans hx192_0
   replace p192 := eq_true p192
   replace q192 := eq_true q192
   try go_wp2_with (first | ((with_reducible refine xK (f := 83) rfl ?_); refine xS (some 33) rfl rfl Try.func83 jk rfl #[] rfl qc ?_; (with_reducible refine (line_never_int.calls  t193 _ A19.out).mono ?_); rintro e w' ⟨rfl, ⟨nd, rfl⟩⟩; refine ⟨_, rfl, ?_⟩; (try (rw [drewN_self wr]; generalize hq_ : World.drewN wr _ = wr; have n0_ : xA (Kd.S (Kd.slice 3 (Kd.int .i64)) 26 wr w.heap.size (fun _ => True) (.slice (some ⟨go12, 0, none⟩) x5_2.length co12) x5_2) := ⟨by rw [← hq_]; exact (qh HO_5.out)⟩; have n1_ : xA (Below w.heap.size w wr) := ⟨by rw [← hq_]; exact qa⟩; clear HO_5 HB hq_; have HO_5 := n0_; have HB := n1_; clear n0_ n1_))))
   have n0_ := xA.mk (Kd.xV HO_5.out)
   have n1_ := xA.mk (xN HB.out)
   clear HO_5
   clear HB
   have HO_5 := n0_
   have HB := n1_
   clear n0_ n1_
   have p194 : 0 ≤ (x15_1 : Int) := qr
   have q194 : x15_1 < (x5_2.length : Int) := qr
   obtain ⟨ad194, A194_0, c194_0, e194, hx194_0, hl194_0, hi194_0⟩ := at_L1 (Kd.xJ HO_5.out).2.2 x15_1 p194 q194
   obtain rfl : (⟨go12, 0, none⟩ : Addr) = ad194 := (by injection e194)
   obtain ⟨ce194, hce194, hMe194, hcc194⟩ := Kd.S_get HO_5.out [] x15_1 p194 (by first | exact q194 | exact qr | (have e_ := (Kd.xJ HO_5.out).1; omega))
   obtain ⟨ve194_0, rfl, ge194_0⟩ := hMe194
   have hv194_0 := hcc194 0 _ rfl
   rw [Nat.add_zero, show ((Kd.slice 3 (Kd.int .i64))).sz = 1 from rfl, Nat.mul_one] at hv194_0
   replace hv194_0 := qx (hv194_0.symm.trans hx194_0)
   rw [hv194_0] at ge194_0
   have HL194_0 := xA.mk (show Kd.R (Kd.int .i64) 3 _ _ _ _ (rd_L1 x5_2 x15_1) from ge194_0)
   clear hv194_0 ge194_0
   have HX194_0 := xA.mk hx194_0
   clear hcc194 hce194
   (first | simp only [add_plain] at hx194_0 | simp only [add_at] at hx194_0 | simp only [Addr.add, Nat.zero_add] at hx194_0 | skip)
   have HR194_0 := xA.mk hi194_0
   have HC194_0 := xA.mk hl194_0
   clear hi194_0 hl194_0
   replace p194 := eq_true p194
   replace q194 := eq_true q194
   refine start_ (n := 10) (S := fun w' => w'.cell? ⟨go12, (x15_1).toNat, none⟩ = some (.slice A194_0 (rd_L1 x5_2 x15_1).length c194_0)) (ds := [9]) (jl 10 0) jk rfl rfl (hx194_0) (fun hHeld => ?_); refine with_tabW lgmapped.tab10 lgmapped.bits10 (fun HT_ HW_ => ?_)
   generalize wr.drew = w26 at HO_5 HB HL194_0 HR194_0 HX194_0 hx194_0 hHeld ⊢
   refine pure_ (i := 0) (N := some 35) (v := ?_) (a' := ?_) (jl 10 1) rfl rfl (xE HT_.out jk) (fun _ _ _ h => h) (Or.inl ⟨by rfl, ?_⟩) ?_ ?_
   rotate_left
   ·
    intro w'
    go_simp
    with_reducible rfl
   rotate_left
   ·
    simp only [Act.put, qy, qz, ja, i64_w, i32_w]
    rfl
   refine pure_ (i := 1) (N := some 36) (v := ?_) (a' := ?_) (jl 10 3) rfl rfl (xE HT_.out jk) (fun _ _ _ h => h) (Or.inl ⟨by rfl, ?_⟩) ?_ ?_
   rotate_left
   ·
    intro w'
    go_simp
    with_reducible rfl
   rotate_left
   ·
    simp only [Act.put, qy, qz, ja, i64_w, i32_w]
    rfl
   refine pure_ (i := 2) (N := some 37) (v := ?_) (a' := ?_) (jl 10 7) rfl rfl (xE HT_.out jk) (fun _ _ _ h => h) (Or.inl ⟨by rfl, ?_⟩) ?_ ?_
   rotate_left
   ·
    intro w'
    go_simp
    with_reducible rfl
   rotate_left
   ·
    simp only [Act.put, qy, qz, ja, i64_w, i32_w]
    rfl
   refine pure_ (i := 4) (N := some 39) (v := ?_) (a' := ?_) (jl 10 23) rfl rfl (xE HT_.out jk) (fun _ _ _ h => h) (Or.inl ⟨by rfl, ?_⟩) ?_ ?_
   rotate_left
   ·
    intro w'
    go_simp
    with_reducible rfl
   rotate_left
   ·
    simp only [Act.put, qy, qz, ja, i64_w, i32_w]
    rfl
   refine pure_ (i := 5) (N := some 40) (v := ?_) (a' := ?_) (jl 10 55) rfl rfl (xE HT_.out jk) (fun _ _ _ h => h) (Or.inl ⟨by rfl, ?_⟩) ?_ ?_
   rotate_left
   ·
    intro w'
    go_simp
    with_reducible rfl
   rotate_left
   ·
    simp only [Act.put, qy, qz, ja, i64_w, i32_w]
    rfl
   refine pure_ (i := 6) (N := some 41) (v := ?_) (a' := ?_) (jl 10 119) rfl rfl (xE HT_.out jk) (fun _ _ _ h => h) (Or.inl ⟨by rfl, ?_⟩) ?_ ?_
   rotate_left
   ·
    intro w'
    go_simp
    with_reducible rfl
   rotate_left
   ·
    simp only [Act.put, qy, qz, ja, i64_w, i32_w]
    rfl
   refine take_ (i := 3) (N := some 38) (v := ?_) (a' := ?_) (jl 10 127) rfl rfl (xY HT_.out HW_.out jk) (fun _ _ _ h => h) (Or.inl ⟨by rfl, ?_⟩) hHeld ?_ ?_
   rotate_left
   ·
    intro w' s0
    go_simp
    with_reducible rfl
   rotate_left
   ·
    simp only [Act.put, qy, qz, ja, i64_w, i32_w]
    rfl
   refine one_ (i := 7) (N := some 42) (jl 10 255) rfl rfl (one_of HT_.out jk) (by decide) (fun K hK => ?_)
   refine goesT_ hfF hnF hbF #[.int .i64 (rd (rd_L1 l0 x15_1) x27_2)] (by rfl) rfl rfl (by rfl) qd ?_
   with_reducible refine (hG _ qb (rd (rd_L1 l0 x15_1) x27_2) t195 A23.out).mono ?_
   rintro e w' ⟨rfl, ⟨nd, rfl⟩⟩
   refine ⟨_, rfl, ?_⟩
   have p25 : 0 ≤ (x27_2 : Int) := qq
   have q25 : (x27_2 : Int) < (((rd_L1 x5_2 x15_1).length : Int) : Int) := qq
   obtain ⟨go25, co25, eo25, gb25, gl25, cl25, HG25⟩ := Kd.R_form HL194_0.out jj
   (first | cases eo25 | (injection eo25 with ea_ en_ ec_; (first | subst ea_ | (injection ea_ with ea_; subst ea_)); subst ec_; clear en_))
   have GB25 := xA.mk gb25
   have GG25 := xA.mk HG25
   clear gb25 gl25 HG25
   obtain ⟨hx25_0, hf25_0⟩ := Kd.R_celln 0 HL194_0.out (x27_2 : Int) p25 q25
   replace p25 := eq_true p25
   replace q25 := eq_true q25
   have hq27 : (x15_1 : Int) < (x5_2.length : Int) := (by have h_ : (x15_1 : Int) < ((x5_2.length : Int) : Int) := qq; first | exact h_ | (have e_ := (Kd.xJ HO_5.out).1; omega) | simpa only [List.length_set, List.length_set] using h_)
   obtain ⟨oki27, ce27, hcl27, hM27, hcc27, hok27, hbk27⟩ := Kd.S_borrow HO_5.out [] (x15_1 : Int) (qq) hq27
   obtain ⟨ve27_0, rfl, ge27_0⟩ := hM27
   have hv27 := hcc27 0 _ rfl
   rw [Nat.add_zero, show ((Kd.slice 3 (Kd.int .i64))).sz = 1 from rfl, Nat.mul_one] at hv27
   replace hv27 := qx (hv27.symm.trans HX194_0.out)
   subst hv27
   clear hcc27 hcl27
   replace ge27_0 := (show Kd.R (Kd.int .i64) 3 _ _ _ _ (rd_L1 x5_2 x15_1) from ge27_0)
   have HP27 := Kd.R_putg ge27_0 (x27_2 : Int) t195
   rw [← Ny196.out] at HP27
   have HS27 := hbk27 HP27.2 (fun k_ e_ => by injection e_ with e_; subst e_; exact ge27_0.1 _ rfl) (x' := y196) (Kd.M_row HP27.1)
   rw [← Ny198.out] at HS27
   have HQ27 := xA.mk HS27
   clear HP27 HS27 hbk27 hok27
   refine hK.out _ _ (hHeld) (fun hHeld => ?_)
   clear hK K
   refine norm_ (a' := ?_) ?_ ?_
   rotate_left
   ·
    show Act.put _ (some 42) _ = _
    simp only [Act.put, qy, qz, ja, i64_w, i32_w]
    rfl
   refine pure_ (i := 8) (N := some 43) (v := ?_) (a' := ?_) (jl 10 511) rfl rfl (xE HT_.out jk) (fun _ _ _ h => h) (Or.inl ⟨by rfl, ?_⟩) ?_ ?_
   rotate_left
   ·
    intro w'
    go_simp
    with_reducible rfl
   rotate_left
   ·
    simp only [Act.put, qy, qz, ja, i64_w, i32_w]
    rfl
   refine last_ (i := 9) (N := none) (jl 10 1023) rfl rfl (one_of HT_.out jk) (by decide) (fun K hK => ?_)
   refine skip_ (w1 := ?_) (by rfl) rfl ?_ ?_
   rotate_left
   ·
    go_simp
    rfl
   refine hK.out _ _ ?_
   clear hK K
   refine done_ (done_of HT_.out jk) ?_
   try go_wp2
   (try simp only [← hl5_2])
   go_roundg k2
   case measure => have := HK1.out; have := HK2.out; omega
   case rel => exact ⟨(y198), (wrap64 (x27_2 + 1)), rfl, H', ⟨by have := HK1.out; have := HK2.out; omega⟩, ⟨by (try simp only [hl5_2]); (with_reducible repeat (first | apply Kd.S_alloc | apply Kd.yA | apply Kd.xV)); exact HQ27.out⟩, ⟨qo GB25.out⟩⟩
def lgmapped_reach_1.f (k : Nat) (l0 : List (List Int)) (_a1 : Int) : Option ((List (List Int))) := lgmapped.f (fun _ => some 0) k l0 0
theorem lgmapped_reach_1.mono : ∀ a0 a1 k, LeO (lgmapped_reach_1.f k a0 a1) (lgmapped_reach_1.f (k + 1) a0 a1) := fun a0 _ k => lgmapped.mono _ a0 0 k
theorem lgmapped_reach_1.calls (k : Nat) (A0 : Option Addr) (c0 : Nat) (l0 : List (List Int)) (a1 : Int) (r : List (List Int)) (w : World) (hr0 : Kd.C (Kd.slice 3 (Kd.int .i64)) w A0 l0.length l0) (hc0 : l0.length ≤ c0) (h : lgmapped_reach_1.f k l0 a1 = some r) :
  Calls Try.prog 57 #[.slice A0 l0.length c0, .func (.func 98) #[] #[]] w fun e w' => ∃ v0_ : Value, e = .returned (v0_) ∧ Kd.S (Kd.slice 3 (Kd.int .i64)) 26 w' w.heap.size (fun _ => True) v0_ r ∧ Below w.heap.size w w' :=
 lgmapped.calls _ 98 _ #[] Try.func98 jk rfl k A0 c0 l0 0 r w hr0 hc0 (fun w' _ x r hx => by simpa using lgreach_1.calls x r w' hx) h
def lgslack_1.f (num den x : Int) : Option Int := some (wrap64 (wrap64 (den * x) - num))
theorem lgslack_1.calls (num den x : Int) (b : Nat) (r : Int) (w : World) (h0 : w.cell? ⟨b, 0, none⟩ = some (.int .i64 num)) (h1 : w.cell? ⟨b, 1, none⟩ = some (.int .i64 den)) (h : lgslack_1.f num den x = some r) :
  Calls Try.prog 96 #[.int .i64 x, .pointer (some ⟨b, 0, none⟩)] w fun e w' => e = .returned (.int .i64 r) ∧ Drawn0 w w' := by
 obtain rfl := qx h
 clear h
 go_enter Try.func96, Try.ntmps96
 go_wp2
 go_ret
 exact ⟨by rfl, Drawn0.refl _⟩
def lgslack.f (k : Nat) (l0 : List (List Int)) (a1_0 : Int) (a1_1 : Int) : Option ((List (List Int))) := lgmapped.f (lgslack_1.f a1_0 a1_1) k l0 0
theorem lgslack.mono : ∀ a0 a1 a2 k, LeO (lgslack.f k a0 a1 a2) (lgslack.f (k + 1) a0 a1 a2) := fun a0 _ _ k => lgmapped.mono _ a0 0 k
set_option maxHeartbeats 400000 in
theorem lgslack.calls (k : Nat) (A0 : Option Addr) (c0 : Nat) (l0 : List (List Int)) (a1_0 : Int) (a1_1 : Int) (r : List (List Int)) (w : World) (hr0 : Kd.C (Kd.slice 3 (Kd.int .i64)) w A0 l0.length l0) (hc0 : l0.length ≤ c0) (h : lgslack.f k l0 a1_0 a1_1 = some r) :
  Calls Try.prog 78 #[.slice A0 l0.length c0, .agg #[.int .i64 a1_0, .int .i64 a1_1]] w fun e w' => ∃ v0_ : Value, e = .returned (v0_) ∧ Kd.S (Kd.slice 3 (Kd.int .i64)) 26 w' w.heap.size (fun _ => True) v0_ r ∧ Below w.heap.size w w' := by
 have HR0 := xA.mk hr0
 have HC0 := xA.mk hc0
 have HH := xA.mk h
 clear hr0 hc0 h
 go_enter Try.func78, Try.ntmps78
 go_wp2_with fail
 refine (lgmapped.calls (lgslack_1.f a1_0 a1_1) 96 _ #[.pointer (some ⟨w.heap.size, 0, none⟩)] Try.func96 jk rfl k A0 c0 l0 0 r _ (Kd.C_alloc HR0.out _) HC0.out ?_ HH.out).mono ?_
 ·
  intro w' hb x r' hx
  have hs : w.heap.size < (w.alloc (.cells #[.int .i64 a1_0, .int .i64 a1_1] 37 (0, 0))).heap.size := by simp
  exact lgslack_1.calls a1_0 a1_1 x w.heap.size r' w' ((hb.cell (p := ⟨w.heap.size, 0, none⟩) hs).trans (by simp)) ((hb.cell (p := ⟨w.heap.size, 1, none⟩) hs).trans (by simp)) hx
 rintro e w1 ⟨v, rfl, hs, hb⟩
 have HS := xA.mk hs
 have HB := xA.mk hb
 clear hs hb
 go_wp2
 go_ret
 exact ⟨_, rfl, Kd.S_lower HS.out (by simp), xF (xR (Below.refl _ _) _) HB.out⟩
def line_looked.f (k : Nat) (l0 : List (List Int)) : Option ((List (List Int)) × Int × Int × (List (List Int)) × (List (List Int)) × Int) := (line_of.f k l0).bind fun bt204 => (if bt204.2 = true then ((lgpace.f k bt204.1).bind fun bt208 => (if bt208.2.2 = true then ((lgslack.f k bt204.1 bt208.1 bt208.2.1).bind fun t212 => ((lgclosed.f k t212).bind fun t215 => (some (bt204.1, bt208.1, bt208.2.1, t212, t215, 0)))) else (some (([] : List (List Int)), 0, 0, ([] : List (List Int)), ([] : List (List Int)), 10)))) else (some (([] : List (List Int)), 0, 0, ([] : List (List Int)), ([] : List (List Int)), 2)))
theorem line_looked.mono : ∀ a0 k, LeO (line_looked.f k a0) (line_looked.f (k + 1) a0) := by
 intro a0 k
 unfold line_looked.f
 repeat' first
   | (with_reducible exact LeO.refl _)
   | (with_reducible exact LeO.none _)
   | (with_reducible refine LeO.ite ?_ ?_)
   | (with_reducible refine LeO.bind ?_ (fun _ => ?_))
   | exact lgclosed.mono _ _
   | exact lgpace.mono _ _
   | exact lgslack.mono _ _ _ _
   | exact line_of.mono _ _
def line_looked.T8 : Bool × List (List Nat × List Nat) := (true, [([], []), ([], []), ([], []), ([], []), ([3], [3]), ([0, 1, 2, 4], [0, 1, 2, 4]), ([5, 4, 0, 1, 2, 3, 4, 5], [5]), ([6, 0, 1, 2, 3, 4, 5, 6], [])])
def line_looked.B8 : List Nat := [0, 0, 0, 0, 8, 31, 63, 127]
theorem line_looked.tab8 : rtab .any (opsOf Try.f45 8) = line_looked.T8 := by kernel_rfl
theorem line_looked.bits8 : waitsOk line_looked.T8.2 line_looked.B8 = true := by kernel_rfl
theorem line_looked.calls (k : Nat) (P0_ : Nat → Prop) (A0 : Option Addr) (c0 : Nat) (l0 : List (List Int)) (r1 : List (List Int)) (r2 : Int) (r3 : Int) (r4 : List (List Int)) (r5 : List (List Int)) (r6 : Int) (w : World) (hs0 : Kd.V (Kd.slice 3 (Kd.int .i64)) 26 w w.heap.size (fun k_ => P0_ k_) (.slice A0 l0.length c0) l0) (h : line_looked.f k l0 = some (r1, r2, r3, r4, r5, r6)) :
  Calls Try.prog 45 #[.slice A0 l0.length c0] w fun e w' => ∃ v0_ v3_ v4_ : Value, e = .returned (.tuple #[.agg #[v0_, .int .i64 r2, .int .i64 r3, v3_, v4_], .int .i64 r6]) ∧ Kd.V (Kd.slice 3 (Kd.int .i64)) 26 w' w.heap.size (fun k_ => (P0_ k_ ∨ w.heap.size ≤ k_) ∧ some k_ ≠ (v3_ : Value).ownBlock ∧ some k_ ≠ (v4_ : Value).ownBlock) v0_ r1 ∧ Kd.S (Kd.slice 3 (Kd.int .i64)) 26 w' w.heap.size (fun k_ => (w.heap.size ≤ k_) ∧ some k_ ≠ (v4_ : Value).ownBlock) v3_ r4 ∧ Kd.S (Kd.slice 3 (Kd.int .i64)) 26 w' w.heap.size (fun k_ => (w.heap.size ≤ k_) ∧ some k_ ≠ (v3_ : Value).ownBlock) v4_ r5 ∧ Below w.heap.size w w' := by
 have hu58 := Try.underlying58
 have hu37 := Try.underlying37
 have HO0 := xA.mk (show Kd.V (Kd.slice 3 (Kd.int .i64)) 26 w w.heap.size (fun k_ => (P0_ k_ ∨ w.heap.size ≤ k_)) (.slice A0 l0.length c0) l0 from Kd.V_mono hs0 (fun k_ hk => .inl hk))
 have HB := xA.mk (Below.refl w.heap.size w)
 have H : ((line_of.f k l0).bind fun bt204 => (if bt204.2 = true then ((lgpace.f k bt204.1).bind fun bt208 => (if bt208.2.2 = true then ((lgslack.f k bt204.1 bt208.1 bt208.2.1).bind fun t212 => ((lgclosed.f k t212).bind fun t215 => (some (bt204.1, bt208.1, bt208.2.1, t212, t215, 0)))) else (some (([] : List (List Int)), 0, 0, ([] : List (List Int)), ([] : List (List Int)), 10)))) else (some (([] : List (List Int)), 0, 0, ([] : List (List Int)), ([] : List (List Int)), 2)))) = some (r1, r2, r3, r4, r5, r6) := h
 clear h
 replace H := qw H
 obtain ⟨⟨t204, t207⟩, A20, H⟩ := H
 replace H : (if t207 = true then ((lgpace.f k t204).bind fun bt208 => (if bt208.2.2 = true then ((lgslack.f k t204 bt208.1 bt208.2.1).bind fun t212 => ((lgclosed.f k t212).bind fun t215 => (some (t204, bt208.1, bt208.2.1, t212, t215, 0)))) else (some (([] : List (List Int)), 0, 0, ([] : List (List Int)), ([] : List (List Int)), 10)))) else (some (([] : List (List Int)), 0, 0, ([] : List (List Int)), ([] : List (List Int)), 2))) = some (r1, r2, r3, r4, r5, r6) := H
 have A2 := xA.mk A20
 clear A20
 by_cases c3 : t207 = true
 rotate_left
 ·
  replace c3 := Bool.eq_false_iff.mpr c3
  subst c3
  have H1 : (some (([] : List (List Int)), 0, 0, ([] : List (List Int)), ([] : List (List Int)), 2)) = some (r1, r2, r3, r4, r5, r6) := by rw [if_neg (show ¬ (false = true) by decide)] at H; exact H
  clear H
  have H := H1
  clear H1
  simp only [Option.some.injEq, Prod.mk.injEq] at H
  obtain ⟨rfl, rfl, rfl, rfl, rfl, rfl⟩ := H
  go_enter Try.func45, Try.ntmps45
  go_wp2_with (first | ((with_reducible refine xW (N := 2) rfl ?_); refine yF ?hg (N := 2) ?hd (cs := #[.slice none 0 0, .int .i64 0, .int .i64 0, .slice none 0 0, .slice none 0 0]) (t := 58) ?hr ?_; (case hd => rfl); (case hg => rfl); (case hr => first | (go_simp; done) | (go_simp; rfl)); intro gb203 hg w33 hbox hb; have n0_ := xA.mk (Kd.V_below (Kd.V_elderB (qj HO0.out) gb203 (Nat.le_of_eq hg.symm)) hb); have n1_ := xA.mk (xF qa hb); have n2_ := xA.mk (hbox); have n3_ := xA.mk ((by rw [hg]; exact (xD qa) : w.heap.size ≤ gb203)); have n4_ := xA.mk ((by rw [hg]; exact (xD qa) : w.heap.size ≤ gb203)); clear HO0; clear HB; have HO0 := n0_; have HB := n1_; have BK203 := n2_; have GW203 := n3_; have GE203 := n4_; clear n0_ n1_ n2_ n3_ n4_; clear hb hbox hg) | ((with_reducible refine xK (f := 64) rfl ?_); refine xS (some 11) rfl rfl Try.func64 jk rfl #[.slice A0 l0.length c0] rfl qc ?_; (with_reducible refine (line_of.calls k (fun k_ => ((P0_ k_ ∨ w.heap.size ≤ k_) ∧ k_ ≠ gb203)) _ _ l0 t204 false _ ?side1 A2.out).mono ?_); (case side1 => exact HO0.out); rintro e w34 ⟨v205, rfl, ho0, hb⟩; refine ⟨_, rfl, ?_⟩; replace HO0 := xA.mk (Kd.V_below (qj HO0.out) hb); have HO206 := xA.mk (Kd.V_lower (Kd.V_mono (ok' := fun k_ => (P0_ k_ ∨ w.heap.size ≤ k_) ∧ k_ ≠ gb203) ho0 (fun k_ hk_ => ⟨Or.elim hk_ (fun hs_ => hs_.1) (fun hn_ => (.inr (Nat.le_trans (xD (qo GE203.out)) hn_))), Or.elim hk_ (fun hs_ => hs_.2) (fun hn_ => (Kd.freshB (g := gb203) (o := .cells #[.slice none 0 0, .int .i64 0, .int .i64 0, .slice none 0 0, .slice none 0 0] 58 (0, 0)) (qn BK203.out) k_ hn_))⟩)) (xD (qo GE203.out))); replace BK203 := xA.mk (xO (g := gb203) (o := .cells #[.slice none 0 0, .int .i64 0, .int .i64 0, .slice none 0 0, .slice none 0 0] 58 (0, 0)) (qn BK203.out) hb); replace HB := xA.mk (xF (qo GE203.out) hb); (try clear hb); (try clear hb2); (try clear hk); (try clear hi); (try clear ho0); have hcz35_0 : w34.cell? ⟨gb203, 0, none⟩ = some (.slice none 0 0) := (xB BK203.out 0).trans rfl; have hcz35_1 : w34.cell? ⟨gb203, 1, none⟩ = some (.int .i64 0) := (xB BK203.out 1).trans rfl; have hcz35_2 : w34.cell? ⟨gb203, 2, none⟩ = some (.int .i64 0) := (xB BK203.out 2).trans rfl; have hcz35_3 : w34.cell? ⟨gb203, 3, none⟩ = some (.slice none 0 0) := (xB BK203.out 3).trans rfl; have hcz35_4 : w34.cell? ⟨gb203, 4, none⟩ = some (.slice none 0 0) := (xB BK203.out 4).trans rfl; have hfz35_0 := xC BK203.out 0; have hfz35_1 := xC BK203.out 1; have hfz35_2 := xC BK203.out 2; have hfz35_3 := xC BK203.out 3; have hfz35_4 := xC BK203.out 4))
  refine bodyPost_ret (results_ct rfl _ _ gb203 58 #[.slice none 0 0, .int .i64 0, .int .i64 0, .slice none 0 0, .slice none 0 0] (0, 0) _ rfl (by (with_reducible repeat (first | refine xI ?_ _ | refine xH ?_ | refine xG ?_ _)); refine xT (cs := #[.slice none 0 0, .int .i64 0, .int .i64 0, .slice none 0 0, .slice none 0 0]) ?_ 4 _ rfl; (with_reducible repeat (first | refine xI ?_ _ | refine xH ?_ | refine xG ?_ _)); refine xT (cs := #[.slice none 0 0, .int .i64 0, .int .i64 0, .slice none 0 0, .slice none 0 0]) ?_ 3 _ rfl; (with_reducible repeat (first | refine xI ?_ _ | refine xH ?_ | refine xG ?_ _)); refine xT (cs := #[.slice none 0 0, .int .i64 0, .int .i64 0, .slice none 0 0, .slice none 0 0]) ?_ 2 _ rfl; (with_reducible repeat (first | refine xI ?_ _ | refine xH ?_ | refine xG ?_ _)); refine xT (cs := #[.slice none 0 0, .int .i64 0, .int .i64 0, .slice none 0 0, .slice none 0 0]) ?_ 1 _ rfl; (with_reducible repeat (first | refine xI ?_ _ | refine xH ?_ | refine xG ?_ _)); refine xT (cs := #[.slice none 0 0, .int .i64 0, .int .i64 0, .slice none 0 0, .slice none 0 0]) ?_ 0 _ rfl; (with_reducible repeat (first | refine xI ?_ _ | refine xH ?_ | refine xG ?_ _)); exact BK203.out) Try.underlying58 rfl jk) rfl ?_
  exact ⟨_, _, _, qg, (show Kd.V _ _ _ _ _ (.slice none 0 0) _ from Kd.V_nil _ _ _ _ _), by first | exact Kd.S_nil _ _ _ _ _ | exact Kd.N_nil _ _ _ _ _ | exact Kd.V_nil _ _ _ _ _ | exact Kd.Q_nil _ _ _ _ _ | exact Kd.R_nil _ _ _ _ _, by first | exact Kd.S_nil _ _ _ _ _ | exact Kd.N_nil _ _ _ _ _ | exact Kd.V_nil _ _ _ _ _ | exact Kd.Q_nil _ _ _ _ _ | exact Kd.R_nil _ _ _ _ _, qo GE203.out⟩
 subst c3
 have H1 : ((lgpace.f k t204).bind fun bt208 => (if bt208.2.2 = true then ((lgslack.f k t204 bt208.1 bt208.2.1).bind fun t212 => ((lgclosed.f k t212).bind fun t215 => (some (t204, bt208.1, bt208.2.1, t212, t215, 0)))) else (some (([] : List (List Int)), 0, 0, ([] : List (List Int)), ([] : List (List Int)), 10)))) = some (r1, r2, r3, r4, r5, r6) := by rw [if_pos rfl] at H; exact H
 clear H
 have H := H1
 clear H1
 replace H := qw H
 obtain ⟨⟨t208, t209, t210⟩, A40, H⟩ := H
 replace H : (if t210 = true then ((lgslack.f k t204 t208 t209).bind fun t212 => ((lgclosed.f k t212).bind fun t215 => (some (t204, t208, t209, t212, t215, 0)))) else (some (([] : List (List Int)), 0, 0, ([] : List (List Int)), ([] : List (List Int)), 10))) = some (r1, r2, r3, r4, r5, r6) := H
 have A4 := xA.mk A40
 clear A40
 by_cases c5 : t210 = true
 rotate_left
 ·
  replace c5 := Bool.eq_false_iff.mpr c5
  subst c5
  have H1 : (some (([] : List (List Int)), 0, 0, ([] : List (List Int)), ([] : List (List Int)), 10)) = some (r1, r2, r3, r4, r5, r6) := by rw [if_neg (show ¬ (false = true) by decide)] at H; exact H
  clear H
  have H := H1
  clear H1
  simp only [Option.some.injEq, Prod.mk.injEq] at H
  obtain ⟨rfl, rfl, rfl, rfl, rfl, rfl⟩ := H
  go_enter Try.func45, Try.ntmps45
  go_wp2_with (first | ((with_reducible refine xW (N := 2) rfl ?_); refine yF ?hg (N := 2) ?hd (cs := #[.slice none 0 0, .int .i64 0, .int .i64 0, .slice none 0 0, .slice none 0 0]) (t := 58) ?hr ?_; (case hd => rfl); (case hg => rfl); (case hr => first | (go_simp; done) | (go_simp; rfl)); intro gb203 hg w25 hbox hb; have n0_ := xA.mk (Kd.V_below (Kd.V_elderB (qj HO0.out) gb203 (Nat.le_of_eq hg.symm)) hb); have n1_ := xA.mk (xF qa hb); have n2_ := xA.mk (hbox); have n3_ := xA.mk ((by rw [hg]; exact (xD qa) : w.heap.size ≤ gb203)); have n4_ := xA.mk ((by rw [hg]; exact (xD qa) : w.heap.size ≤ gb203)); clear HO0; clear HB; have HO0 := n0_; have HB := n1_; have BK203 := n2_; have GW203 := n3_; have GE203 := n4_; clear n0_ n1_ n2_ n3_ n4_; clear hb hbox hg) | ((with_reducible refine xK (f := 64) rfl ?_); refine xS (some 11) rfl rfl Try.func64 jk rfl #[.slice A0 l0.length c0] rfl qc ?_; (with_reducible refine (line_of.calls k (fun k_ => ((P0_ k_ ∨ w.heap.size ≤ k_) ∧ k_ ≠ gb203)) _ _ l0 t204 true _ ?side1 A2.out).mono ?_); (case side1 => exact HO0.out); rintro e w26 ⟨v205, rfl, ho0, hb⟩; refine ⟨_, rfl, ?_⟩; replace HO0 := xA.mk (Kd.V_below (qj HO0.out) hb); have HO206 := xA.mk (Kd.V_lower (Kd.V_mono (ok' := fun k_ => (P0_ k_ ∨ w.heap.size ≤ k_) ∧ k_ ≠ gb203) ho0 (fun k_ hk_ => ⟨Or.elim hk_ (fun hs_ => hs_.1) (fun hn_ => (.inr (Nat.le_trans (xD (qo GE203.out)) hn_))), Or.elim hk_ (fun hs_ => hs_.2) (fun hn_ => (Kd.freshB (g := gb203) (o := .cells #[.slice none 0 0, .int .i64 0, .int .i64 0, .slice none 0 0, .slice none 0 0] 58 (0, 0)) (qn BK203.out) k_ hn_))⟩)) (xD (qo GE203.out))); replace BK203 := xA.mk (xO (g := gb203) (o := .cells #[.slice none 0 0, .int .i64 0, .int .i64 0, .slice none 0 0, .slice none 0 0] 58 (0, 0)) (qn BK203.out) hb); replace HB := xA.mk (xF (qo GE203.out) hb); (try clear hb); (try clear hb2); (try clear hk); (try clear hi); (try clear ho0); obtain ⟨Ao27, co27, eo27⟩ := Kd.V_slice HO206.out; subst eo27) | ((with_reducible refine xK (f := 65) rfl ?_); refine xS (some 19) rfl rfl Try.func65 jk rfl #[.slice Ao27 t204.length co27] rfl qc ?_; (with_reducible refine (lgpace.calls k _ _ t204 t208 t209 false _ ?side1 ?side2 A4.out).mono ?_); (case side1 => exact qm (Kd.yB HO206.out).2.2); (case side2 => exact (Kd.yB HO206.out).2.1); rintro e w28 ⟨rfl, hb⟩; refine ⟨_, rfl, ?_⟩; replace HO0 := xA.mk (Kd.V_below (qj HO0.out) hb); replace HO206 := xA.mk (Kd.V_below (qj HO206.out) hb); replace BK203 := xA.mk (xO (g := gb203) (o := .cells #[.slice none 0 0, .int .i64 0, .int .i64 0, .slice none 0 0, .slice none 0 0] 58 (0, 0)) (qn BK203.out) hb); replace HB := xA.mk (xF (qo GE203.out) hb); (try clear hb); (try clear hb2); (try clear hk); (try clear hi)) | ((with_reducible refine xW (N := 6) rfl ?_); refine yF ?hg (N := 6) ?hd (cs := #[.int .i64 0, .int .i64 0]) (t := 37) ?hr ?_; (case hd => rfl); (case hg => rfl); (case hr => first | (go_simp; done) | (go_simp; rfl)); intro gb211 hg w29 hbox hb; have n0_ := xA.mk (Kd.V_below (Kd.V_elderB (qj HO0.out) gb211 (Nat.le_of_eq hg.symm)) hb); have n1_ := xA.mk (Kd.V_below (Kd.V_elderB (qj HO206.out) gb211 (Nat.le_of_eq hg.symm)) hb); have n2_ := xA.mk (xO (g := gb203) (o := .cells #[.slice none 0 0, .int .i64 0, .int .i64 0, .slice none 0 0, .slice none 0 0] 58 (0, 0)) (qn BK203.out) hb); have n3_ := xA.mk (xF (qo GE203.out) hb); have n4_ := xA.mk (hbox); have n5_ := xA.mk ((by rw [hg]; exact (xD (qo GE203.out)) : w.heap.size ≤ gb211)); have n6_ := xA.mk ((by rw [hg]; exact (xD (qo GE203.out)) : w.heap.size ≤ gb211)); have n7_ := xA.mk ((by rw [hg]; exact Nat.ne_of_lt (blk_lt (g := gb203) (o := .cells #[.slice none 0 0, .int .i64 0, .int .i64 0, .slice none 0 0, .slice none 0 0] 58 (0, 0)) (qn BK203.out)) : gb203 ≠ gb211)); have n8_ := xA.mk ((by rw [hg]; exact Nat.ne_of_gt (blk_lt (g := gb203) (o := .cells #[.slice none 0 0, .int .i64 0, .int .i64 0, .slice none 0 0, .slice none 0 0] 58 (0, 0)) (qn BK203.out)) : gb211 ≠ gb203)); clear HO0; clear HO206; clear BK203; clear HB; have HO0 := n0_; have HO206 := n1_; have BK203 := n2_; have HB := n3_; have BK211 := n4_; have GW211 := n5_; have GE211 := n6_; have NB203_211 := n7_; have NB211_203 := n8_; clear n0_ n1_ n2_ n3_ n4_ n5_ n6_ n7_ n8_; clear hb hbox hg; have hnb30 := NB211_203.out; have hnc30 := NB203_211.out; have hcz31_0 : w29.cell? ⟨gb211, 0, none⟩ = some (.int .i64 0) := (xB BK211.out 0).trans rfl; have hcz31_1 : w29.cell? ⟨gb211, 1, none⟩ = some (.int .i64 0) := (xB BK211.out 1).trans rfl; have hfz31_0 := xC BK211.out 0; have hfz31_1 := xC BK211.out 1; have hcz32_0 : w29.cell? ⟨gb203, 0, none⟩ = some (.slice none 0 0) := (xB BK203.out 0).trans rfl; have hcz32_1 : w29.cell? ⟨gb203, 1, none⟩ = some (.int .i64 0) := (xB BK203.out 1).trans rfl; have hcz32_2 : w29.cell? ⟨gb203, 2, none⟩ = some (.int .i64 0) := (xB BK203.out 2).trans rfl; have hcz32_3 : w29.cell? ⟨gb203, 3, none⟩ = some (.slice none 0 0) := (xB BK203.out 3).trans rfl; have hcz32_4 : w29.cell? ⟨gb203, 4, none⟩ = some (.slice none 0 0) := (xB BK203.out 4).trans rfl; have hfz32_0 := xC BK203.out 0; have hfz32_1 := xC BK203.out 1; have hfz32_2 := xC BK203.out 2; have hfz32_3 := xC BK203.out 3; have hfz32_4 := xC BK203.out 4))
  refine bodyPost_ret (results_ct rfl _ _ gb203 58 #[.slice none 0 0, .int .i64 0, .int .i64 0, .slice none 0 0, .slice none 0 0] (0, 0) _ rfl (by (with_reducible repeat (first | refine xI ?_ _ | refine xH ?_ | refine xG ?_ _)); refine xT (cs := #[.slice none 0 0, .int .i64 0, .int .i64 0, .slice none 0 0, .slice none 0 0]) ?_ 4 _ rfl; (with_reducible repeat (first | refine xI ?_ _ | refine xH ?_ | refine xG ?_ _)); refine xT (cs := #[.slice none 0 0, .int .i64 0, .int .i64 0, .slice none 0 0, .slice none 0 0]) ?_ 3 _ rfl; (with_reducible repeat (first | refine xI ?_ _ | refine xH ?_ | refine xG ?_ _)); refine xT (cs := #[.slice none 0 0, .int .i64 0, .int .i64 0, .slice none 0 0, .slice none 0 0]) ?_ 2 _ rfl; (with_reducible repeat (first | refine xI ?_ _ | refine xH ?_ | refine xG ?_ _)); refine xT (cs := #[.slice none 0 0, .int .i64 0, .int .i64 0, .slice none 0 0, .slice none 0 0]) ?_ 1 _ rfl; (with_reducible repeat (first | refine xI ?_ _ | refine xH ?_ | refine xG ?_ _)); refine xT (cs := #[.slice none 0 0, .int .i64 0, .int .i64 0, .slice none 0 0, .slice none 0 0]) ?_ 0 _ rfl; (with_reducible repeat (first | refine xI ?_ _ | refine xH ?_ | refine xG ?_ _)); refine blk_far ?_ NB203_211.out _; (with_reducible repeat (first | refine xI ?_ _ | refine xH ?_ | refine xG ?_ _)); refine blk_far ?_ NB203_211.out _; (with_reducible repeat (first | refine xI ?_ _ | refine xH ?_ | refine xG ?_ _)); exact BK203.out) Try.underlying58 rfl jk) rfl ?_
  exact ⟨_, _, _, qg, (show Kd.V _ _ _ _ _ (.slice none 0 0) _ from Kd.V_nil _ _ _ _ _), by first | exact Kd.S_nil _ _ _ _ _ | exact Kd.N_nil _ _ _ _ _ | exact Kd.V_nil _ _ _ _ _ | exact Kd.Q_nil _ _ _ _ _ | exact Kd.R_nil _ _ _ _ _, by first | exact Kd.S_nil _ _ _ _ _ | exact Kd.N_nil _ _ _ _ _ | exact Kd.V_nil _ _ _ _ _ | exact Kd.Q_nil _ _ _ _ _ | exact Kd.R_nil _ _ _ _ _, by repeat (first | (with_reducible first | exact HB.out | apply xR | apply xP | apply xN | refine xM ?_ GE203.out | refine xM ?_ GE211.out) | exact HB.out)⟩
 subst c5
 have H1 : ((lgslack.f k t204 t208 t209).bind fun t212 => ((lgclosed.f k t212).bind fun t215 => (some (t204, t208, t209, t212, t215, 0)))) = some (r1, r2, r3, r4, r5, r6) := by rw [if_pos rfl] at H; exact H
 clear H
 have H := H1
 clear H1
 replace H := qw H
 obtain ⟨t212, A60, H⟩ := H
 replace H : ((lgclosed.f k t212).bind fun t215 => (some (t204, t208, t209, t212, t215, 0))) = some (r1, r2, r3, r4, r5, r6) := H
 have A6 := xA.mk A60
 clear A60
 replace H := qw H
 obtain ⟨t215, A70, H⟩ := H
 replace H : (some (t204, t208, t209, t212, t215, 0)) = some (r1, r2, r3, r4, r5, r6) := H
 have A7 := xA.mk A70
 clear A70
 simp only [Option.some.injEq, Prod.mk.injEq] at H
 obtain ⟨rfl, rfl, rfl, rfl, rfl, rfl⟩ := H
 go_enter Try.func45, Try.ntmps45
 try go_wp2_with (first | ((with_reducible refine xW (N := 2) rfl ?_); refine yF ?hg (N := 2) ?hd (cs := #[.slice none 0 0, .int .i64 0, .int .i64 0, .slice none 0 0, .slice none 0 0]) (t := 58) ?hr ?_; (case hd => rfl); (case hg => rfl); (case hr => first | (go_simp; done) | (go_simp; rfl)); intro gb203 hg w8 hbox hb; have n0_ := xA.mk (Kd.V_below (Kd.V_elderB (qj HO0.out) gb203 (Nat.le_of_eq hg.symm)) hb); have n1_ := xA.mk (xF qa hb); have n2_ := xA.mk (hbox); have n3_ := xA.mk ((by rw [hg]; exact (xD qa) : w.heap.size ≤ gb203)); have n4_ := xA.mk ((by rw [hg]; exact (xD qa) : w.heap.size ≤ gb203)); clear HO0; clear HB; have HO0 := n0_; have HB := n1_; have BK203 := n2_; have GW203 := n3_; have GE203 := n4_; clear n0_ n1_ n2_ n3_ n4_; clear hb hbox hg) | ((with_reducible refine xK (f := 64) rfl ?_); refine xS (some 11) rfl rfl Try.func64 jk rfl #[.slice A0 l0.length c0] rfl qc ?_; (with_reducible refine (line_of.calls k (fun k_ => ((P0_ k_ ∨ w.heap.size ≤ k_) ∧ k_ ≠ gb203)) _ _ l0 t204 true _ ?side1 A2.out).mono ?_); (case side1 => exact HO0.out); rintro e w9 ⟨v205, rfl, ho0, hb⟩; refine ⟨_, rfl, ?_⟩; replace HO0 := xA.mk (Kd.V_below (qj HO0.out) hb); have HO206 := xA.mk (Kd.V_lower (Kd.V_mono (ok' := fun k_ => (P0_ k_ ∨ w.heap.size ≤ k_) ∧ k_ ≠ gb203) ho0 (fun k_ hk_ => ⟨Or.elim hk_ (fun hs_ => hs_.1) (fun hn_ => (.inr (Nat.le_trans (xD (qo GE203.out)) hn_))), Or.elim hk_ (fun hs_ => hs_.2) (fun hn_ => (Kd.freshB (g := gb203) (o := .cells #[.slice none 0 0, .int .i64 0, .int .i64 0, .slice none 0 0, .slice none 0 0] 58 (0, 0)) (qn BK203.out) k_ hn_))⟩)) (xD (qo GE203.out))); replace BK203 := xA.mk (xO (g := gb203) (o := .cells #[.slice none 0 0, .int .i64 0, .int .i64 0, .slice none 0 0, .slice none 0 0] 58 (0, 0)) (qn BK203.out) hb); replace HB := xA.mk (xF (qo GE203.out) hb); (try clear hb); (try clear hb2); (try clear hk); (try clear hi); (try clear ho0); obtain ⟨Ao10, co10, eo10⟩ := Kd.V_slice HO206.out; subst eo10) | ((with_reducible refine xK (f := 65) rfl ?_); refine xS (some 19) rfl rfl Try.func65 jk rfl #[.slice Ao10 t204.length co10] rfl qc ?_; (with_reducible refine (lgpace.calls k _ _ t204 t208 t209 true _ ?side1 ?side2 A4.out).mono ?_); (case side1 => exact qm (Kd.yB HO206.out).2.2); (case side2 => exact (Kd.yB HO206.out).2.1); rintro e w11 ⟨rfl, hb⟩; refine ⟨_, rfl, ?_⟩; replace HO0 := xA.mk (Kd.V_below (qj HO0.out) hb); replace HO206 := xA.mk (Kd.V_below (qj HO206.out) hb); replace BK203 := xA.mk (xO (g := gb203) (o := .cells #[.slice none 0 0, .int .i64 0, .int .i64 0, .slice none 0 0, .slice none 0 0] 58 (0, 0)) (qn BK203.out) hb); replace HB := xA.mk (xF (qo GE203.out) hb); (try clear hb); (try clear hb2); (try clear hk); (try clear hi)) | ((with_reducible refine xW (N := 6) rfl ?_); refine yF ?hg (N := 6) ?hd (cs := #[.int .i64 0, .int .i64 0]) (t := 37) ?hr ?_; (case hd => rfl); (case hg => rfl); (case hr => first | (go_simp; done) | (go_simp; rfl)); intro gb211 hg w12 hbox hb; have n0_ := xA.mk (Kd.V_below (Kd.V_elderB (qj HO0.out) gb211 (Nat.le_of_eq hg.symm)) hb); have n1_ := xA.mk (Kd.V_below (Kd.V_elderB (qj HO206.out) gb211 (Nat.le_of_eq hg.symm)) hb); have n2_ := xA.mk (xO (g := gb203) (o := .cells #[.slice none 0 0, .int .i64 0, .int .i64 0, .slice none 0 0, .slice none 0 0] 58 (0, 0)) (qn BK203.out) hb); have n3_ := xA.mk (xF (qo GE203.out) hb); have n4_ := xA.mk (hbox); have n5_ := xA.mk ((by rw [hg]; exact (xD (qo GE203.out)) : w.heap.size ≤ gb211)); have n6_ := xA.mk ((by rw [hg]; exact (xD (qo GE203.out)) : w.heap.size ≤ gb211)); have n7_ := xA.mk ((by rw [hg]; exact Nat.ne_of_lt (blk_lt (g := gb203) (o := .cells #[.slice none 0 0, .int .i64 0, .int .i64 0, .slice none 0 0, .slice none 0 0] 58 (0, 0)) (qn BK203.out)) : gb203 ≠ gb211)); have n8_ := xA.mk ((by rw [hg]; exact Nat.ne_of_gt (blk_lt (g := gb203) (o := .cells #[.slice none 0 0, .int .i64 0, .int .i64 0, .slice none 0 0, .slice none 0 0] 58 (0, 0)) (qn BK203.out)) : gb211 ≠ gb203)); clear HO0; clear HO206; clear BK203; clear HB; have HO0 := n0_; have HO206 := n1_; have BK203 := n2_; have HB := n3_; have BK211 := n4_; have GW211 := n5_; have GE211 := n6_; have NB203_211 := n7_; have NB211_203 := n8_; clear n0_ n1_ n2_ n3_ n4_ n5_ n6_ n7_ n8_; clear hb hbox hg; have hnb13 := NB211_203.out; have hnc13 := NB203_211.out; have hcz14_0 : w12.cell? ⟨gb211, 0, none⟩ = some (.int .i64 0) := (xB BK211.out 0).trans rfl; have hcz14_1 : w12.cell? ⟨gb211, 1, none⟩ = some (.int .i64 0) := (xB BK211.out 1).trans rfl; have hfz14_0 := xC BK211.out 0; have hfz14_1 := xC BK211.out 1) | ((with_reducible refine xK (f := 78) rfl ?_); refine xS (some 27) rfl rfl Try.func78 jk rfl #[.slice Ao10 t204.length co10, .agg #[.int .i64 t208, .int .i64 t209]] rfl qc ?_; (with_reducible refine (lgslack.calls k _ _ t204 t208 t209 t212 _ ?side1 ?side2 A6.out).mono ?_); (case side1 => refine (Kd.yB (e := 26) (base := w.heap.size) (ok := fun k_ => (((P0_ k_ ∨ w.heap.size ≤ k_) ∧ k_ ≠ gb203) ∧ k_ ≠ gb211)) (n := t204.length) (c := co10) ?_).2.2; exact (by (with_reducible repeat (first | apply Kd.V_alloc | apply Kd.V_drewN | apply Kd.V_drew)); exact (Kd.V_mono (Kd.V_far (p := ⟨gb211, 1, none⟩) (Kd.V_far (p := ⟨gb211, 0, none⟩) (Kd.V_mono HO206.out (fun k_ hk => (⟨hk, hk.2⟩ : _ ∧ k_ ≠ gb211))) (fun _ hk => hk.2) (.int .i64 t208)) (fun _ hk => hk.2) (.int .i64 t209)) (fun _ h_ => h_.1)))); (case side2 => exact (Kd.yB HO206.out).2.1); rintro e w15 ⟨v213, rfl, ho0, hb⟩; refine ⟨_, rfl, ?_⟩; have n0_ := xA.mk (Kd.V_elder' (by (with_reducible repeat (first | apply Kd.V_alloc | apply Kd.V_drewN | apply Kd.V_drew)); exact (Kd.V_mono (Kd.V_far (p := ⟨gb211, 1, none⟩) (Kd.V_far (p := ⟨gb211, 0, none⟩) (Kd.V_mono HO0.out (fun k_ hk => (⟨hk, hk.2⟩ : _ ∧ k_ ≠ gb211))) (fun _ hk => hk.2) (.int .i64 t208)) (fun _ hk => hk.2) (.int .i64 t209)) (fun _ h_ => h_.1))) (Kd.S_base ho0) hb); have n1_ := xA.mk (Kd.V_elder' (by (with_reducible repeat (first | apply Kd.V_alloc | apply Kd.V_drewN | apply Kd.V_drew)); exact (Kd.V_mono (Kd.V_far (p := ⟨gb211, 1, none⟩) (Kd.V_far (p := ⟨gb211, 0, none⟩) (Kd.V_mono HO206.out (fun k_ hk => (⟨hk, hk.2⟩ : _ ∧ k_ ≠ gb211))) (fun _ hk => hk.2) (.int .i64 t208)) (fun _ hk => hk.2) (.int .i64 t209)) (fun _ h_ => h_.1))) (Kd.S_base ho0) hb); have n2_ := xA.mk (Kd.S_lower (Kd.S_newM (M := fun k_ => (w.heap.size ≤ k_)) ho0 (xD (by repeat (first | (with_reducible first | exact HB.out | apply xR | apply xP | apply xN | refine xM ?_ GE203.out | refine xM ?_ GE211.out) | exact HB.out))) (fun k_ h_ => h_)) (xD (by repeat (first | (with_reducible first | exact HB.out | apply xR | apply xP | apply xN | refine xM ?_ GE203.out | refine xM ?_ GE211.out) | exact HB.out)))); have n3_ := xA.mk (xO (g := gb203) (o := .cells #[.slice none 0 0, .int .i64 0, .int .i64 0, .slice none 0 0, .slice none 0 0] 58 (0, 0)) (by (with_reducible repeat (first | refine xI ?_ _ | refine xH ?_ | refine xG ?_ _)); refine blk_far ?_ NB203_211.out _; (with_reducible repeat (first | refine xI ?_ _ | refine xH ?_ | refine xG ?_ _)); refine blk_far ?_ NB203_211.out _; (with_reducible repeat (first | refine xI ?_ _ | refine xH ?_ | refine xG ?_ _)); exact BK203.out) hb); have n4_ := xA.mk (xO (g := gb211) (o := .cells #[.int .i64 t208, .int .i64 t209] 37 (0, 0)) (by (with_reducible repeat (first | refine xI ?_ _ | refine xH ?_ | refine xG ?_ _)); refine xT (cs := #[.int .i64 t208, .int .i64 0]) ?_ 1 _ rfl; (with_reducible repeat (first | refine xI ?_ _ | refine xH ?_ | refine xG ?_ _)); refine xT (cs := #[.int .i64 0, .int .i64 0]) ?_ 0 _ rfl; (with_reducible repeat (first | refine xI ?_ _ | refine xH ?_ | refine xG ?_ _)); exact BK211.out) hb); have n5_ := xA.mk (xF (by repeat (first | (with_reducible first | exact HB.out | apply xR | apply xP | apply xN | refine xM ?_ GE203.out | refine xM ?_ GE211.out) | exact HB.out)) hb); clear HO0; clear HO206; clear BK203; clear BK211; clear HB; have HO0 := n0_; have HO206 := n1_; have HO214 := n2_; have BK203 := n3_; have BK211 := n4_; have HB := n5_; clear n0_ n1_ n2_ n3_ n4_ n5_; (try clear hb); (try clear hb2); (try clear hk); (try clear hi); (try clear ho0)))
 have n0_ := xA.mk (Kd.V_drew HO0.out)
 have n1_ := xA.mk (Kd.V_drew HO206.out)
 have n2_ := xA.mk (Kd.xV HO214.out)
 have n3_ := xA.mk (xH BK203.out)
 have n4_ := xA.mk (xH BK211.out)
 have n5_ := xA.mk (xN HB.out)
 clear HO0
 clear HO206
 clear HO214
 clear BK203
 clear BK211
 clear HB
 have HO0 := n0_
 have HO206 := n1_
 have HO214 := n2_
 have BK203 := n3_
 have BK211 := n4_
 have HB := n5_
 clear n0_ n1_ n2_ n3_ n4_ n5_
 obtain ⟨Ao17, co17, eo17⟩ := Kd.yD HO214.out
 (first | subst eo17 | (injection eo17 with f1_ f2_ f3_; have f4_ := f1_.symm; have f5_ := f3_.symm; clear f1_ f2_ f3_; subst f4_; subst f5_))
 refine start_ (n := 8) (S := fun w' => w'.cell? ⟨gb211, 0, none⟩ = some (.int .i64 t208) ∧ w'.cell? ⟨gb211, 1, none⟩ = some (.int .i64 t209)) (ds := []) (jl 8 0) jk rfl rfl ⟨(xB BK211.out 0).trans rfl, (xB BK211.out 1).trans rfl⟩ (fun hHeld => ?_); refine with_tabW line_looked.tab8 line_looked.bits8 (fun HT_ HW_ => ?_)
 generalize w15.drew = w16 at HO0 HO206 HO214 BK203 BK211 HB hHeld ⊢
 refine pure_ (i := 0) (N := some 28) (v := ?_) (a' := ?_) (jl 8 1) rfl rfl (xE HT_.out jk) (fun _ _ _ h => h) (Or.inl ⟨by rfl, ?_⟩) ?_ ?_
 rotate_left
 ·
  intro w'
  go_simp
  with_reducible rfl
 rotate_left
 ·
  simp only [Act.put, qy, qz, ja, i64_w, i32_w]
  rfl
 refine pure_ (i := 2) (N := some 30) (v := ?_) (a' := ?_) (jl 8 5) rfl rfl (xE HT_.out jk) (fun _ _ _ h => h) (Or.inl ⟨by rfl, ?_⟩) ?_ ?_
 rotate_left
 ·
  intro w'
  go_simp
  with_reducible rfl
 rotate_left
 ·
  simp only [Act.put, qy, qz, ja, i64_w, i32_w]
  rfl
 refine pure_ (i := 3) (N := some 31) (v := ?_) (a' := ?_) (jl 8 13) rfl rfl (xE HT_.out jk) (fun _ _ _ h => h) (Or.inl ⟨by rfl, ?_⟩) ?_ ?_
 rotate_left
 ·
  intro w'
  go_simp
  with_reducible rfl
 rotate_left
 ·
  simp only [Act.put, qy, qz, ja, i64_w, i32_w]
  rfl
 refine take_ (i := 1) (N := some 29) (v := ?_) (a' := ?_) (jl 8 15) rfl rfl (xY HT_.out HW_.out jk) (fun _ _ _ h => h) (Or.inl ⟨by rfl, ?_⟩) hHeld ?_ ?_
 rotate_left
 ·
  rintro w' ⟨s0, s1⟩
  go_simp
  with_reducible rfl
 rotate_left
 ·
  simp only [Act.put, qy, qz, ja, i64_w, i32_w]
  rfl
 refine one_ (i := 4) (N := some 32) (jl 8 31) rfl rfl (one_of HT_.out jk) (by decide) (fun K hK => ?_)
 refine goes_ Try.func66 jk rfl #[.slice Ao17 t212.length co17] (by rfl) rfl rfl qc ?_
 with_reducible refine (lgclosed.calls k _ _ t212 t215 _ ?side1 ?side2 A7.out).mono ?_
 (case side1 => repeat (first | exact (Kd.xJ HO214.out).2.2))
 (case side2 => exact (Kd.xJ HO214.out).2.1)
 rintro e w18 ⟨v216, rfl, ho0, hb⟩
 refine ⟨_, rfl, ?_⟩
 have n0_ := xA.mk (Kd.V_elder' (by exact HO0.out) (Kd.S_base ho0) hb)
 have n1_ := xA.mk (Kd.V_elder' (by exact HO206.out) (Kd.S_base ho0) hb)
 have n2_ := xA.mk (Kd.S_elder' (by exact HO214.out) (Kd.S_base ho0) hb)
 have n3_ := xA.mk (Kd.S_lower (Kd.S_new' (Kd.S_newM (M := fun k_ => (w.heap.size ≤ k_)) ho0 (xD (HB.out)) (fun k_ h_ => h_)) (Kd.S_lt (by exact HO214.out))) (xD (HB.out)))
 have n4_ := xA.mk (xO (g := gb203) (o := .cells #[.slice none 0 0, .int .i64 0, .int .i64 0, .slice none 0 0, .slice none 0 0] 58 (0, 0)) (by exact BK203.out) hb)
 have n5_ := xA.mk (xO (g := gb211) (o := .cells #[.int .i64 t208, .int .i64 t209] 37 (0, 0)) (by exact BK211.out) hb)
 have n6_ := xA.mk (xF (HB.out) hb)
 clear HO0
 clear HO206
 clear HO214
 clear BK203
 clear BK211
 clear HB
 have HO0 := n0_
 have HO206 := n1_
 have HO214 := n2_
 have HO217 := n3_
 have BK203 := n4_
 have BK211 := n5_
 have HB := n6_
 clear n0_ n1_ n2_ n3_ n4_ n5_ n6_
 (try clear hb)
 (try clear hb2)
 (try clear hk)
 (try clear hi)
 (try clear ho0)
 obtain ⟨Ao19, co19, eo19⟩ := Kd.yD HO217.out
 (first | subst eo19 | (injection eo19 with f1_ f2_ f3_; have f4_ := f1_.symm; have f5_ := f3_.symm; clear f1_ f2_ f3_; subst f4_; subst f5_))
 refine hK.out _ _ ⟨(xB BK211.out 0).trans rfl, (xB BK211.out 1).trans rfl⟩ (fun hHeld => ?_)
 clear hK K
 refine norm_ (a' := ?_) ?_ ?_
 rotate_left
 ·
  show Act.put _ (some 32) _ = _
  simp only [Act.put, qy, qz, ja, i64_w, i32_w]
  rfl
 refine pure_ (i := 5) (N := some 33) (v := ?_) (a' := ?_) (jl 8 63) rfl rfl (xE HT_.out jk) (fun _ _ _ h => h) (Or.inl ⟨by rfl, ?_⟩) ?_ ?_
 rotate_left
 ·
  intro w'
  go_simp
  with_reducible rfl
 rotate_left
 ·
  simp only [Act.put, qy, qz, ja, i64_w, i32_w]
  rfl
 refine one_ (i := 6) (N := none) (jl 8 127) rfl rfl (one_of HT_.out jk) (by decide) (fun K hK => ?_)
 have hs20 : w18.cell? ⟨gb203, 0, none⟩ = some (.slice none 0 0) := (xB BK203.out 0).trans rfl
 have hfs20 := xC BK203.out 0
 have hns20_1 := NB211_203.out
 have hms20_1 := NB203_211.out
 have hs21 : w18.cell? ⟨gb203, 1, none⟩ = some (.int .i64 0) := (xB BK203.out 1).trans rfl
 have hfs21 := xC BK203.out 1
 have hns21_1 := NB211_203.out
 have hms21_1 := NB203_211.out
 have hs22 : w18.cell? ⟨gb203, 2, none⟩ = some (.int .i64 0) := (xB BK203.out 2).trans rfl
 have hfs22 := xC BK203.out 2
 have hns22_1 := NB211_203.out
 have hms22_1 := NB203_211.out
 have hs23 : w18.cell? ⟨gb203, 3, none⟩ = some (.slice none 0 0) := (xB BK203.out 3).trans rfl
 have hfs23 := xC BK203.out 3
 have hns23_1 := NB211_203.out
 have hms23_1 := NB203_211.out
 have hs24 : w18.cell? ⟨gb203, 4, none⟩ = some (.slice none 0 0) := (xB BK203.out 4).trans rfl
 have hfs24 := xC BK203.out 4
 have hns24_1 := NB211_203.out
 have hms24_1 := NB203_211.out
 refine skip_ (w1 := ?_) (by rfl) rfl ?_ ?_
 rotate_left
 ·
  go_simp
  rfl
 refine hK.out _ _ ⟨((cell_far (p := ⟨gb203, _, none⟩) NB211_203.out _).trans (((cell_far (p := ⟨gb203, _, none⟩) NB211_203.out _).trans (((cell_far (p := ⟨gb203, _, none⟩) NB211_203.out _).trans (((cell_far (p := ⟨gb203, _, none⟩) NB211_203.out _).trans (((cell_far (p := ⟨gb203, _, none⟩) NB211_203.out _).trans (hHeld.1)))))))))), ((cell_far (p := ⟨gb203, _, none⟩) NB211_203.out _).trans (((cell_far (p := ⟨gb203, _, none⟩) NB211_203.out _).trans (((cell_far (p := ⟨gb203, _, none⟩) NB211_203.out _).trans (((cell_far (p := ⟨gb203, _, none⟩) NB211_203.out _).trans (((cell_far (p := ⟨gb203, _, none⟩) NB211_203.out _).trans (hHeld.2))))))))))⟩ (fun hHeld => ?_)
 clear hK K
 refine pure_ (i := 7) (N := some 3) (v := ?_) (a' := ?_) (jl 8 255) rfl rfl (xE HT_.out jk) (fun _ _ _ h => h) (Or.inl ⟨by rfl, ?_⟩) ?_ ?_
 rotate_left
 ·
  intro w'
  go_simp
  with_reducible rfl
 rotate_left
 ·
  simp only [Act.put, qy, qz, ja, i64_w, i32_w]
  rfl
 refine done_ (done_of HT_.out jk) ?_
 try go_wp2
 refine bodyPost_ret (results_ct rfl _ _ gb203 58 #[.slice Ao10 t204.length co10, .int .i64 t208, .int .i64 t209, .slice Ao17 t212.length co17, .slice Ao19 t215.length co19] (0, 0) _ rfl (by (with_reducible repeat (first | refine xI ?_ _ | refine xH ?_ | refine xG ?_ _)); refine xT (cs := #[.slice Ao10 t204.length co10, .int .i64 t208, .int .i64 t209, .slice Ao17 t212.length co17, .slice none 0 0]) ?_ 4 _ rfl; (with_reducible repeat (first | refine xI ?_ _ | refine xH ?_ | refine xG ?_ _)); refine xT (cs := #[.slice Ao10 t204.length co10, .int .i64 t208, .int .i64 t209, .slice none 0 0, .slice none 0 0]) ?_ 3 _ rfl; (with_reducible repeat (first | refine xI ?_ _ | refine xH ?_ | refine xG ?_ _)); refine xT (cs := #[.slice Ao10 t204.length co10, .int .i64 t208, .int .i64 0, .slice none 0 0, .slice none 0 0]) ?_ 2 _ rfl; (with_reducible repeat (first | refine xI ?_ _ | refine xH ?_ | refine xG ?_ _)); refine xT (cs := #[.slice Ao10 t204.length co10, .int .i64 0, .int .i64 0, .slice none 0 0, .slice none 0 0]) ?_ 1 _ rfl; (with_reducible repeat (first | refine xI ?_ _ | refine xH ?_ | refine xG ?_ _)); refine xT (cs := #[.slice none 0 0, .int .i64 0, .int .i64 0, .slice none 0 0, .slice none 0 0]) ?_ 0 _ rfl; (with_reducible repeat (first | refine xI ?_ _ | refine xH ?_ | refine xG ?_ _)); exact BK203.out) Try.underlying58 rfl jk) rfl ?_
 exact ⟨_, _, _, qg, by (with_reducible repeat (first | apply Kd.V_alloc | apply Kd.V_drewN | apply Kd.V_drew)); exact Kd.V_mono (Kd.V_far (p := ⟨gb203, 4, none⟩) (Kd.V_far (p := ⟨gb203, 3, none⟩) (Kd.V_far (p := ⟨gb203, 2, none⟩) (Kd.V_far (p := ⟨gb203, 1, none⟩) (Kd.V_far (p := ⟨gb203, 0, none⟩) (Kd.V_mono HO206.out (fun k_ hk => (⟨hk, hk.1.1.1.2⟩ : _ ∧ k_ ≠ gb203))) (fun _ hk => hk.2) (.slice Ao10 t204.length co10)) (fun _ hk => hk.2) (.int .i64 t208)) (fun _ hk => hk.2) (.int .i64 t209)) (fun _ hk => hk.2) (.slice Ao17 t212.length co17)) (fun _ hk => hk.2) (.slice Ao19 t215.length co19)) (fun _ hk => ⟨hk.1.1.1.1.1, ⟨hk.1.1.2, hk.1.2⟩⟩), by (with_reducible repeat (first | apply Kd.S_alloc | apply Kd.yA | apply Kd.xV)); exact Kd.xQ (Kd.S_far (p := ⟨gb203, 4, none⟩) (Kd.S_far (p := ⟨gb203, 3, none⟩) (Kd.S_far (p := ⟨gb203, 2, none⟩) (Kd.S_far (p := ⟨gb203, 1, none⟩) (Kd.S_far (p := ⟨gb203, 0, none⟩) (Kd.S_types HO214.out BK203.out (by decide)) (fun _ hk => hk.2) (.slice Ao10 t204.length co10)) (fun _ hk => hk.2) (.int .i64 t208)) (fun _ hk => hk.2) (.int .i64 t209)) (fun _ hk => hk.2) (.slice Ao17 t212.length co17)) (fun _ hk => hk.2) (.slice Ao19 t215.length co19)) (fun _ hk => ⟨hk.1.1.1, hk.1.2⟩), by (with_reducible repeat (first | apply Kd.S_alloc | apply Kd.yA | apply Kd.xV)); exact Kd.xQ (Kd.S_far (p := ⟨gb203, 4, none⟩) (Kd.S_far (p := ⟨gb203, 3, none⟩) (Kd.S_far (p := ⟨gb203, 2, none⟩) (Kd.S_far (p := ⟨gb203, 1, none⟩) (Kd.S_far (p := ⟨gb203, 0, none⟩) (Kd.S_types HO217.out BK203.out (by decide)) (fun _ hk => hk.2) (.slice Ao10 t204.length co10)) (fun _ hk => hk.2) (.int .i64 t208)) (fun _ hk => hk.2) (.int .i64 t209)) (fun _ hk => hk.2) (.slice Ao17 t212.length co17)) (fun _ hk => hk.2) (.slice Ao19 t215.length co19)) (fun _ hk => ⟨hk.1.1.1, hk.1.2⟩), by repeat (first | (with_reducible first | exact HB.out | apply xR | apply xP | apply xN | refine xM ?_ GE203.out | refine xM ?_ GE211.out) | exact HB.out)⟩
def lgreach.f (k : Nat) (l0 : List (List Int)) : Option ((List (List Int))) := (lgmapped_reach_1.f k l0 0).bind fun t218 => ((lgclosed.f k t218).bind fun t221 => (some t221))
theorem lgreach.mono : ∀ a0 k, LeO (lgreach.f k a0) (lgreach.f (k + 1) a0) := by
 intro a0 k
 unfold lgreach.f
 repeat' first
   | (with_reducible exact lgclosed.mono _ _)
   | (with_reducible exact lgmapped_reach_1.mono _ _ _)
   | (with_reducible exact LeO.refl _)
   | (with_reducible exact LeO.none _)
   | (with_reducible refine LeO.ite ?_ ?_)
   | (with_reducible refine LeO.bind ?_ (fun _ => ?_))
   | exact lgclosed.mono _ _
   | exact lgmapped_reach_1.mono _ _ _
theorem lgreach.calls (k : Nat) (A0 : Option Addr) (c0 : Nat) (l0 : List (List Int)) (r : List (List Int)) (w : World) (hr0 : Kd.C (Kd.slice 3 (Kd.int .i64)) w A0 l0.length l0) (hc0 : l0.length ≤ c0) (h : lgreach.f k l0 = some r) :
  Calls Try.prog 80 #[.slice A0 l0.length c0] w fun e w' => ∃ v0_ : Value, e = .returned (v0_) ∧ Kd.S (Kd.slice 3 (Kd.int .i64)) 26 w' w.heap.size (fun _ => True) v0_ r ∧ Below w.heap.size w w' := by
 have HR0 := xA.mk hr0
 have HC0 := xA.mk hc0
 clear hr0 hc0
 have HB := xA.mk (Below.refl w.heap.size w)
 have H : ((lgmapped_reach_1.f k l0 0).bind fun t218 => ((lgclosed.f k t218).bind fun t221 => (some t221))) = some r := h
 clear h
 replace H := qw H
 obtain ⟨t218, A20, H⟩ := H
 replace H : ((lgclosed.f k t218).bind fun t221 => (some t221)) = some r := H
 have A2 := xA.mk A20
 clear A20
 replace H := qw H
 obtain ⟨t221, A30, H⟩ := H
 replace H : (some t221) = some r := H
 have A3 := xA.mk A30
 clear A30
 obtain rfl := qx H
 go_enter Try.func80, Try.ntmps80
 go_wp2_with (first | ((with_reducible refine xK (f := 57) rfl ?_); refine xS (some 4) rfl rfl Try.func57 jk rfl #[.slice A0 l0.length c0, .func (.func 98) #[] #[]] rfl qc ?_; (with_reducible refine (lgmapped_reach_1.calls k _ _ l0 0 t218 _ ?side1 ?side2 A2.out).mono ?_); (case side1 => repeat (first | exact HR0.out)); (case side2 => exact HC0.out); rintro e w4 ⟨v219, rfl, ho0, hb⟩; refine ⟨_, rfl, ?_⟩; have HO220 := xA.mk (Kd.S_lower ho0 (xD (HB.out))); replace HB := xA.mk (xF (HB.out) hb); obtain ⟨Ao5, co5, eo5⟩ := Kd.yD HO220.out; subst eo5) | ((with_reducible refine xK (f := 66) rfl ?_); refine xS (some 5) rfl rfl Try.func66 jk rfl #[.slice Ao5 t218.length co5] rfl qc ?_; (with_reducible refine (lgclosed.calls k _ _ t218 t221 _ ?side1 ?side2 A3.out).mono ?_); (case side1 => repeat (first | exact (Kd.xJ HO220.out).2.2)); (case side2 => exact (Kd.xJ HO220.out).2.1); rintro e w6 ⟨v222, rfl, ho0, hb⟩; refine ⟨_, rfl, ?_⟩; have HO223 := xA.mk (Kd.S_lower (Kd.S_new' ho0 (Kd.S_lt (by exact HO220.out))) (xD (HB.out))); replace HO220 := xA.mk (Kd.S_elder' (by exact HO220.out) (Kd.S_base ho0) hb); replace HB := xA.mk (xF (HB.out) hb)))
 go_ret
 exact ⟨_, rfl, by exact Kd.xQ HO223.out (fun _ hk => trivial), HB.out⟩
def slices_Index_int_int.l0 : Nat → List Int → Int → Int → Int → Option (Int)
 | 0, _, _, _, _ => none
 | k + 1, x0, x1, x7, x8 => if x8 < x7 then (if 0 ≤ x8 then (if x8 < (x0.length : Int) then (if x1 = (rd x0 x8) then (some x8) else (slices_Index_int_int.l0 k x0 x1 x7 (wrap64 (x8 + 1)))) else (none)) else (none)) else (some (-1))
def slices_Index_int_int.f (k : Nat) (l0 : List Int) (a1 : Int) : Option (Int) := slices_Index_int_int.l0 k l0 a1 (l0.length : Int) 0
theorem slices_Index_int_int.mono_l : ∀ k, (∀ y0 y1 y2 y3, LeO (slices_Index_int_int.l0 k y0 y1 y2 y3) (slices_Index_int_int.l0 (k + 1) y0 y1 y2 y3))
 | 0 => fun _ _ _ _ r h => by simp [slices_Index_int_int.l0] at h
 | k + 1 => by
  have ih0 := slices_Index_int_int.mono_l k
  ·
   intro y0 y1 y2 y3
   unfold slices_Index_int_int.l0
   repeat' first
   | (with_reducible exact ih0 _ _ _ _)
   | (with_reducible exact LeO.refl _)
   | (with_reducible exact LeO.none _)
   | (with_reducible refine LeO.ite ?_ ?_)
   | (with_reducible refine LeO.bind ?_ (fun _ => ?_))
   | exact ih0 _ _ _ _
theorem slices_Index_int_int.mono : ∀ a0 a1 k, LeO (slices_Index_int_int.f k a0 a1) (slices_Index_int_int.f (k + 1) a0 a1) := by
 intro a0 a1 k
 have ih0 := slices_Index_int_int.mono_l k
 unfold slices_Index_int_int.f
 repeat' first
   | exact ih0 _ _ _ _
   | exact LeO.none _
   | refine LeO.ite ?_ ?_
   | refine LeO.bind ?_ (fun _ => ?_)
theorem slices_Index_int_int.calls (k : Nat) (A0 : Option Addr) (c0 : Nat) (l0 : List Int) (a1 : Int) (r : Int) (w : World) (hr0 : Kd.C (Kd.int .i64) w A0 l0.length l0) (hc0 : l0.length ≤ c0) (h : slices_Index_int_int.f k l0 a1 = some r) :
  Calls Try.prog 99 #[.slice A0 l0.length c0, .int .i64 a1] w fun e w' => e = .returned (.int .i64 r) ∧ Drawn0 w w' := by
 have HR0 := xA.mk hr0
 have HC0 := xA.mk hc0
 clear hr0 hc0
 have H : (slices_Index_int_int.l0 k l0 a1 (l0.length : Int) 0) = some r := h
 clear h
 have H' := xA.mk H
 clear H
 go_enter Try.func99, Try.ntmps99
 go_wp2
 go_loopg [8] k (fun kq v8 w' => ∃ (x8_1 : Int), v8 = .int .i64 x8_1 ∧ xA (slices_Index_int_int.l0 kq l0 a1 (l0.length : Int) x8_1 = some r) ∧ xA (kq ≤ k) ∧ Drawn0 w w')
 case atStart => exact ⟨(0), rfl, H', ⟨Nat.le_refl _⟩, qe⟩
 case round =>
  clear H'
  obtain ⟨x8_1, rfl, HA, HK1, ⟨m1, rfl⟩⟩ := hrel
  obtain _ | k1 := gk
  · exact absurd HA.out (by simp [slices_Index_int_int.l0])
  have H := HA.out
  clear HA
  simp only [slices_Index_int_int.l0] at H
  obtain ⟨c3b0, H⟩ | ⟨c3b0, H⟩ := itd_or H
  rotate_left
  ·
   obtain rfl := qx H
   go_wp2
   go_ret
   exact ⟨qf, qe⟩
  obtain ⟨c4b0, H⟩ := xL H
  obtain ⟨c5b0, H⟩ := xL H
  by_cases c6 : a1 = (rd l0 x8_1)
  ·
   rw [if_pos c6] at H
   have c6b0 : (a1 == (rd l0 x8_1)) = true := beq_iff_eq.mpr c6
   clear c6
   obtain rfl := qx H
   have p224 : 0 ≤ (x8_1 : Int) := qq
   have q224 : x8_1 < (l0.length : Int) := qq
   obtain ⟨ad224, e224, hx224_0⟩ := Kd.xU HR0.out x8_1 p224 q224
   cases e224
   replace p224 := eq_true p224
   replace q224 := eq_true q224
   go_wp2
   go_ret
   exact ⟨qf, qe⟩
  rw [if_neg c6] at H
  have c6b0 : (a1 == (rd l0 x8_1)) = false := jg c6
  have H' := xA.mk H
  clear H
  have p224 : 0 ≤ (x8_1 : Int) := qq
  have q224 : x8_1 < (l0.length : Int) := qq
  obtain ⟨ad224, e224, hx224_0⟩ := Kd.xU HR0.out x8_1 p224 q224
  cases e224
  replace p224 := eq_true p224
  replace q224 := eq_true q224
  go_wp2
  go_roundg k1
  case measure => have := HK1.out; omega
  case rel => exact ⟨(wrap64 (x8_1 + 1)), rfl, H', ⟨by have := HK1.out; omega⟩, qe⟩
def slices_Contains_int_int.f (k : Nat) (l0 : List Int) (a1 : Int) : Option (Bool) := (slices_Index_int_int.f k l0 a1).bind fun t225 => (some (decide (t225 ≥ 0)))
theorem slices_Contains_int_int.mono : ∀ a0 a1 k, LeO (slices_Contains_int_int.f k a0 a1) (slices_Contains_int_int.f (k + 1) a0 a1) := by
 intro a0 a1 k
 unfold slices_Contains_int_int.f
 repeat' first
   | (with_reducible exact slices_Index_int_int.mono _ _ _)
   | (with_reducible exact LeO.refl _)
   | (with_reducible exact LeO.none _)
   | (with_reducible refine LeO.ite ?_ ?_)
   | (with_reducible refine LeO.bind ?_ (fun _ => ?_))
   | exact slices_Index_int_int.mono _ _ _
theorem slices_Contains_int_int.calls (k : Nat) (A0 : Option Addr) (c0 : Nat) (l0 : List Int) (a1 : Int) (r : Bool) (w : World) (hr0 : Kd.C (Kd.int .i64) w A0 l0.length l0) (hc0 : l0.length ≤ c0) (h : slices_Contains_int_int.f k l0 a1 = some r) :
  Calls Try.prog 82 #[.slice A0 l0.length c0, .int .i64 a1] w fun e w' => e = .returned (.bool r) ∧ Drawn0 w w' := by
 have HR0 := xA.mk hr0
 have HC0 := xA.mk hc0
 clear hr0 hc0
 have H : ((slices_Index_int_int.f k l0 a1).bind fun t225 => (some (decide (t225 ≥ 0)))) = some r := h
 clear h
 replace H := qw H
 obtain ⟨t225, A30, H⟩ := H
 replace H : (some (decide (t225 ≥ 0))) = some r := H
 have A3 := xA.mk A30
 clear A30
 obtain rfl := qx H
 go_enter Try.func82, Try.ntmps82
 go_wp2_with (first | ((with_reducible refine xK (f := 99) rfl ?_); refine xS (some 7) rfl rfl Try.func99 jk rfl #[.slice A0 l0.length c0, .int .i64 a1] rfl qc ?_; (with_reducible refine (slices_Index_int_int.calls k _ _ l0 a1 t225 _ ?side1 ?side2 A3.out).mono ?_); (case side1 => repeat (first | exact HR0.out)); (case side2 => exact HC0.out); rintro e w' ⟨rfl, ⟨nd, rfl⟩⟩; refine ⟨_, rfl, ?_⟩))
 go_ret
 exact ⟨qf, qe⟩
def lgconnected_1.f (k : Nat) (l0 : List Int) : Option (Bool) := (line_never_int.f).bind fun t226 => ((slices_Contains_int_int.f k l0 t226).bind fun t227 => (some t227))
theorem lgconnected_1.mono : ∀ a0 k, LeO (lgconnected_1.f k a0) (lgconnected_1.f (k + 1) a0) := by
 intro a0 k
 unfold lgconnected_1.f
 repeat' first
   | (with_reducible exact slices_Contains_int_int.mono _ _ _)
   | (with_reducible exact LeO.refl _)
   | (with_reducible exact LeO.none _)
   | (with_reducible refine LeO.ite ?_ ?_)
   | (with_reducible refine LeO.bind ?_ (fun _ => ?_))
   | exact slices_Contains_int_int.mono _ _ _
theorem lgconnected_1.calls (k : Nat) (A0 : Option Addr) (c0 : Nat) (l0 : List Int) (r : Bool) (w : World) (hr0 : Kd.C (Kd.int .i64) w A0 l0.length l0) (hc0 : l0.length ≤ c0) (h : lgconnected_1.f k l0 = some r) :
  Calls Try.prog 81 #[.slice A0 l0.length c0] w fun e w' => e = .returned (.bool r) ∧ Drawn0 w w' := by
 have HR0 := xA.mk hr0
 have HC0 := xA.mk hc0
 clear hr0 hc0
 have H : ((line_never_int.f).bind fun t226 => ((slices_Contains_int_int.f k l0 t226).bind fun t227 => (some t227))) = some r := h
 clear h
 replace H := qw H
 obtain ⟨t226, A20, H⟩ := H
 replace H : ((slices_Contains_int_int.f k l0 t226).bind fun t227 => (some t227)) = some r := H
 have A2 := xA.mk A20
 clear A20
 replace H := qw H
 obtain ⟨t227, A30, H⟩ := H
 replace H : (some t227) = some r := H
 have A3 := xA.mk A30
 clear A30
 obtain rfl := qx H
 go_enter Try.func81, Try.ntmps81
 go_wp2_with (first | ((with_reducible refine xK (f := 83) rfl ?_); refine xS (some 4) rfl rfl Try.func83 jk rfl #[] rfl qc ?_; (with_reducible refine (line_never_int.calls  t226 _ A2.out).mono ?_); rintro e w' ⟨rfl, ⟨nd, rfl⟩⟩; refine ⟨_, rfl, ?_⟩) | ((with_reducible refine xK (f := 82) rfl ?_); refine xS (some 5) rfl rfl Try.func82 jk rfl #[.slice A0 l0.length c0, .int .i64 t226] rfl qc ?_; (with_reducible refine (slices_Contains_int_int.calls k _ _ l0 t226 t227 _ ?side1 ?side2 A3.out).mono ?_); (case side1 => repeat (first | exact HR0.out)); (case side2 => exact HC0.out); rintro e w' ⟨rfl, ⟨nd, rfl⟩⟩; refine ⟨_, rfl, ?_⟩))
 go_ret
 exact ⟨qf, qe⟩
def sifconnected_1.l0 : Nat → List (List Int) → Int → Int → Option (Int)
 | 0, _, _, _ => none
 | k + 1, x0, x7, x8 => if x8 < x7 then (if 0 ≤ x8 then (if x8 < (x0.length : Int) then ((lgconnected_1.f k (rd_L1 x0 x8)).bind fun t229 => (if t229 = true then (some x8) else (sifconnected_1.l0 k x0 x7 (wrap64 (x8 + 1))))) else (none)) else (none)) else (some (-1))
def sifconnected_1.f (k : Nat) (l0 : List (List Int)) (a1 : Int) : Option (Int) := sifconnected_1.l0 k l0 (l0.length : Int) 0
theorem sifconnected_1.mono_l : ∀ k, (∀ y0 y1 y2, LeO (sifconnected_1.l0 k y0 y1 y2) (sifconnected_1.l0 (k + 1) y0 y1 y2))
 | 0 => fun _ _ _ r h => by simp [sifconnected_1.l0] at h
 | k + 1 => by
  have ih0 := sifconnected_1.mono_l k
  ·
   intro y0 y1 y2
   unfold sifconnected_1.l0
   repeat' first
   | (with_reducible exact ih0 _ _ _)
   | (with_reducible exact lgconnected_1.mono _ _)
   | (with_reducible exact LeO.refl _)
   | (with_reducible exact LeO.none _)
   | (with_reducible refine LeO.ite ?_ ?_)
   | (with_reducible refine LeO.bind ?_ (fun _ => ?_))
   | exact ih0 _ _ _
   | exact lgconnected_1.mono _ _
theorem sifconnected_1.mono : ∀ a0 a1 k, LeO (sifconnected_1.f k a0 a1) (sifconnected_1.f (k + 1) a0 a1) := by
 intro a0 a1 k
 have ih0 := sifconnected_1.mono_l k
 unfold sifconnected_1.f
 repeat' first
   | exact ih0 _ _ _
   | exact lgconnected_1.mono _ _
   | exact LeO.none _
   | refine LeO.ite ?_ ?_
   | refine LeO.bind ?_ (fun _ => ?_)
theorem sifconnected_1.calls (k : Nat) (A0 : Option Addr) (c0 : Nat) (l0 : List (List Int)) (a1 : Int) (r : Int) (w : World) (hr0 : Kd.C (Kd.slice 3 (Kd.int .i64)) w A0 l0.length l0) (hc0 : l0.length ≤ c0) (h : sifconnected_1.f k l0 a1 = some r) :
  Calls Try.prog 97 #[.slice A0 l0.length c0, .func (.func 81) #[] #[]] w fun e w' => e = .returned (.int .i64 r) ∧ Drawn0 w w' := by
 have HR0 := xA.mk hr0
 have HC0 := xA.mk hc0
 clear hr0 hc0
 have H : (sifconnected_1.l0 k l0 (l0.length : Int) 0) = some r := h
 clear h
 have H' := xA.mk H
 clear H
 go_enter Try.func97, Try.ntmps97
 go_wp2
 go_loopg [8] k (fun kq v8 w' => ∃ (x8_1 : Int), v8 = .int .i64 x8_1 ∧ xA (sifconnected_1.l0 kq l0 (l0.length : Int) x8_1 = some r) ∧ xA (kq ≤ k) ∧ Drawn0 w w')
 case atStart => exact ⟨(0), rfl, H', ⟨Nat.le_refl _⟩, qe⟩
 case round =>
  clear H'
  obtain ⟨x8_1, rfl, HA, HK1, ⟨m1, rfl⟩⟩ := hrel
  obtain _ | k1 := gk
  · exact absurd HA.out (by simp [sifconnected_1.l0])
  have H := HA.out
  clear HA
  simp only [sifconnected_1.l0] at H
  obtain ⟨c3b0, H⟩ | ⟨c3b0, H⟩ := itd_or H
  rotate_left
  ·
   obtain rfl := qx H
   go_wp2
   go_ret
   exact ⟨qf, qe⟩
  obtain ⟨c4b0, H⟩ := xL H
  obtain ⟨c5b0, H⟩ := xL H
  replace H := qw H
  obtain ⟨t229, A60, H⟩ := H
  replace H : (if t229 = true then (some x8_1) else (sifconnected_1.l0 k1 l0 (l0.length : Int) (wrap64 (x8_1 + 1)))) = some r := H
  have A6 := xA.mk A60
  clear A60
  by_cases c7 : t229 = true
  ·
   subst c7
   have H1 : (some x8_1) = some r := by rw [if_pos rfl] at H; exact H
   clear H
   have H := H1
   clear H1
   obtain rfl := qx H
   have p228 : 0 ≤ (x8_1 : Int) := qq
   have q228 : x8_1 < (l0.length : Int) := qq
   obtain ⟨ad228, A228_0, c228_0, e228, hx228_0, hl228_0, hi228_0⟩ := at_L1 HR0.out x8_1 p228 q228
   cases e228
   have HR228_0 := xA.mk hi228_0
   have HC228_0 := xA.mk hl228_0
   clear hi228_0 hl228_0
   replace p228 := eq_true p228
   replace q228 := eq_true q228
   go_wp2_with (first | (go_at_call 81; (with_reducible refine (lgconnected_1.calls k1 _ _ (rd_L1 l0 x8_1) true _ ?side1 ?side2 A6.out).mono ?_); (case side1 => repeat (first | exact HR228_0.out)); (case side2 => exact HC228_0.out); rintro e w' ⟨rfl, ⟨nd, rfl⟩⟩))
   go_ret
   exact ⟨qf, qe⟩
  replace c7 := Bool.eq_false_iff.mpr c7
  subst c7
  have H1 : (sifconnected_1.l0 k1 l0 (l0.length : Int) (wrap64 (x8_1 + 1))) = some r := by rw [if_neg (show ¬ (false = true) by decide)] at H; exact H
  clear H
  have H := H1
  clear H1
  have H' := xA.mk H
  clear H
  have p228 : 0 ≤ (x8_1 : Int) := qq
  have q228 : x8_1 < (l0.length : Int) := qq
  obtain ⟨ad228, A228_0, c228_0, e228, hx228_0, hl228_0, hi228_0⟩ := at_L1 HR0.out x8_1 p228 q228
  cases e228
  have HR228_0 := xA.mk hi228_0
  have HC228_0 := xA.mk hl228_0
  clear hi228_0 hl228_0
  replace p228 := eq_true p228
  replace q228 := eq_true q228
  go_wp2_with (first | (go_at_call 81; (with_reducible refine (lgconnected_1.calls k1 _ _ (rd_L1 l0 x8_1) false _ ?side1 ?side2 A6.out).mono ?_); (case side1 => repeat (first | exact HR228_0.out)); (case side2 => exact HC228_0.out); rintro e w' ⟨rfl, ⟨nd, rfl⟩⟩))
  go_roundg k1
  case measure => have := HK1.out; omega
  case rel => exact ⟨(wrap64 (x8_1 + 1)), rfl, H', ⟨by have := HK1.out; omega⟩, qe⟩
def scfconnected_1.f (k : Nat) (l0 : List (List Int)) (a1 : Int) : Option (Bool) := (sifconnected_1.f k l0 a1).bind fun t230 => (some (decide (t230 ≥ 0)))
theorem scfconnected_1.mono : ∀ a0 a1 k, LeO (scfconnected_1.f k a0 a1) (scfconnected_1.f (k + 1) a0 a1) := by
 intro a0 a1 k
 unfold scfconnected_1.f
 repeat' first
   | (with_reducible exact sifconnected_1.mono _ _ _)
   | (with_reducible exact LeO.refl _)
   | (with_reducible exact LeO.none _)
   | (with_reducible refine LeO.ite ?_ ?_)
   | (with_reducible refine LeO.bind ?_ (fun _ => ?_))
   | exact sifconnected_1.mono _ _ _
theorem scfconnected_1.calls (k : Nat) (A0 : Option Addr) (c0 : Nat) (l0 : List (List Int)) (a1 : Int) (r : Bool) (w : World) (hr0 : Kd.C (Kd.slice 3 (Kd.int .i64)) w A0 l0.length l0) (hc0 : l0.length ≤ c0) (h : scfconnected_1.f k l0 a1 = some r) :
  Calls Try.prog 79 #[.slice A0 l0.length c0, .func (.func 81) #[] #[]] w fun e w' => e = .returned (.bool r) ∧ Drawn0 w w' := by
 have HR0 := xA.mk hr0
 have HC0 := xA.mk hc0
 clear hr0 hc0
 have H : ((sifconnected_1.f k l0 a1).bind fun t230 => (some (decide (t230 ≥ 0)))) = some r := h
 clear h
 replace H := qw H
 obtain ⟨t230, A30, H⟩ := H
 replace H : (some (decide (t230 ≥ 0))) = some r := H
 have A3 := xA.mk A30
 clear A30
 obtain rfl := qx H
 go_enter Try.func79, Try.ntmps79
 go_wp2_with (first | ((with_reducible refine xK (f := 97) rfl ?_); refine xS (some 7) rfl rfl Try.func97 jk rfl #[.slice A0 l0.length c0, .func (.func 81) #[] #[]] rfl qc ?_; (with_reducible refine (sifconnected_1.calls k _ _ l0 a1 t230 _ ?side1 ?side2 A3.out).mono ?_); (case side1 => repeat (first | exact HR0.out)); (case side2 => exact HC0.out); rintro e w' ⟨rfl, ⟨nd, rfl⟩⟩; refine ⟨_, rfl, ?_⟩))
 go_ret
 exact ⟨qf, qe⟩
def lgconnected.f (k : Nat) (l0 : List (List Int)) : Option (Bool) := (lgreach.f k l0).bind fun t231 => ((scfconnected_1.f k t231 0).bind fun t234 => (some (!t234)))
theorem lgconnected.mono : ∀ a0 k, LeO (lgconnected.f k a0) (lgconnected.f (k + 1) a0) := by
 intro a0 k
 unfold lgconnected.f
 repeat' first
   | (with_reducible exact lgreach.mono _ _)
   | (with_reducible exact scfconnected_1.mono _ _ _)
   | (with_reducible exact LeO.refl _)
   | (with_reducible exact LeO.none _)
   | (with_reducible refine LeO.ite ?_ ?_)
   | (with_reducible refine LeO.bind ?_ (fun _ => ?_))
   | exact lgreach.mono _ _
   | exact scfconnected_1.mono _ _ _
theorem lgconnected.calls (k : Nat) (A0 : Option Addr) (c0 : Nat) (l0 : List (List Int)) (r : Bool) (w : World) (hr0 : Kd.C (Kd.slice 3 (Kd.int .i64)) w A0 l0.length l0) (hc0 : l0.length ≤ c0) (h : lgconnected.f k l0 = some r) :
  Calls Try.prog 46 #[.slice A0 l0.length c0] w fun e w' => e = .returned (.bool r) ∧ Below w.heap.size w w' := by
 have HR0 := xA.mk hr0
 have HC0 := xA.mk hc0
 clear hr0 hc0
 have HB := xA.mk (Below.refl w.heap.size w)
 have H : ((lgreach.f k l0).bind fun t231 => ((scfconnected_1.f k t231 0).bind fun t234 => (some (!t234)))) = some r := h
 clear h
 replace H := qw H
 obtain ⟨t231, A20, H⟩ := H
 replace H : ((scfconnected_1.f k t231 0).bind fun t234 => (some (!t234))) = some r := H
 have A2 := xA.mk A20
 clear A20
 replace H := qw H
 obtain ⟨t234, A30, H⟩ := H
 replace H : (some (!t234)) = some r := H
 have A3 := xA.mk A30
 clear A30
 obtain rfl := qx H
 go_enter Try.func46, Try.ntmps46
 go_wp2_with (first | ((with_reducible refine xK (f := 80) rfl ?_); refine xS (some 4) rfl rfl Try.func80 jk rfl #[.slice A0 l0.length c0] rfl qc ?_; (with_reducible refine (lgreach.calls k _ _ l0 t231 _ ?side1 ?side2 A2.out).mono ?_); (case side1 => repeat (first | exact HR0.out)); (case side2 => exact HC0.out); rintro e w4 ⟨v232, rfl, ho0, hb⟩; refine ⟨_, rfl, ?_⟩; have HO233 := xA.mk (Kd.S_lower ho0 (xD (HB.out))); replace HB := xA.mk (xF (HB.out) hb); obtain ⟨Ao5, co5, eo5⟩ := Kd.yD HO233.out; subst eo5) | ((with_reducible refine xK (f := 79) rfl ?_); refine xS (some 5) rfl rfl Try.func79 jk rfl #[.slice Ao5 t231.length co5, .func (.func 81) #[] #[]] rfl qc ?_; (with_reducible refine (scfconnected_1.calls k _ _ t231 0 t234 _ ?side1 ?side2 A3.out).mono ?_); (case side1 => repeat (first | exact (Kd.xJ HO233.out).2.2)); (case side2 => exact (Kd.xJ HO233.out).2.1); rintro e w' ⟨rfl, ⟨nd, rfl⟩⟩; refine ⟨_, rfl, ?_⟩))
 go_ret
 exact ⟨rfl, qb⟩
def llcritical.f (l0_0 : List (List Int)) (a0_1 : Int) (a0_2 : Int) (l0_3 : List (List Int)) (l0_4 : List (List Int)) (a1 : Int) (a2 : Int) : Option (Bool) := if 0 ≤ a1 then (if a1 < (l0_3.length : Int) then (if 0 ≤ a2 then (if a2 < ((rd_L1 l0_3 a1).length : Int) then (if a2 < (l0_4.length : Int) then (if a1 < ((rd_L1 l0_4 a2).length : Int) then ((line_both_int.f (rd (rd_L1 l0_3 a1) a2) (rd (rd_L1 l0_4 a2) a1)).bind fun t240 => (some (t240 == 0))) else (none)) else (none)) else (none)) else (none)) else (none)) else (none)
theorem llcritical.calls (A0_0 : Option Addr) (c0_0 : Nat) (l0_0 : List (List Int)) (a0_1 : Int) (a0_2 : Int) (A0_3 : Option Addr) (c0_3 : Nat) (l0_3 : List (List Int)) (A0_4 : Option Addr) (c0_4 : Nat) (l0_4 : List (List Int)) (a1 : Int) (a2 : Int) (r : Bool) (w : World) (hr0_0 : Kd.C (Kd.slice 3 (Kd.int .i64)) w A0_0 l0_0.length l0_0) (hc0_0 : l0_0.length ≤ c0_0) (hr0_3 : Kd.C (Kd.slice 3 (Kd.int .i64)) w A0_3 l0_3.length l0_3) (hc0_3 : l0_3.length ≤ c0_3) (hr0_4 : Kd.C (Kd.slice 3 (Kd.int .i64)) w A0_4 l0_4.length l0_4) (hc0_4 : l0_4.length ≤ c0_4) (h : llcritical.f l0_0 a0_1 a0_2 l0_3 l0_4 a1 a2 = some r) :
  Calls Try.prog 84 #[.agg #[.slice A0_0 l0_0.length c0_0, .int .i64 a0_1, .int .i64 a0_2, .slice A0_3 l0_3.length c0_3, .slice A0_4 l0_4.length c0_4], .int .i64 a1, .int .i64 a2] w fun e w' => e = .returned (.bool r) ∧ Below w.heap.size w w' := by
 have hu58 := Try.underlying58
 have HR0_0 := xA.mk hr0_0
 have HC0_0 := xA.mk hc0_0
 clear hr0_0 hc0_0
 have HR0_3 := xA.mk hr0_3
 have HC0_3 := xA.mk hc0_3
 clear hr0_3 hc0_3
 have HR0_4 := xA.mk hr0_4
 have HC0_4 := xA.mk hc0_4
 clear hr0_4 hc0_4
 have HB := xA.mk (Below.refl w.heap.size w)
 have H : (if 0 ≤ a1 then (if a1 < (l0_3.length : Int) then (if 0 ≤ a2 then (if a2 < ((rd_L1 l0_3 a1).length : Int) then (if a2 < (l0_4.length : Int) then (if a1 < ((rd_L1 l0_4 a2).length : Int) then ((line_both_int.f (rd (rd_L1 l0_3 a1) a2) (rd (rd_L1 l0_4 a2) a1)).bind fun t240 => (some (t240 == 0))) else (none)) else (none)) else (none)) else (none)) else (none)) else (none)) = some r := h
 clear h
 obtain ⟨c4b0, H⟩ := xL H
 obtain ⟨c5b0, H⟩ := xL H
 obtain ⟨c6b0, H⟩ := xL H
 obtain ⟨c7b0, H⟩ := xL H
 obtain ⟨c8b0, H⟩ := xL H
 obtain ⟨c9b0, H⟩ := xL H
 replace H := qw H
 obtain ⟨t240, A100, H⟩ := H
 replace H : (some (t240 == 0)) = some r := H
 have A10 := xA.mk A100
 clear A100
 obtain rfl := qx H
 go_enter Try.func84, Try.ntmps84
 go_wp2_with (first | ((with_reducible refine xW (N := 3) rfl ?_); refine yF ?hg (N := 3) ?hd (cs := #[.slice A0_0 l0_0.length c0_0, .int .i64 a0_1, .int .i64 a0_2, .slice A0_3 l0_3.length c0_3, .slice A0_4 l0_4.length c0_4]) (t := 58) ?hr ?_; (case hd => rfl); (case hg => rfl); (case hr => go_simp); intro gb235 hg w11 hbox hb; have n0_ := xA.mk (xF qb hb); have n1_ := xA.mk (hbox); have n2_ := xA.mk ((by rw [hg]; exact (xD qb) : w.heap.size ≤ gb235)); have n3_ := xA.mk ((by rw [hg]; exact (xD qb) : w.heap.size ≤ gb235)); clear HB; have HB := n0_; have BK235 := n1_; have GW235 := n2_; have GE235 := n3_; clear n0_ n1_ n2_ n3_; clear hb hbox hg; have hcz12_0 : w11.cell? ⟨gb235, 0, none⟩ = some (.slice A0_0 l0_0.length c0_0) := (xB BK235.out 0).trans rfl; have hcz12_1 : w11.cell? ⟨gb235, 1, none⟩ = some (.int .i64 a0_1) := (xB BK235.out 1).trans rfl; have hcz12_2 : w11.cell? ⟨gb235, 2, none⟩ = some (.int .i64 a0_2) := (xB BK235.out 2).trans rfl; have hcz12_3 : w11.cell? ⟨gb235, 3, none⟩ = some (.slice A0_3 l0_3.length c0_3) := (xB BK235.out 3).trans rfl; have hcz12_4 : w11.cell? ⟨gb235, 4, none⟩ = some (.slice A0_4 l0_4.length c0_4) := (xB BK235.out 4).trans rfl; have hfz12_0 := xC BK235.out 0; have hfz12_1 := xC BK235.out 1; have hfz12_2 := xC BK235.out 2; have hfz12_3 := xC BK235.out 3; have hfz12_4 := xC BK235.out 4; have p236 : 0 ≤ (a1 : Int) := qq; have q236 : a1 < (l0_3.length : Int) := qq; obtain ⟨ad236, A236_0, c236_0, e236, hx236_0, hl236_0, hi236_0⟩ := at_L1 HR0_3.out a1 p236 q236; cases e236; replace hx236_0 := (HB.out.cell (World.block_lt_of_cell? w _ hx236_0)).trans hx236_0; have HR236_0 := xA.mk hi236_0; have HC236_0 := xA.mk hl236_0; clear hi236_0 hl236_0; replace p236 := eq_true p236; replace q236 := eq_true q236; have p237 : 0 ≤ (a2 : Int) := qq; have q237 : a2 < ((rd_L1 l0_3 a1).length : Int) := qq; obtain ⟨ad237, e237, hx237_0⟩ := Kd.xU HR236_0.out a2 p237 q237; cases e237; replace hx237_0 := (HB.out.cell (World.block_lt_of_cell? w _ hx237_0)).trans hx237_0; replace p237 := eq_true p237; replace q237 := eq_true q237; have p238 : 0 ≤ (a2 : Int) := qq; have q238 : a2 < (l0_4.length : Int) := qq; obtain ⟨ad238, A238_0, c238_0, e238, hx238_0, hl238_0, hi238_0⟩ := at_L1 HR0_4.out a2 p238 q238; cases e238; replace hx238_0 := (HB.out.cell (World.block_lt_of_cell? w _ hx238_0)).trans hx238_0; have HR238_0 := xA.mk hi238_0; have HC238_0 := xA.mk hl238_0; clear hi238_0 hl238_0; replace p238 := eq_true p238; replace q238 := eq_true q238; have p239 : 0 ≤ (a1 : Int) := qq; have q239 : a1 < ((rd_L1 l0_4 a2).length : Int) := qq; obtain ⟨ad239, e239, hx239_0⟩ := Kd.xU HR238_0.out a1 p239 q239; cases e239; replace hx239_0 := (HB.out.cell (World.block_lt_of_cell? w _ hx239_0)).trans hx239_0; replace p239 := eq_true p239; replace q239 := eq_true q239) | (go_at_call 91; (with_reducible refine (line_both_int.calls (rd (rd_L1 l0_3 a1) a2) (rd (rd_L1 l0_4 a2) a1) t240 _ A10.out).mono ?_); rintro e w' ⟨rfl, ⟨nd, rfl⟩⟩; (try exact qp)))
 repeat (go_quiet (first | ((with_reducible refine xW (N := 3) rfl ?_); refine yF ?hg (N := 3) ?hd (cs := #[.slice A0_0 l0_0.length c0_0, .int .i64 a0_1, .int .i64 a0_2, .slice A0_3 l0_3.length c0_3, .slice A0_4 l0_4.length c0_4]) (t := 58) ?hr ?_; (case hd => rfl); (case hg => rfl); (case hr => go_simp); intro gb235 hg w11 hbox hb; have n0_ := xA.mk (xF qb hb); have n1_ := xA.mk (hbox); have n2_ := xA.mk ((by rw [hg]; exact (xD qb) : w.heap.size ≤ gb235)); have n3_ := xA.mk ((by rw [hg]; exact (xD qb) : w.heap.size ≤ gb235)); clear HB; have HB := n0_; have BK235 := n1_; have GW235 := n2_; have GE235 := n3_; clear n0_ n1_ n2_ n3_; clear hb hbox hg; have hcz12_0 : w11.cell? ⟨gb235, 0, none⟩ = some (.slice A0_0 l0_0.length c0_0) := (xB BK235.out 0).trans rfl; have hcz12_1 : w11.cell? ⟨gb235, 1, none⟩ = some (.int .i64 a0_1) := (xB BK235.out 1).trans rfl; have hcz12_2 : w11.cell? ⟨gb235, 2, none⟩ = some (.int .i64 a0_2) := (xB BK235.out 2).trans rfl; have hcz12_3 : w11.cell? ⟨gb235, 3, none⟩ = some (.slice A0_3 l0_3.length c0_3) := (xB BK235.out 3).trans rfl; have hcz12_4 : w11.cell? ⟨gb235, 4, none⟩ = some (.slice A0_4 l0_4.length c0_4) := (xB BK235.out 4).trans rfl; have hfz12_0 := xC BK235.out 0; have hfz12_1 := xC BK235.out 1; have hfz12_2 := xC BK235.out 2; have hfz12_3 := xC BK235.out 3; have hfz12_4 := xC BK235.out 4; have p236 : 0 ≤ (a1 : Int) := qq; have q236 : a1 < (l0_3.length : Int) := qq; obtain ⟨ad236, A236_0, c236_0, e236, hx236_0, hl236_0, hi236_0⟩ := at_L1 HR0_3.out a1 p236 q236; cases e236; replace hx236_0 := (HB.out.cell (World.block_lt_of_cell? w _ hx236_0)).trans hx236_0; have HR236_0 := xA.mk hi236_0; have HC236_0 := xA.mk hl236_0; clear hi236_0 hl236_0; replace p236 := eq_true p236; replace q236 := eq_true q236; have p237 : 0 ≤ (a2 : Int) := qq; have q237 : a2 < ((rd_L1 l0_3 a1).length : Int) := qq; obtain ⟨ad237, e237, hx237_0⟩ := Kd.xU HR236_0.out a2 p237 q237; cases e237; replace hx237_0 := (HB.out.cell (World.block_lt_of_cell? w _ hx237_0)).trans hx237_0; replace p237 := eq_true p237; replace q237 := eq_true q237; have p238 : 0 ≤ (a2 : Int) := qq; have q238 : a2 < (l0_4.length : Int) := qq; obtain ⟨ad238, A238_0, c238_0, e238, hx238_0, hl238_0, hi238_0⟩ := at_L1 HR0_4.out a2 p238 q238; cases e238; replace hx238_0 := (HB.out.cell (World.block_lt_of_cell? w _ hx238_0)).trans hx238_0; have HR238_0 := xA.mk hi238_0; have HC238_0 := xA.mk hl238_0; clear hi238_0 hl238_0; replace p238 := eq_true p238; replace q238 := eq_true q238; have p239 : 0 ≤ (a1 : Int) := qq; have q239 : a1 < ((rd_L1 l0_4 a2).length : Int) := qq; obtain ⟨ad239, e239, hx239_0⟩ := Kd.xU HR238_0.out a1 p239 q239; cases e239; replace hx239_0 := (HB.out.cell (World.block_lt_of_cell? w _ hx239_0)).trans hx239_0; replace p239 := eq_true p239; replace q239 := eq_true q239) | (go_at_call 91; (with_reducible refine (line_both_int.calls (rd (rd_L1 l0_3 a1) a2) (rd (rd_L1 l0_4 a2) a1) t240 _ A10.out).mono ?_); rintro e w' ⟨rfl, ⟨nd, rfl⟩⟩; (try exact qp))); try go_wp2_with (first | ((with_reducible refine xW (N := 3) rfl ?_); refine yF ?hg (N := 3) ?hd (cs := #[.slice A0_0 l0_0.length c0_0, .int .i64 a0_1, .int .i64 a0_2, .slice A0_3 l0_3.length c0_3, .slice A0_4 l0_4.length c0_4]) (t := 58) ?hr ?_; (case hd => rfl); (case hg => rfl); (case hr => go_simp); intro gb235 hg w11 hbox hb; have n0_ := xA.mk (xF qb hb); have n1_ := xA.mk (hbox); have n2_ := xA.mk ((by rw [hg]; exact (xD qb) : w.heap.size ≤ gb235)); have n3_ := xA.mk ((by rw [hg]; exact (xD qb) : w.heap.size ≤ gb235)); clear HB; have HB := n0_; have BK235 := n1_; have GW235 := n2_; have GE235 := n3_; clear n0_ n1_ n2_ n3_; clear hb hbox hg; have hcz12_0 : w11.cell? ⟨gb235, 0, none⟩ = some (.slice A0_0 l0_0.length c0_0) := (xB BK235.out 0).trans rfl; have hcz12_1 : w11.cell? ⟨gb235, 1, none⟩ = some (.int .i64 a0_1) := (xB BK235.out 1).trans rfl; have hcz12_2 : w11.cell? ⟨gb235, 2, none⟩ = some (.int .i64 a0_2) := (xB BK235.out 2).trans rfl; have hcz12_3 : w11.cell? ⟨gb235, 3, none⟩ = some (.slice A0_3 l0_3.length c0_3) := (xB BK235.out 3).trans rfl; have hcz12_4 : w11.cell? ⟨gb235, 4, none⟩ = some (.slice A0_4 l0_4.length c0_4) := (xB BK235.out 4).trans rfl; have hfz12_0 := xC BK235.out 0; have hfz12_1 := xC BK235.out 1; have hfz12_2 := xC BK235.out 2; have hfz12_3 := xC BK235.out 3; have hfz12_4 := xC BK235.out 4; have p236 : 0 ≤ (a1 : Int) := qq; have q236 : a1 < (l0_3.length : Int) := qq; obtain ⟨ad236, A236_0, c236_0, e236, hx236_0, hl236_0, hi236_0⟩ := at_L1 HR0_3.out a1 p236 q236; cases e236; replace hx236_0 := (HB.out.cell (World.block_lt_of_cell? w _ hx236_0)).trans hx236_0; have HR236_0 := xA.mk hi236_0; have HC236_0 := xA.mk hl236_0; clear hi236_0 hl236_0; replace p236 := eq_true p236; replace q236 := eq_true q236; have p237 : 0 ≤ (a2 : Int) := qq; have q237 : a2 < ((rd_L1 l0_3 a1).length : Int) := qq; obtain ⟨ad237, e237, hx237_0⟩ := Kd.xU HR236_0.out a2 p237 q237; cases e237; replace hx237_0 := (HB.out.cell (World.block_lt_of_cell? w _ hx237_0)).trans hx237_0; replace p237 := eq_true p237; replace q237 := eq_true q237; have p238 : 0 ≤ (a2 : Int) := qq; have q238 : a2 < (l0_4.length : Int) := qq; obtain ⟨ad238, A238_0, c238_0, e238, hx238_0, hl238_0, hi238_0⟩ := at_L1 HR0_4.out a2 p238 q238; cases e238; replace hx238_0 := (HB.out.cell (World.block_lt_of_cell? w _ hx238_0)).trans hx238_0; have HR238_0 := xA.mk hi238_0; have HC238_0 := xA.mk hl238_0; clear hi238_0 hl238_0; replace p238 := eq_true p238; replace q238 := eq_true q238; have p239 : 0 ≤ (a1 : Int) := qq; have q239 : a1 < ((rd_L1 l0_4 a2).length : Int) := qq; obtain ⟨ad239, e239, hx239_0⟩ := Kd.xU HR238_0.out a1 p239 q239; cases e239; replace hx239_0 := (HB.out.cell (World.block_lt_of_cell? w _ hx239_0)).trans hx239_0; replace p239 := eq_true p239; replace q239 := eq_true q239) | (go_at_call 91; (with_reducible refine (line_both_int.calls (rd (rd_L1 l0_3 a1) a2) (rd (rd_L1 l0_4 a2) a1) t240 _ A10.out).mono ?_); rintro e w' ⟨rfl, ⟨nd, rfl⟩⟩; (try exact qp))))
 go_ret
 exact ⟨rfl, qo GE235.out⟩
mutual
def llvertices.l0 : Nat → List Int → Int → Int → List (List Int) → Int → Int → List (List Int) → List (List Int) → Option (List Int)
 | 0, _, _, _, _, _, _, _, _ => none
 | k + 1, x3, x8, x9, x242000, x242001, x242002, x242003, x242004 => if x9 < x8 then (llvertices.l1 k x3 x9 x8 x9 (x242003.length : Int) 0 x242000 x242001 x242002 x242003 x242004) else (some x3)
def llvertices.l1 : Nat → List Int → Int → Int → Int → Int → Int → List (List Int) → Int → Int → List (List Int) → List (List Int) → Option (List Int)
 | 0, _, _, _, _, _, _, _, _, _, _, _ => none
 | k + 1, x3, x4, x8, x9, x14, x15, x242000, x242001, x242002, x242003, x242004 => if x15 < x14 then ((llcritical.f x242000 x242001 x242002 x242003 x242004 x4 x15).bind fun t242 => (if t242 = true then (if x3.length < 17592186044416 then (llvertices.l0 k (x3 ++ [x4]) x8 (wrap64 (x9 + 1)) x242000 x242001 x242002 x242003 x242004) else (none)) else (llvertices.l1 k x3 x4 x8 x9 x14 (wrap64 (x15 + 1)) x242000 x242001 x242002 x242003 x242004))) else (llvertices.l0 k x3 x8 (wrap64 (x9 + 1)) x242000 x242001 x242002 x242003 x242004)
end
def llvertices.f (k : Nat) (l0_0 : List (List Int)) (a0_1 : Int) (a0_2 : Int) (l0_3 : List (List Int)) (l0_4 : List (List Int)) : Option (List Int) := llvertices.l0 k ([] : List Int) (l0_3.length : Int) 0 l0_0 a0_1 a0_2 l0_3 l0_4
theorem llvertices.mono_l : ∀ k, (∀ y0 y1 y2 y3 y4 y5 y6 y7, LeO (llvertices.l0 k y0 y1 y2 y3 y4 y5 y6 y7) (llvertices.l0 (k + 1) y0 y1 y2 y3 y4 y5 y6 y7)) ∧ (∀ y0 y1 y2 y3 y4 y5 y6 y7 y8 y9 y10, LeO (llvertices.l1 k y0 y1 y2 y3 y4 y5 y6 y7 y8 y9 y10) (llvertices.l1 (k + 1) y0 y1 y2 y3 y4 y5 y6 y7 y8 y9 y10))
 | 0 => ⟨fun _ _ _ _ _ _ _ _ r h => by simp [llvertices.l0] at h, fun _ _ _ _ _ _ _ _ _ _ _ r h => by simp [llvertices.l1] at h⟩
 | k + 1 => by
  obtain ⟨ih0, ih1⟩ := llvertices.mono_l k
  refine ⟨?_, ?_⟩
  ·
   intro y0 y1 y2 y3 y4 y5 y6 y7
   unfold llvertices.l0
   repeat' first
   | (with_reducible exact LeO.refl _)
   | (with_reducible exact LeO.none _)
   | (with_reducible refine LeO.ite ?_ ?_)
   | (with_reducible refine LeO.bind ?_ (fun _ => ?_))
   | exact ih0 _ _ _ _ _ _ _ _
   | exact ih1 _ _ _ _ _ _ _ _ _ _ _
  ·
   intro y0 y1 y2 y3 y4 y5 y6 y7 y8 y9 y10
   unfold llvertices.l1
   repeat' first
   | (with_reducible exact LeO.refl _)
   | (with_reducible exact LeO.none _)
   | (with_reducible refine LeO.ite ?_ ?_)
   | (with_reducible refine LeO.bind ?_ (fun _ => ?_))
   | exact ih0 _ _ _ _ _ _ _ _
   | exact ih1 _ _ _ _ _ _ _ _ _ _ _
theorem llvertices.mono : ∀ a0 a1 a2 a3 a4 k, LeO (llvertices.f k a0 a1 a2 a3 a4) (llvertices.f (k + 1) a0 a1 a2 a3 a4) := by
 intro a0 a1 a2 a3 a4 k
 obtain ⟨ih0, ih1⟩ := llvertices.mono_l k
 unfold llvertices.f
 repeat' first
   | (with_reducible exact LeO.refl _)
   | (with_reducible exact LeO.none _)
   | (with_reducible refine LeO.ite ?_ ?_)
   | (with_reducible refine LeO.bind ?_ (fun _ => ?_))
   | exact ih0 _ _ _ _ _ _ _ _
   | exact ih1 _ _ _ _ _ _ _ _ _ _ _
theorem llvertices.calls (k : Nat) (A0_0 : Option Addr) (c0_0 : Nat) (l0_0 : List (List Int)) (a0_1 : Int) (a0_2 : Int) (A0_3 : Option Addr) (c0_3 : Nat) (l0_3 : List (List Int)) (A0_4 : Option Addr) (c0_4 : Nat) (l0_4 : List (List Int)) (r : List Int) (w : World) (hr0_0 : Kd.C (Kd.slice 3 (Kd.int .i64)) w A0_0 l0_0.length l0_0) (hc0_0 : l0_0.length ≤ c0_0) (hr0_3 : Kd.C (Kd.slice 3 (Kd.int .i64)) w A0_3 l0_3.length l0_3) (hc0_3 : l0_3.length ≤ c0_3) (hr0_4 : Kd.C (Kd.slice 3 (Kd.int .i64)) w A0_4 l0_4.length l0_4) (hc0_4 : l0_4.length ≤ c0_4) (h : llvertices.f k l0_0 a0_1 a0_2 l0_3 l0_4 = some r) :
  Calls Try.prog 47 #[.agg #[.slice A0_0 l0_0.length c0_0, .int .i64 a0_1, .int .i64 a0_2, .slice A0_3 l0_3.length c0_3, .slice A0_4 l0_4.length c0_4]] w fun e w' => ∃ v0_ : Value, e = .returned (v0_) ∧ Kd.R (Kd.int .i64) 3 w' w.heap.size (fun _ => True) v0_ r ∧ Below w.heap.size w w' := by
 have hu58 := Try.underlying58
 have HR0_0 := xA.mk hr0_0
 have HC0_0 := xA.mk hc0_0
 clear hr0_0 hc0_0
 have HR0_3 := xA.mk hr0_3
 have HC0_3 := xA.mk hc0_3
 clear hr0_3 hc0_3
 have HR0_4 := xA.mk hr0_4
 have HC0_4 := xA.mk hc0_4
 clear hr0_4 hc0_4
 have HB := xA.mk (Below.refl w.heap.size w)
 have H : (llvertices.l0 k ([] : List Int) (l0_3.length : Int) 0 l0_0 a0_1 a0_2 l0_3 l0_4) = some r := h
 clear h
 have H' := xA.mk H
 clear H
 go_enter Try.func47, Try.ntmps47
 go_wp2_with (first | ((with_reducible refine xW (N := 1) rfl ?_); refine yF ?hg (N := 1) ?hd (cs := #[.slice A0_0 l0_0.length c0_0, .int .i64 a0_1, .int .i64 a0_2, .slice A0_3 l0_3.length c0_3, .slice A0_4 l0_4.length c0_4]) (t := 58) ?hr ?_; (case hd => rfl); (case hg => rfl); (case hr => go_simp); intro gb241 hg w2 hbox hb; have n0_ := xA.mk (xF (HB.out) hb); have n1_ := xA.mk (hbox); have n2_ := xA.mk ((by rw [hg]; exact (xD (HB.out)) : w.heap.size ≤ gb241)); have n3_ := xA.mk ((by rw [hg]; exact (xD (HB.out)) : w.heap.size ≤ gb241)); clear HB; have HB := n0_; have BK241 := n1_; have GW241 := n2_; have GE241 := n3_; clear n0_ n1_ n2_ n3_; clear hb hbox hg; have hcz3_0 : w2.cell? ⟨gb241, 0, none⟩ = some (.slice A0_0 l0_0.length c0_0) := (xB BK241.out 0).trans rfl; have hcz3_1 : w2.cell? ⟨gb241, 1, none⟩ = some (.int .i64 a0_1) := (xB BK241.out 1).trans rfl; have hcz3_2 : w2.cell? ⟨gb241, 2, none⟩ = some (.int .i64 a0_2) := (xB BK241.out 2).trans rfl; have hcz3_3 : w2.cell? ⟨gb241, 3, none⟩ = some (.slice A0_3 l0_3.length c0_3) := (xB BK241.out 3).trans rfl; have hcz3_4 : w2.cell? ⟨gb241, 4, none⟩ = some (.slice A0_4 l0_4.length c0_4) := (xB BK241.out 4).trans rfl; have hfz3_0 := xC BK241.out 0; have hfz3_1 := xC BK241.out 1; have hfz3_2 := xC BK241.out 2; have hfz3_3 := xC BK241.out 3; have hfz3_4 := xC BK241.out 4))
 go_loopg [3, 9] k (fun kq v3 v9 w' => ∃ (x3_1 : List Int) (x9_1 : Int), v9 = .int .i64 x9_1 ∧ xA (llvertices.l0 kq x3_1 (l0_3.length : Int) x9_1 l0_0 a0_1 a0_2 l0_3 l0_4 = some r) ∧ xA (kq ≤ k) ∧ xA (Kd.R (Kd.int .i64) 3 w' w.heap.size (fun _ => True) v3 x3_1) ∧ xA (w'.heap[gb241]? = some (.cells #[(.slice A0_0 l0_0.length c0_0), .int .i64 a0_1, .int .i64 a0_2, (.slice A0_3 l0_3.length c0_3), (.slice A0_4 l0_4.length c0_4)] 58 (0, 0))) ∧ xA (Below w.heap.size w w'))
 case atStart => exact ⟨(([] : List Int)), (0), rfl, H', ⟨Nat.le_refl _⟩, ⟨by first | exact Kd.R_nil _ _ _ _ _ | exact Kd.N_nil _ _ _ _ _ | exact Kd.V_nil _ _ _ _ _ | exact Kd.Q_nil _ _ _ _ _ | exact Kd.S_nil _ _ _ _ _⟩, ⟨by exact BK241.out⟩, ⟨HB.out⟩⟩
 case round =>
  clear H'
  obtain ⟨x3_1, x9_1, rfl, HA, HK1, HO_3, BK241, HB⟩ := hrel
  obtain _ | k1 := gk
  · exact absurd HA.out (by simp [llvertices.l0])
  have H := HA.out
  clear HA
  simp only [llvertices.l0] at H
  obtain ⟨c4b0, H⟩ | ⟨c4b0, H⟩ := itd_or H
  rotate_left
  ·
   obtain rfl := qx H
   go_wp2
   go_ret
   exact ⟨_, rfl, by exact HO_3.out, HB.out⟩
  have H' := xA.mk H
  clear H
  have hcz5_0 : wr.cell? ⟨gb241, 0, none⟩ = some (.slice A0_0 l0_0.length c0_0) := (xB BK241.out 0).trans rfl
  have hcz5_1 : wr.cell? ⟨gb241, 1, none⟩ = some (.int .i64 a0_1) := (xB BK241.out 1).trans rfl
  have hcz5_2 : wr.cell? ⟨gb241, 2, none⟩ = some (.int .i64 a0_2) := (xB BK241.out 2).trans rfl
  have hcz5_3 : wr.cell? ⟨gb241, 3, none⟩ = some (.slice A0_3 l0_3.length c0_3) := (xB BK241.out 3).trans rfl
  have hcz5_4 : wr.cell? ⟨gb241, 4, none⟩ = some (.slice A0_4 l0_4.length c0_4) := (xB BK241.out 4).trans rfl
  have hfz5_0 := xC BK241.out 0
  have hfz5_1 := xC BK241.out 1
  have hfz5_2 := xC BK241.out 2
  have hfz5_3 := xC BK241.out 3
  have hfz5_4 := xC BK241.out 4
  go_wp2
  go_loopg [3, 15] k1 (fun kq v3 v15 w' => ∃ (x3_2 : List Int) (x15_2 : Int), v15 = .int .i64 x15_2 ∧ xA (llvertices.l1 kq x3_2 x9_1 (l0_3.length : Int) x9_1 (l0_3.length : Int) x15_2 l0_0 a0_1 a0_2 l0_3 l0_4 = some r) ∧ xA (kq ≤ k1) ∧ xA (Kd.R (Kd.int .i64) 3 w' w.heap.size (fun _ => True) v3 x3_2) ∧ xA (w'.heap[gb241]? = some (.cells #[(.slice A0_0 l0_0.length c0_0), .int .i64 a0_1, .int .i64 a0_2, (.slice A0_3 l0_3.length c0_3), (.slice A0_4 l0_4.length c0_4)] 58 (0, 0))) ∧ xA (Below w.heap.size w w'))
  case atStart => exact ⟨(x3_1), (0), rfl, H', ⟨Nat.le_refl _⟩, ⟨by exact HO_3.out⟩, ⟨by exact BK241.out⟩, ⟨HB.out⟩⟩
  case round =>
   clear H'
   obtain ⟨x3_2, x15_2, rfl, HA, HK2, HO_3, BK241, HB⟩ := hrel
   obtain _ | k2 := gk
   · exact absurd HA.out (by simp [llvertices.l1])
   have H := HA.out
   clear HA
   simp only [llvertices.l1] at H
   obtain ⟨c6b0, H⟩ | ⟨c6b0, H⟩ := itd_or H
   rotate_left
   ·
    have H' := xA.mk H
    clear H
    go_wp2
    go_roundg k2
    case measure => have := HK1.out; have := HK2.out; omega
    case rel => exact ⟨(x3_2), (wrap64 (x9_1 + 1)), rfl, H', ⟨by have := HK1.out; have := HK2.out; omega⟩, ⟨by exact HO_3.out⟩, ⟨by exact BK241.out⟩, ⟨HB.out⟩⟩
   replace H := qw H
   obtain ⟨t242, A70, H⟩ := H
   replace H : (if t242 = true then (if x3_2.length < 17592186044416 then (llvertices.l0 k2 (x3_2 ++ [x9_1]) (l0_3.length : Int) (wrap64 (x9_1 + 1)) l0_0 a0_1 a0_2 l0_3 l0_4) else (none)) else (llvertices.l1 k2 x3_2 x9_1 (l0_3.length : Int) x9_1 (l0_3.length : Int) (wrap64 (x15_2 + 1)) l0_0 a0_1 a0_2 l0_3 l0_4)) = some r := H
   have A7 := xA.mk A70
   clear A70
   by_cases c8 : t242 = true
   rotate_left
   ·
    replace c8 := Bool.eq_false_iff.mpr c8
    subst c8
    have H1 : (llvertices.l1 k2 x3_2 x9_1 (l0_3.length : Int) x9_1 (l0_3.length : Int) (wrap64 (x15_2 + 1)) l0_0 a0_1 a0_2 l0_3 l0_4) = some r := by rw [if_neg (show ¬ (false = true) by decide)] at H; exact H
    clear H
    have H := H1
    clear H1
    have H' := xA.mk H
    clear H
    have hcz13_0 : wr.cell? ⟨gb241, 0, none⟩ = some (.slice A0_0 l0_0.length c0_0) := (xB BK241.out 0).trans rfl
    have hcz13_1 : wr.cell? ⟨gb241, 1, none⟩ = some (.int .i64 a0_1) := (xB BK241.out 1).trans rfl
    have hcz13_2 : wr.cell? ⟨gb241, 2, none⟩ = some (.int .i64 a0_2) := (xB BK241.out 2).trans rfl
    have hcz13_3 : wr.cell? ⟨gb241, 3, none⟩ = some (.slice A0_3 l0_3.length c0_3) := (xB BK241.out 3).trans rfl
    have hcz13_4 : wr.cell? ⟨gb241, 4, none⟩ = some (.slice A0_4 l0_4.length c0_4) := (xB BK241.out 4).trans rfl
    have hfz13_0 := xC BK241.out 0
    have hfz13_1 := xC BK241.out 1
    have hfz13_2 := xC BK241.out 2
    have hfz13_3 := xC BK241.out 3
    have hfz13_4 := xC BK241.out 4
    go_wp2_with (first | ((with_reducible refine xK (f := 84) rfl ?_); refine xS (some 21) rfl rfl Try.func84 jk rfl #[.agg #[.slice A0_0 l0_0.length c0_0, .int .i64 a0_1, .int .i64 a0_2, .slice A0_3 l0_3.length c0_3, .slice A0_4 l0_4.length c0_4], .int .i64 x9_1, .int .i64 x15_2] rfl qd ?_; (with_reducible refine (llcritical.calls _ _ l0_0 a0_1 a0_2 _ _ l0_3 _ _ l0_4 x9_1 x15_2 false _ ?side1 ?side2 ?side3 ?side4 ?side5 ?side6 A7.out).mono ?_); (case side1 => repeat (first | exact (Kd.yC HR0_0.out HB.out))); (case side2 => exact HC0_0.out); (case side3 => repeat (first | exact (Kd.yC HR0_3.out HB.out))); (case side4 => exact HC0_3.out); (case side5 => repeat (first | exact (Kd.yC HR0_4.out HB.out))); (case side6 => exact HC0_4.out); rintro e w14 ⟨rfl, hb⟩; refine ⟨_, rfl, ?_⟩; replace HO_3 := xA.mk (Kd.R_below (by exact HO_3.out) hb); replace BK241 := xA.mk (xO (g := gb241) (o := .cells #[.slice A0_0 l0_0.length c0_0, .int .i64 a0_1, .int .i64 a0_2, .slice A0_3 l0_3.length c0_3, .slice A0_4 l0_4.length c0_4] 58 (0, 0)) (by exact BK241.out) hb); replace HB := xA.mk (xF (HB.out) hb)))
    go_roundg k2
    case measure => have := HK1.out; have := HK2.out; omega
    case rel => exact ⟨(x3_2), (wrap64 (x15_2 + 1)), rfl, H', ⟨by have := HK1.out; have := HK2.out; omega⟩, ⟨by exact HO_3.out⟩, ⟨by exact BK241.out⟩, ⟨HB.out⟩⟩
   subst c8
   have H1 : (if x3_2.length < 17592186044416 then (llvertices.l0 k2 (x3_2 ++ [x9_1]) (l0_3.length : Int) (wrap64 (x9_1 + 1)) l0_0 a0_1 a0_2 l0_3 l0_4) else (none)) = some r := by rw [if_pos rfl] at H; exact H
   clear H
   have H := H1
   clear H1
   obtain ⟨c9, H⟩ := ite_some H
   have LMc9 := xA.mk c9
   clear c9
   obtain ⟨y243, hy243⟩ : ∃ y_ : List Int, y_ = (x3_2 ++ [x9_1]) := ⟨_, rfl⟩
   replace H : (llvertices.l0 k2 y243 (l0_3.length : Int) (wrap64 (x9_1 + 1)) l0_0 a0_1 a0_2 l0_3 l0_4) = some r := by rw [hy243]; exact H
   have Ny243 := xA.mk hy243
   clear hy243
   have H' := xA.mk H
   clear H
   have hcz10_0 : wr.cell? ⟨gb241, 0, none⟩ = some (.slice A0_0 l0_0.length c0_0) := (xB BK241.out 0).trans rfl
   have hcz10_1 : wr.cell? ⟨gb241, 1, none⟩ = some (.int .i64 a0_1) := (xB BK241.out 1).trans rfl
   have hcz10_2 : wr.cell? ⟨gb241, 2, none⟩ = some (.int .i64 a0_2) := (xB BK241.out 2).trans rfl
   have hcz10_3 : wr.cell? ⟨gb241, 3, none⟩ = some (.slice A0_3 l0_3.length c0_3) := (xB BK241.out 3).trans rfl
   have hcz10_4 : wr.cell? ⟨gb241, 4, none⟩ = some (.slice A0_4 l0_4.length c0_4) := (xB BK241.out 4).trans rfl
   have hfz10_0 := xC BK241.out 0
   have hfz10_1 := xC BK241.out 1
   have hfz10_2 := xC BK241.out 2
   have hfz10_3 := xC BK241.out 3
   have hfz10_4 := xC BK241.out 4
   go_wp2_with (first | ((with_reducible refine xK (f := 84) rfl ?_); refine xS (some 21) rfl rfl Try.func84 jk rfl #[.agg #[.slice A0_0 l0_0.length c0_0, .int .i64 a0_1, .int .i64 a0_2, .slice A0_3 l0_3.length c0_3, .slice A0_4 l0_4.length c0_4], .int .i64 x9_1, .int .i64 x15_2] rfl qd ?_; (with_reducible refine (llcritical.calls _ _ l0_0 a0_1 a0_2 _ _ l0_3 _ _ l0_4 x9_1 x15_2 true _ ?side1 ?side2 ?side3 ?side4 ?side5 ?side6 A7.out).mono ?_); (case side1 => repeat (first | exact (Kd.yC HR0_0.out HB.out))); (case side2 => exact HC0_0.out); (case side3 => repeat (first | exact (Kd.yC HR0_3.out HB.out))); (case side4 => exact HC0_3.out); (case side5 => repeat (first | exact (Kd.yC HR0_4.out HB.out))); (case side6 => exact HC0_4.out); rintro e w11 ⟨rfl, hb⟩; refine ⟨_, rfl, ?_⟩; have n0_ := xA.mk (Kd.R_below (by exact HO_3.out) hb); have n1_ := xA.mk (xO (g := gb241) (o := .cells #[.slice A0_0 l0_0.length c0_0, .int .i64 a0_1, .int .i64 a0_2, .slice A0_3 l0_3.length c0_3, .slice A0_4 l0_4.length c0_4] 58 (0, 0)) (by exact BK241.out) hb); have n2_ := xA.mk (xF (HB.out) hb); clear HO_3; clear BK241; clear HB; have HO_3 := n0_; have BK241 := n1_; have HB := n2_; clear n0_ n1_ n2_) | ((with_reducible refine gate_builtin (b := .append) (xs := #[.tmp 22, .tmp 24]) rfl ?_); at_builtin; refine Kd.R_append (Kd.int .i64) (w0 := w) w.heap.size rfl (.tmp 22) (.tmp 24) 26 3 (.int .i64 0) 8 rfl Try.underlying26 info3 rfl (by decide) jj u3 x3_2 x9_1 [.int .i64 x9_1] (fun _ => True) (fun _ => False) rfl rfl ?aP (fun _ hk => hk.elim) ?aF ?aO ?aB ?aS ?aL ?_; (case aP => exact rfl); (case aB => exact (HB.out)); (case aF => exact (fun _ _ => trivial)); (case aO => exact (by exact HO_3.out)); (case aS => exact (xD (HB.out))); (case aL => have := LMc9.out; omega); intro v244 w12 ho hb hg hat; rw [← Ny243.out] at ho; have n0_ := xA.mk (blk_grown (g := gb241) (o := .cells #[.slice A0_0 l0_0.length c0_0, .int .i64 a0_1, .int .i64 a0_2, .slice A0_3 l0_3.length c0_3, .slice A0_4 l0_4.length c0_4] 58 (0, 0)) (by exact BK241.out) hg (Kd.R_ne HO_3.out BK241.out (by decide))); have n1_ := xA.mk (hb); have n2_ := xA.mk (ho); clear BK241; clear HB; clear HO_3; have BK241 := n0_; have HB := n1_; have HO245 := n2_; clear n0_ n1_ n2_; clear ho hb hg hat))
   go_roundg k2
   case measure => have := HK1.out; have := HK2.out; omega
   case rel => exact ⟨(y243), (wrap64 (x9_1 + 1)), rfl, H', ⟨by have := HK1.out; have := HK2.out; omega⟩, ⟨by exact HO245.out⟩, ⟨by exact BK241.out⟩, ⟨HB.out⟩⟩
mutual
def slices_Min_int_int.j0 : Nat → List Int → Option (Int)
 | 0, _ => none
 | k + 1, x0 => if 0 < (x0.length : Int) then (slices_Min_int_int.l0 k x0 (rd x0 0) 1) else (none)
def slices_Min_int_int.l0 : Nat → List Int → Int → Int → Option (Int)
 | 0, _, _, _ => none
 | k + 1, x0, x3, x4 => if x4 < (x0.length : Int) then (if 0 ≤ x4 then (slices_Min_int_int.l0 k x0 (mn x3 (rd x0 x4)) (wrap64 (x4 + 1))) else (none)) else (some x3)
end
def slices_Min_int_int.f (k : Nat) (l0 : List Int) : Option (Int) := if (l0.length : Int) < 1 then (if 0 ≤ (-1) then (if (-1) < (l0.length : Int) then (slices_Min_int_int.j0 k l0) else (none)) else (none)) else (slices_Min_int_int.j0 k l0)
theorem slices_Min_int_int.mono_l : ∀ k, (∀ y0, LeO (slices_Min_int_int.j0 k y0) (slices_Min_int_int.j0 (k + 1) y0)) ∧ (∀ y0 y1 y2, LeO (slices_Min_int_int.l0 k y0 y1 y2) (slices_Min_int_int.l0 (k + 1) y0 y1 y2))
 | 0 => ⟨fun _ r h => by simp [slices_Min_int_int.j0] at h, fun _ _ _ r h => by simp [slices_Min_int_int.l0] at h⟩
 | k + 1 => by
  obtain ⟨ih0, ih1⟩ := slices_Min_int_int.mono_l k
  refine ⟨?_, ?_⟩
  ·
   intro y0
   unfold slices_Min_int_int.j0
   repeat' first
   | (with_reducible exact LeO.refl _)
   | (with_reducible exact LeO.none _)
   | (with_reducible refine LeO.ite ?_ ?_)
   | (with_reducible refine LeO.bind ?_ (fun _ => ?_))
   | exact ih0 _
   | exact ih1 _ _ _
  ·
   intro y0 y1 y2
   unfold slices_Min_int_int.l0
   repeat' first
   | (with_reducible exact LeO.refl _)
   | (with_reducible exact LeO.none _)
   | (with_reducible refine LeO.ite ?_ ?_)
   | (with_reducible refine LeO.bind ?_ (fun _ => ?_))
   | exact ih0 _
   | exact ih1 _ _ _
theorem slices_Min_int_int.mono : ∀ a0 k, LeO (slices_Min_int_int.f k a0) (slices_Min_int_int.f (k + 1) a0) := by
 intro a0 k
 obtain ⟨ih0, ih1⟩ := slices_Min_int_int.mono_l k
 unfold slices_Min_int_int.f
 repeat' first
   | (with_reducible exact LeO.refl _)
   | (with_reducible exact LeO.none _)
   | (with_reducible refine LeO.ite ?_ ?_)
   | (with_reducible refine LeO.bind ?_ (fun _ => ?_))
   | exact ih0 _
   | exact ih1 _ _ _
theorem slices_Min_int_int.calls (k : Nat) (A0 : Option Addr) (c0 : Nat) (l0 : List Int) (r : Int) (w : World) (hr0 : Kd.C (Kd.int .i64) w A0 l0.length l0) (hc0 : l0.length ≤ c0) (h : slices_Min_int_int.f k l0 = some r) :
  Calls Try.prog 48 #[.slice A0 l0.length c0] w fun e w' => e = .returned (.int .i64 r) ∧ Below w.heap.size w w' := by
 have HR0 := xA.mk hr0
 have HC0 := xA.mk hc0
 clear hr0 hc0
 have HB := xA.mk (Below.refl w.heap.size w)
 have H : (if (l0.length : Int) < 1 then (if 0 ≤ (-1) then (if (-1) < (l0.length : Int) then (slices_Min_int_int.j0 k l0) else (none)) else (none)) else (slices_Min_int_int.j0 k l0)) = some r := h
 clear h
 have HC2 := xA.mk H
 clear H
 go_enter Try.func48, Try.ntmps48
 go_upto_if 7 with (fail)
 go_cut [] (fun wc => ∃ (kq : Nat), xA (slices_Min_int_int.j0 kq l0 = some r) ∧ xA (kq ≤ k) ∧ xA (Below w.heap.size w wc))
 case first =>
  have H := HC2.out
  clear HC2
  obtain ⟨c3b0, H⟩ | ⟨c3b0, H⟩ := itd_or H
  rotate_left
  ·
   (first | rw [c3b0] | skip)
   have H' := xA.mk H
   clear H
   go_wp2
   go_meet
   case rel => exact ⟨_, H', ⟨by first | omega | exact Nat.le_refl _⟩, ⟨HB.out⟩⟩
  (first | rw [c3b0] | skip)
  obtain ⟨c4b0, H⟩ := xL H
  obtain ⟨c5b0, H⟩ := xL H
  have H' := xA.mk H
  clear H
  have p246 : 0 ≤ ((-1) : Int) := qq
  exact absurd p246 (by decide)
 case rest =>
  clear HC2
  obtain ⟨kq, HA, HJ1, HB⟩ := hcut
  obtain _ | kj1 := kq
  · exact absurd HA.out (by simp [slices_Min_int_int.j0])
  have H := HA.out
  clear HA
  simp only [slices_Min_int_int.j0] at H
  obtain ⟨c6b0, H⟩ := xL H
  have H' := xA.mk H
  clear H
  have p247 : 0 ≤ (0 : Int) := jj
  have q247 : 0 < (l0.length : Int) := qq
  obtain ⟨ad247, e247, hx247_0⟩ := Kd.xU HR0.out 0 p247 q247
  cases e247
  have qi247 : (0 < l0.length) = True := eq_true jj
  (try rw [show ((0 : Int)).toNat = 0 from rfl] at hx247_0)
  (try rw [Addr.add_zero'] at hx247_0)
  replace hx247_0 := (HB.out.cell (World.block_lt_of_cell? w _ hx247_0)).trans hx247_0
  replace p247 := eq_true p247
  replace q247 := eq_true q247
  go_wp2
  go_loopg [3, 4] kj1 (fun kq v3 v4 w' => ∃ (x3_2 : Int) (x4_2 : Int), v3 = .int .i64 x3_2 ∧ v4 = .int .i64 x4_2 ∧ xA (slices_Min_int_int.l0 kq l0 x3_2 x4_2 = some r) ∧ xA (kq ≤ kj1) ∧ xA (Below w.heap.size w w'))
  case atStart => exact ⟨(rd l0 0), (1), rfl, rfl, H', ⟨Nat.le_refl _⟩, ⟨HB.out⟩⟩
  case round =>
   clear H'
   obtain ⟨x3_2, x4_2, rfl, rfl, HA, HK2, HB⟩ := hrel
   obtain _ | k2 := gk
   · exact absurd HA.out (by simp [slices_Min_int_int.l0])
   have H := HA.out
   clear HA
   simp only [slices_Min_int_int.l0] at H
   obtain ⟨c7b0, H⟩ | ⟨c7b0, H⟩ := itd_or H
   rotate_left
   ·
    obtain rfl := qx H
    go_wp2
    go_ret
    exact ⟨rfl, HB.out⟩
   obtain ⟨c8b0, H⟩ := xL H
   obtain ⟨ji9, hji9⟩ : ∃ j_ : Int, (mn x3_2 (rd l0 x4_2)) = j_ := ⟨_, rfl⟩
   replace H : (slices_Min_int_int.l0 k2 l0 ji9 (wrap64 (x4_2 + 1))) = some r := by first | (rw [hji9] at H; exact H) | (simp only [hji9] at H ⊢; exact H)
   have hji9_ : (if (rd l0 x4_2) < x3_2 then (rd l0 x4_2) else x3_2) = ji9 := hji9
   have H' := xA.mk H
   clear H
   have p248 : 0 ≤ (x4_2 : Int) := qq
   have q248 : x4_2 < (l0.length : Int) := qq
   obtain ⟨ad248, e248, hx248_0⟩ := Kd.xU HR0.out x4_2 p248 q248
   obtain rfl : ad247 = ad248 := (by injection e248)
   replace hx248_0 := (HB.out.cell (World.block_lt_of_cell? w _ hx248_0)).trans hx248_0
   replace p248 := eq_true p248
   replace q248 := eq_true q248
   go_wp2
   go_roundg k2
   case measure => have := HJ1.out; have := HK2.out; omega
   case rel => exact ⟨(ji9), (wrap64 (x4_2 + 1)), (by first | rfl | (simp; done) | (simp only [← hji9] <;> (first | rfl | simp)) | (simp [*]; done)), rfl, H', ⟨by have := HJ1.out; have := HK2.out; omega⟩, ⟨HB.out⟩⟩
end Go.Proofs.Ythjmfbmffchicaa.V
