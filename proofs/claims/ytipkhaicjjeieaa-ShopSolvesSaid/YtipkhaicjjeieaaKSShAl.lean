/- Walks of the shop's functions: alive, the statements' awake part. -/
import Derived.Test.YtipkhaicjjeieaaKSShSo
import Derived.Test.YtipkhaicjjeieaaKSf0
namespace Go.Proofs.Ytipkhaicjjeieaa.V
set_option linter.unusedSimpArgs false
set_option linter.unusedVariables false
open Go.RowKit Go.Proofs.YtipkhaicjjeieaaW.PrintWords Go.Proofs.YtipkhaicjjeieaaW.PrintLast Go.Proofs.YtipkhaicjjeieaaW.PrintMore
theorem C_lit {α : Type} (d : Kd α) {W : World} {g : Nat} {e : TypeId} {cells : Array Value} {xs : List α} (hb : W.heap[g]? = some (.cells cells e (0, 0))) (hx : ∀ j p, xs[j]? = some p → ∃ c, d.K W p c ∧ ∀ i u, c[i]? = some u → cells[j * d.sz + i]? = some u) (hl : xs.length ≤ 1000) : d.C W (some ⟨g, 0, none⟩) xs.length xs :=
  ⟨rfl, by omega, fun _ => ⟨_, rfl, fun j p hp => by
    obtain ⟨c, hk, hc⟩ := hx j p hp
    refine ⟨c, d.K_len hk, hk, fun i u hu => ?_⟩
    rw [add_plain]
    exact (blk_cell hb _).trans (hc i u hu)⟩⟩
def J0 : List (List S40) := [[⟨0, 3⟩, ⟨1, 2⟩], [⟨1, 2⟩, ⟨0, 4⟩]]
theorem best_J0 : (bestF J0).best = some [0, 3, 0, 3] ∧ (bestF J0).least = 7 := by decide +kernel
theorem err_J0 : ofErr J0 = 0 := by decide +kernel
theorem check_J0 : checkF J0 6 [⟨2, 0, 0, [0, 3]⟩] = some (true, 0) := by decide +kernel
theorem same_J0 : tinplatelaw06_same.f 5 [0, 3, 0, 3] [0, 3, 0, 3] = some true := by decide +kernel
def wJ (w : World) : World := ((w.alloc (Obj.cells #[.int .i64 0, .int .i64 3, .int .i64 1, .int .i64 2] 40)).alloc (Obj.cells #[.int .i64 1, .int .i64 2, .int .i64 0, .int .i64 4] 40)).alloc (Obj.cells #[.slice (some ⟨w.heap.size, 0, none⟩) 2 2, .slice (some ⟨w.heap.size + 1, 0, none⟩) 2 2] 41)
theorem C_row40 {W : World} {g : Nat} {a b c d : Int} (hb : W.heap[g]? = some (.cells #[.int .i64 a, .int .i64 b, .int .i64 c, .int .i64 d] 40 (0, 0))) : k40.C W (some ⟨g, 0, none⟩) 2 [⟨a, b⟩, ⟨c, d⟩] :=
  C_lit k40 hb (fun j p hp => by
    match j, hp with
    | 0, hp =>
      cases hp
      refine ⟨_, k40_mk W _, fun i u hu => ?_⟩
      match i, hu with
      | 0, hu => exact hu
      | 1, hu => exact hu
    | 1, hp =>
      cases hp
      refine ⟨_, k40_mk W _, fun i u hu => ?_⟩
      match i, hu with
      | 0, hu => exact hu
      | 1, hu => exact hu) (by simp)
theorem wJ_C (w : World) : Kd.C (Kd.slice 40 k40) (wJ w) (some ⟨w.heap.size + 1 + 1, 0, none⟩) J0.length J0 := by
  have b0 : (wJ w).heap[w.heap.size]? = some (.cells #[.int .i64 0, .int .i64 3, .int .i64 1, .int .i64 2] 40 (0, 0)) := blk_alloc (blk_alloc (blk_new w _) _) _
  have b1 : (wJ w).heap[w.heap.size + 1]? = some (.cells #[.int .i64 1, .int .i64 2, .int .i64 0, .int .i64 4] 40 (0, 0)) := by
    have h := blk_new (w.alloc (Obj.cells #[.int .i64 0, .int .i64 3, .int .i64 1, .int .i64 2] 40)) (Obj.cells #[.int .i64 1, .int .i64 2, .int .i64 0, .int .i64 4] 40)
    rw [show (w.alloc (Obj.cells #[.int .i64 0, .int .i64 3, .int .i64 1, .int .i64 2] 40)).heap.size = w.heap.size + 1 by simp] at h
    exact blk_alloc h _
  have b2 : (wJ w).heap[w.heap.size + 1 + 1]? = some (.cells #[.slice (some ⟨w.heap.size, 0, none⟩) 2 2, .slice (some ⟨w.heap.size + 1, 0, none⟩) 2 2] 41 (0, 0)) := by
    have h := blk_new ((w.alloc (Obj.cells #[.int .i64 0, .int .i64 3, .int .i64 1, .int .i64 2] 40)).alloc (Obj.cells #[.int .i64 1, .int .i64 2, .int .i64 0, .int .i64 4] 40)) (Obj.cells #[.slice (some ⟨w.heap.size, 0, none⟩) 2 2, .slice (some ⟨w.heap.size + 1, 0, none⟩) 2 2] 41)
    rw [show ((w.alloc (Obj.cells #[.int .i64 0, .int .i64 3, .int .i64 1, .int .i64 2] 40)).alloc (Obj.cells #[.int .i64 1, .int .i64 2, .int .i64 0, .int .i64 4] 40)).heap.size = w.heap.size + 1 + 1 by simp] at h
    exact h
  refine C_lit (Kd.slice 40 k40) b2 (fun j p hp => ?_) (by decide)
  match j, hp with
  | 0, hp =>
    cases hp
    refine ⟨_, ⟨some ⟨w.heap.size, 0, none⟩, 2, rfl, by decide, C_row40 b0⟩, fun i u hu => ?_⟩
    match i, hu with
    | 0, hu => exact hu
  | 1, hp =>
    cases hp
    refine ⟨_, ⟨some ⟨w.heap.size + 1, 0, none⟩, 2, rfl, by decide, C_row40 b1⟩, fun i u hu => ?_⟩
    match i, hu with
    | 0, hu => exact hu
theorem wJ_below (w : World) : Below w.heap.size w (wJ w) := below_alloc (below_alloc (below_alloc (Below.refl _ _) _) _) _
def wP (w : World) : World := (w.alloc (Obj.cells #[.int .i64 0, .int .i64 3] 3)).alloc (Obj.cells #[.int .i64 2, .int .i64 0, .int .i64 0, .slice (some ⟨w.heap.size, 0, none⟩) 2 2] 38)
theorem wP_C (w : World) : Kd.C k38 (wP w) (some ⟨w.heap.size + 1, 0, none⟩) [(⟨2, 0, 0, [0, 3]⟩ : S38)].length [⟨2, 0, 0, [0, 3]⟩] := by
  have b0 : (wP w).heap[w.heap.size]? = some (.cells (rowI [0, 3]) 3 (0, 0)) := blk_alloc (blk_new w _) _
  have b1 : (wP w).heap[w.heap.size + 1]? = some (.cells #[.int .i64 2, .int .i64 0, .int .i64 0, .slice (some ⟨w.heap.size, 0, none⟩) 2 2] 38 (0, 0)) := by
    have h := blk_new (w.alloc (Obj.cells #[.int .i64 0, .int .i64 3] 3)) (Obj.cells #[.int .i64 2, .int .i64 0, .int .i64 0, .slice (some ⟨w.heap.size, 0, none⟩) 2 2] 38)
    rw [show (w.alloc (Obj.cells #[.int .i64 0, .int .i64 3] 3)).heap.size = w.heap.size + 1 by simp] at h
    exact h
  refine C_lit k38 b1 (fun j p hp => ?_) (by decide)
  match j, hp with
  | 0, hp =>
    cases hp
    refine ⟨_, k38_mk (wP w) ⟨2, 0, 0, [0, 3]⟩ (A3 := some ⟨w.heap.size, 0, none⟩) (c3 := 2) (by decide) (C_row b0 (by decide)), fun i u hu => ?_⟩
    match i, hu with
    | 0, hu => exact hu
    | 1, hu => exact hu
    | 2, hu => exact hu
    | 3, hu => exact hu
theorem wP_below (w : World) : Below w.heap.size w (wP w) := below_alloc (below_alloc (Below.refl _ _) _) _
set_option maxHeartbeats 2000000 in
set_option maxRecDepth 100000 in
theorem law06_alive.calls (w : World) : Calls Try.prog 13 #[] w fun e w' => e = .returned (.bool true) ∧ Below w.heap.size w w' := by
  have HJ := Aside0.mk (wJ_C w)
  have HJB := Aside0.mk (wJ_below w)
  have HSO : Aside0 (Calls Try.prog 15 #[.slice (some ⟨w.heap.size + 1 + 1, 0, none⟩) 2 2] (wJ w) (SolvePost (wJ w) J0)) := ⟨shop_Solve.calls (some ⟨w.heap.size + 1 + 1, 0, none⟩) 2 J0 (wJ w) (wJ_C w) (by decide) (by decide)⟩
  unfold wJ at HSO HJ HJB
  go_enter Try.func13, Try.ntmps13
  go_wp2_with (first
    | ((with_reducible refine HSO.out.mono ?_); rintro e w1 ⟨hb1, _, h2⟩; obtain ⟨v, rfl, hv⟩ := h2 err_J0; rw [best_J0.1] at hv; rw [best_J0.2]; obtain ⟨A7, c7, e7, hc7, hC7⟩ := Kd.R_reads hv; (have e8 : v = .slice A7 4 c7 := e7); subst e8; have HC7 := Aside0.mk (And.intro hC7 hc7); have HB1 := Aside0.mk (below_step HJB.out hb1); have HJ1 := Aside0.mk (Kd.C_below HJ.out hb1); clear hb1 h2 hv e7 hC7 hc7; have HPC := Aside0.mk (wP_C w1); have HPB := Aside0.mk (wP_below w1); have HCK : Aside0 (Calls Try.prog 20 #[.slice (some ⟨w.heap.size + 1 + 1, 0, none⟩) 2 2, .int .i64 6, .slice (some ⟨w1.heap.size + 1, 0, none⟩) 1 1] (wP w1) (fun e w' => e = .returned (.tuple #[.bool true, .int .i64 0]) ∧ Below (wP w1).heap.size (wP w1) w')) := ⟨shop_Check.calls _ 2 J0 6 _ 1 [⟨2, 0, 0, [0, 3]⟩] (true, 0) (wP w1) (Kd.C_below HJ1.out (wP_below w1)) (by decide) (by decide) (wP_C w1) (by decide) (by decide) check_J0⟩; unfold wP at HPC HPB HCK)
    | ((with_reducible refine HCK.out.mono ?_); rintro e w2 ⟨rfl, hb2⟩; have HB2 := Aside0.mk (below_step HPB.out hb2); clear hb2; (have HSA : Aside0 (Calls Try.prog 17 #[.slice A7 4 c7, .slice (some ⟨w2.heap.size, 0, none⟩) 4 4] (w2.alloc (Obj.cells #[.int .i64 0, .int .i64 3, .int .i64 0, .int .i64 3] 3)) (fun e w' => e = .returned (.bool true) ∧ Drawn0 (w2.alloc (Obj.cells #[.int .i64 0, .int .i64 3, .int .i64 0, .int .i64 3] 3)) w')) := ⟨tinplatelaw06_same.calls 5 A7 c7 [0, 3, 0, 3] _ 4 [0, 3, 0, 3] true _ (Kd.C_below HC7.out.1 (below_step HB2.out (below_alloc (Below.refl _ _) _))) HC7.out.2 (C_row (l := [0, 3, 0, 3]) (blk_new w2 _) (by decide)) (by decide) same_J0⟩))
    | ((with_reducible refine HSA.out.mono ?_); rintro e w3 ⟨rfl, hb3⟩; have HB3 := Aside0.mk (below_step (below_alloc (Below.refl w2.heap.size w2) (Obj.cells #[.int .i64 0, .int .i64 3, .int .i64 0, .int .i64 3] 3)) hb3.below); clear hb3))
  go_ret
  exact ⟨rfl, below_step (below_step HB1.out HB2.out) HB3.out⟩
end Go.Proofs.Ytipkhaicjjeieaa.V
