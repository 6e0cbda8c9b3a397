/- Walks of the shop's functions: a region of the search's round (21). -/
import Derived.Test.YtipkhaicjjeieaaKLShY
namespace Go.Proofs.Ytipkhaicjjeieaa.V
set_option linter.unusedSimpArgs false
set_option linter.unusedVariables false
open Go.RowKit Go.Proofs.YtipkhaicjjeieaaW.PrintWords Go.Proofs.YtipkhaicjjeieaaW.PrintLast Go.Proofs.YtipkhaicjjeieaaW.PrintMore
attribute [local go_sem] max2_int min2_int max_two min_two
def gp21T : Bool × List (List Nat × List Nat) := (true, [([], []), ([0], [0]), ([1], [1]), ([2], [2]), ([], []), ([], []), ([], []), ([], []), ([3, 4, 0, 1, 2, 3, 4, 6], [3, 4]), ([8, 6, 0, 1, 2, 3, 4, 6], [6, 8]), ([5, 0, 1, 2, 3, 4, 5, 6, 7, 8, 9], [5]), ([10, 0, 1, 2, 3, 4, 5, 6, 7, 8, 9], [10]), ([11, 7, 9, 0, 1, 2, 3, 4, 5, 6, 7, 8, 9], [7, 11])])
def gp21B : List Nat := [0, 1, 3, 7, 0, 0, 0, 0, 95, 351, 1023, 2047, 4095]
theorem gp21tab : rtab .any (opsOf Try.f53 21) = gp21T := by kernel_rfl
theorem gp21bits : waitsOk gp21T.2 gp21B = true := by kernel_rfl
set_option maxHeartbeats 1000000 in
set_option maxRecDepth 100000 in
theorem go_r21 {Q : Exit → Act → World → Prop} (hp : QuietP Q) (a : Act) (W : World) (gs gj by_ left nj j : Nat) (en u f0 f1 f2 f3 y0 y1 y2 y3 x : Int) (v7 v8 v9 : Value) (hne : gs ≠ gj) (n1 : by_ ≠ gs) (n2 : by_ ≠ gj) (T : Ta a gs left en nj j (.int .i64 (j : Int)) v7 v8 v9 (.int .i64 u) (.pointer (some ⟨by_, 0, none⟩)))
    (hji : (j : Int) < (nj : Int)) (q0 : W.cell? ⟨gs, 2, none⟩ = some (.slice (some ⟨gj, 0, none⟩) nj nj)) (q1 : W.cell? ⟨by_, 0, none⟩ = some (.int .i64 f0)) (q2 : W.cell? ⟨by_, 1, none⟩ = some (.int .i64 f1)) (q3 : W.cell? ⟨by_, 2, none⟩ = some (.int .i64 f2)) (q4 : W.cell? ⟨by_, 3, none⟩ = some (.int .i64 f3))
    (c0 : W.cell? ⟨gj, j, none⟩ = some (.int .i64 x)) (z0 : W.frozen? ⟨gj, j, none⟩ = false)
    (c3 : W.cell? ⟨gs, 3, none⟩ = some (.int .i64 y0)) (c4 : W.cell? ⟨gs, 4, none⟩ = some (.int .i64 y1)) (c5 : W.cell? ⟨gs, 5, none⟩ = some (.int .i64 y2)) (c6 : W.cell? ⟨gs, 6, none⟩ = some (.int .i64 y3)) (z3 : W.frozen? ⟨gs, 3, none⟩ = false) (z4 : W.frozen? ⟨gs, 4, none⟩ = false) (z5 : W.frozen? ⟨gs, 5, none⟩ = false) (z6 : W.frozen? ⟨gs, 6, none⟩ = false)
    (hQ : ∀ a', Ta a' gs left en nj j (.int .i64 (j : Int)) v7 v8 v9 (.int .i64 u) (.pointer (some ⟨by_, 0, none⟩)) → Q .normal a' (((((W.drew.setCell ⟨gj, j, none⟩ (.int .i64 u)).setCell ⟨gs, 3, none⟩ (.int .i64 f0)).setCell ⟨gs, 4, none⟩ (.int .i64 f1)).setCell ⟨gs, 5, none⟩ (.int .i64 f2)).setCell ⟨gs, 6, none⟩ (.int .i64 f3))) : (cR Try.f53 21).wp Try.prog Q a W := by
  conv => arg 2; whnf
  obtain ⟨sz, df, e0, e1, e2, e68, e69, e6, e7, e8, e9, e12, e13⟩ := T
  have hne' : gj ≠ gs := fun e => hne e.symm
  have m1 := n1.symm
  have m2 := n2.symm
  have C := Aside0.mk (show W.drew.cell? ⟨gj, j, none⟩ = some (.int .i64 x) ∧ W.drew.frozen? ⟨gj, j, none⟩ = false ∧ W.drew.cell? ⟨gs, 3, none⟩ = some (.int .i64 y0) ∧ W.drew.cell? ⟨gs, 4, none⟩ = some (.int .i64 y1) ∧ W.drew.cell? ⟨gs, 5, none⟩ = some (.int .i64 y2) ∧ W.drew.cell? ⟨gs, 6, none⟩ = some (.int .i64 y3) ∧ W.drew.frozen? ⟨gs, 3, none⟩ = false ∧ W.drew.frozen? ⟨gs, 4, none⟩ = false ∧ W.drew.frozen? ⟨gs, 5, none⟩ = false ∧ W.drew.frozen? ⟨gs, 6, none⟩ = false from ⟨c0, z0, c3, c4, c5, c6, z3, z4, z5, z6⟩)
  refine start_ (n := 13) (S := fun w' => w'.cell? ⟨gs, 2, none⟩ = some (.slice (some ⟨gj, 0, none⟩) nj nj) ∧ w'.cell? ⟨by_, 0, none⟩ = some (.int .i64 f0) ∧ w'.cell? ⟨by_, 1, none⟩ = some (.int .i64 f1) ∧ w'.cell? ⟨by_, 2, none⟩ = some (.int .i64 f2) ∧ w'.cell? ⟨by_, 3, none⟩ = some (.int .i64 f3)) (ds := [12]) #[false, false, false, false, false, false, false, false, false, false, false, false, false] (by kernel_rfl) rfl rfl ⟨q0, q1, q2, q3, q4⟩ (fun hHeld => ?_)
  refine with_tabW gp21tab gp21bits (fun HT_ HW_ => ?_)
  clear q0 q1 q2 q3 q4 c0 z0 c3 c4 c5 c6 z3 z4 z5 z6
  generalize W.drew = wa at C hQ hHeld ⊢
  refine pure_ (i := 0) (N := some 247) (v := ?_) (a' := ?_) (qd 13 1) rfl rfl (any_of HT_.out (by kernel_rfl)) (fun c a1 w1 h => hp c _ _ _ (by rfl) h) (Or.inl ⟨by rfl, ?_⟩) ?_ ?_
  rotate_left
  · intro w'
    go_simp
    with_reducible rfl
  rotate_left
  · simp only [Act.put, qa, qb, qc, i64_w, i32_w]
    rfl
  refine pure_ (i := 1) (N := some 248) (v := ?_) (a' := ?_) (qd 13 3) rfl rfl (any_of HT_.out (by kernel_rfl)) (fun c a1 w1 h => hp c _ _ _ (by rfl) h) (Or.inl ⟨by rfl, ?_⟩) ?_ ?_
  rotate_left
  · intro w'
    go_simp
    with_reducible rfl
  rotate_left
  · simp only [Act.put, qa, qb, qc, i64_w, i32_w]
    rfl
  refine pure_ (i := 2) (N := some 249) (v := ?_) (a' := ?_) (qd 13 7) rfl rfl (any_of HT_.out (by kernel_rfl)) (fun c a1 w1 h => hp c _ _ _ (by rfl) h) (Or.inl ⟨by rfl, ?_⟩) ?_ ?_
  rotate_left
  · intro w'
    go_simp
    with_reducible rfl
  rotate_left
  · simp only [Act.put, qa, qb, qc, i64_w, i32_w]
    rfl
  refine pure_ (i := 4) (N := some 251) (v := ?_) (a' := ?_) (qd 13 23) rfl rfl (any_of HT_.out (by kernel_rfl)) (fun c a1 w1 h => hp c _ _ _ (by rfl) h) (Or.inl ⟨by rfl, ?_⟩) ?_ ?_
  rotate_left
  · intro w'
    go_simp
    with_reducible rfl
  rotate_left
  · simp only [Act.put, qa, qb, qc, i64_w, i32_w]
    rfl
  refine pure_ (i := 5) (N := some 252) (v := ?_) (a' := ?_) (qd 13 55) rfl rfl (any_of HT_.out (by kernel_rfl)) (fun c a1 w1 h => hp c _ _ _ (by rfl) h) (Or.inl ⟨by rfl, ?_⟩) ?_ ?_
  rotate_left
  · intro w'
    go_simp
    with_reducible rfl
  rotate_left
  · simp only [Act.put, qa, qb, qc, i64_w, i32_w]
    rfl
  refine pure_ (i := 6) (N := some 253) (v := ?_) (a' := ?_) (qd 13 119) rfl rfl (any_of HT_.out (by kernel_rfl)) (fun c a1 w1 h => hp c _ _ _ (by rfl) h) (Or.inl ⟨by rfl, ?_⟩) ?_ ?_
  rotate_left
  · intro w'
    go_simp
    with_reducible rfl
  rotate_left
  · simp only [Act.put, qa, qb, qc, i64_w, i32_w]
    rfl
  refine take_ (i := 3) (N := some 250) (v := ?_) (a' := ?_) (qd 13 127) rfl rfl (take_ofW HT_.out HW_.out (by kernel_rfl)) (fun c a1 w1 h => hp c _ _ _ (by rfl) h) (Or.inl ⟨by rfl, ?_⟩) hHeld ?_ ?_
  rotate_left
  · rintro w' ⟨s0, s1, s2, s3, s4⟩
    go_simp
    with_reducible rfl
  rotate_left
  · simp only [Act.put, qa, qb, qc, i64_w, i32_w]
    rfl
  refine pure_ (i := 8) (N := some 255) (v := ?_) (a' := ?_) (qd 13 383) rfl rfl (any_of HT_.out (by kernel_rfl)) (fun c a1 w1 h => hp c _ _ _ (by rfl) h) (Or.inl ⟨by rfl, ?_⟩) ?_ ?_
  rotate_left
  · intro w'
    go_simp
    with_reducible rfl
  rotate_left
  · simp only [Act.put, qa, qb, qc, i64_w, i32_w]
    rfl
  refine take_ (i := 7) (N := some 254) (v := ?_) (a' := ?_) (qd 13 511) rfl rfl (take_ofW HT_.out HW_.out (by kernel_rfl)) (fun c a1 w1 h => hp c _ _ _ (by rfl) h) (Or.inl ⟨by rfl, ?_⟩) hHeld ?_ ?_
  rotate_left
  · rintro w' ⟨s0, s1, s2, s3, s4⟩
    go_simp
    with_reducible rfl
  rotate_left
  · simp only [Act.put, qa, qb, qc, i64_w, i32_w]
    rfl
  refine one_ (i := 9) (N := none) (qd 13 1023) rfl rfl (one_of HT_.out (by kernel_rfl)) (by decide) (fun K hK => ?_)
  have c0 := C.out.1
  have z0 := C.out.2.1
  have c3 := C.out.2.2.1
  have c4 := C.out.2.2.2.1
  have c5 := C.out.2.2.2.2.1
  have c6 := C.out.2.2.2.2.2.1
  have z3 := C.out.2.2.2.2.2.2.1
  have z4 := C.out.2.2.2.2.2.2.2.1
  have z5 := C.out.2.2.2.2.2.2.2.2.1
  have z6 := C.out.2.2.2.2.2.2.2.2.2
  with_reducible refine skip_ (w1 := wa.setCell ⟨gj, j, none⟩ (.int .i64 u)) ?hw ?hN ?hr ?_
  (case hw => rfl)
  (case hN => rfl)
  (case hr => go_simp)
  have hS : (wa.setCell ⟨gj, j, none⟩ (.int .i64 u)).cell? ⟨gs, 2, none⟩ = some (.slice (some ⟨gj, 0, none⟩) nj nj) ∧ (wa.setCell ⟨gj, j, none⟩ (.int .i64 u)).cell? ⟨by_, 0, none⟩ = some (.int .i64 f0) ∧ (wa.setCell ⟨gj, j, none⟩ (.int .i64 u)).cell? ⟨by_, 1, none⟩ = some (.int .i64 f1) ∧ (wa.setCell ⟨gj, j, none⟩ (.int .i64 u)).cell? ⟨by_, 2, none⟩ = some (.int .i64 f2) ∧ (wa.setCell ⟨gj, j, none⟩ (.int .i64 u)).cell? ⟨by_, 3, none⟩ = some (.int .i64 f3) := by
    obtain ⟨a0, a1, a2, a3, a4⟩ := hHeld
    refine ⟨?_, ?_, ?_, ?_, ?_⟩ <;> go_simp
  refine hK.out _ _ hS (fun hHeld => ?_)
  clear hK K
  refine pure_ (i := 10) (N := some 256) (v := ?_) (a' := ?_) (qd 13 2047) rfl rfl (any_of HT_.out (by kernel_rfl)) (fun c a1 w1 h => hp c _ _ _ (by rfl) h) (Or.inl ⟨by rfl, ?_⟩) ?_ ?_
  rotate_left
  · intro w'
    go_simp
    with_reducible rfl
  rotate_left
  · simp only [Act.put, qa, qb, qc, i64_w, i32_w]
    rfl
  refine pure_ (i := 11) (N := some 257) (v := ?_) (a' := ?_) (qd 13 4095) rfl rfl (any_of HT_.out (by kernel_rfl)) (fun c a1 w1 h => hp c _ _ _ (by rfl) h) (Or.inl ⟨by rfl, ?_⟩) ?_ ?_
  rotate_left
  · intro w'
    go_simp
    with_reducible rfl
  rotate_left
  · simp only [Act.put, qa, qb, qc, i64_w, i32_w]
    rfl
  refine last_ (i := 12) (N := none) (qd 13 8191) rfl rfl (one_of HT_.out (by kernel_rfl)) (by decide) (fun K hK => ?_)
  with_reducible refine skip_ (w1 := (((((wa.setCell ⟨gj, j, none⟩ (.int .i64 u)).setCell ⟨gs, 3, none⟩ (.int .i64 f0)).setCell ⟨gs, 4, none⟩ (.int .i64 f1)).setCell ⟨gs, 5, none⟩ (.int .i64 f2)).setCell ⟨gs, 6, none⟩ (.int .i64 f3))) ?hw ?hN ?hr ?_
  (case hw => rfl)
  (case hN => rfl)
  (case hr => go_simp)
  refine hK.out _ _ ?_
  clear hK K
  refine done_ (done_of HT_.out (by kernel_rfl)) ?_
  refine hQ _ ?_
  (try simp only [Act.put])
  exact ⟨by simp [sz], by simp [df], by simp [sz, e0], by simp [sz, e1], by simp [sz, e2], by simp [sz, e68], by simp [sz, e69], by simp [sz, e6], by simp [sz, e7], by simp [sz, e8], by simp [sz, e9], by simp [sz, e12], by simp [sz, e13]⟩
end Go.Proofs.Ytipkhaicjjeieaa.V
