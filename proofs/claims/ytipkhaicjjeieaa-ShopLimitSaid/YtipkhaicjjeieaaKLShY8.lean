/- Walks of the shop's functions: a region of the search's round (8). -/
import Derived.Test.YtipkhaicjjeieaaKLShY
namespace Go.Proofs.Ytipkhaicjjeieaa.V
set_option linter.unusedSimpArgs false
set_option linter.unusedVariables false
open Go.RowKit Go.Proofs.YtipkhaicjjeieaaW.PrintWords Go.Proofs.YtipkhaicjjeieaaW.PrintLast Go.Proofs.YtipkhaicjjeieaaW.PrintMore
attribute [local go_sem] max2_int min2_int max_two min_two
def gp8T : Bool × List (List Nat × List Nat) := (true, [([], []), ([0], [0]), ([1], [1]), ([2], [2]), ([], []), ([3, 4], [3, 4]), ([5], [5]), ([], []), ([], []), ([8], [8]), ([9], [9]), ([7], [7]), ([11], [11]), ([12, 10], [10, 12]), ([13], [13]), ([6, 14], [6, 14]), ([15, 0, 1, 2, 3, 4, 5, 6, 7, 8, 9, 10, 11, 12, 13, 14, 15], [15])])
def gp8B : List Nat := [0, 1, 3, 7, 0, 31, 63, 0, 0, 256, 768, 128, 2176, 8064, 16256, 32767, 65535]
theorem gp8tab : rtab .any (opsOf Try.f53 8) = gp8T := by kernel_rfl
theorem gp8bits : waitsOk gp8T.2 gp8B = true := by kernel_rfl
set_option maxHeartbeats 4000000 in
set_option maxRecDepth 100000 in
theorem go_r8 {Q : Exit → Act → World → Prop} (hp : QuietP Q) (a : Act) (W : World) (gs gj bx left nj j mc : Nat) (en u v : Int) (v8 v9 v12 v13 : Value) (T : Ta a gs left en nj j (.int .i64 (j : Int)) (.pointer (some ⟨bx, 0, none⟩)) v8 v9 v12 v13)
    (hji : (j : Int) < (nj : Int)) (hm : (mc : Int) < 4) (q1 : W.cell? ⟨gs, 2, none⟩ = some (.slice (some ⟨gj, 0, none⟩) nj nj)) (q2 : W.cell? ⟨gj, j, none⟩ = some (.int .i64 u)) (q3 : W.cell? ⟨bx, 0, none⟩ = some (.int .i64 (mc : Int))) (q4 : W.cell? ⟨gs, 3 + mc, none⟩ = some (.int .i64 v))
    (hQ : ∀ a', Ta a' gs left en nj j (.int .i64 (j : Int)) (.pointer (some ⟨bx, 0, none⟩)) (.int .i64 (mx u v)) v9 v12 v13 → Q .normal a' W.drew) : (cR Try.f53 8).wp Try.prog Q a W := by
  conv => arg 2; whnf
  obtain ⟨sz, df, e0, e1, e2, e68, e69, e6, e7, e8, e9, e12, e13⟩ := T
  refine start_ (n := 17) (S := fun w' => w'.cell? ⟨gs, 2, none⟩ = some (.slice (some ⟨gj, 0, none⟩) nj nj) ∧ w'.cell? ⟨gj, j, none⟩ = some (.int .i64 u) ∧ w'.cell? ⟨bx, 0, none⟩ = some (.int .i64 (mc : Int)) ∧ w'.cell? ⟨gs, 3 + mc, none⟩ = some (.int .i64 v)) (ds := []) #[false, false, false, false, false, false, false, false, false, false, false, false, false, false, false, false, false] (by kernel_rfl) rfl rfl ⟨q1, q2, q3, q4⟩ (fun hHeld => ?_)
  refine with_tabW gp8tab gp8bits (fun HT_ HW_ => ?_)
  refine pure_ (i := 0) (N := some 118) (v := ?_) (a' := ?_) (qd 17 1) rfl rfl (any_of HT_.out (by kernel_rfl)) (fun c a1 w1 h => hp c _ _ _ (by rfl) h) (Or.inl ⟨by rfl, ?_⟩) ?_ ?_
  rotate_left
  · intro w'
    go_simp
    with_reducible rfl
  rotate_left
  · simp only [Act.put, qa, qb, qc, i64_w, i32_w]
    rfl
  refine pure_ (i := 1) (N := some 119) (v := ?_) (a' := ?_) (qd 17 3) rfl rfl (any_of HT_.out (by kernel_rfl)) (fun c a1 w1 h => hp c _ _ _ (by rfl) h) (Or.inl ⟨by rfl, ?_⟩) ?_ ?_
  rotate_left
  · intro w'
    go_simp
    with_reducible rfl
  rotate_left
  · simp only [Act.put, qa, qb, qc, i64_w, i32_w]
    rfl
  refine pure_ (i := 2) (N := some 120) (v := ?_) (a' := ?_) (qd 17 7) rfl rfl (any_of HT_.out (by kernel_rfl)) (fun c a1 w1 h => hp c _ _ _ (by rfl) h) (Or.inl ⟨by rfl, ?_⟩) ?_ ?_
  rotate_left
  · intro w'
    go_simp
    with_reducible rfl
  rotate_left
  · simp only [Act.put, qa, qb, qc, i64_w, i32_w]
    rfl
  refine pure_ (i := 4) (N := some 122) (v := ?_) (a' := ?_) (qd 17 23) rfl rfl (any_of HT_.out (by kernel_rfl)) (fun c a1 w1 h => hp c _ _ _ (by rfl) h) (Or.inl ⟨by rfl, ?_⟩) ?_ ?_
  rotate_left
  · intro w'
    go_simp
    with_reducible rfl
  rotate_left
  · simp only [Act.put, qa, qb, qc, i64_w, i32_w]
    rfl
  refine pure_ (i := 7) (N := some 125) (v := ?_) (a' := ?_) (qd 17 151) rfl rfl (any_of HT_.out (by kernel_rfl)) (fun c a1 w1 h => hp c _ _ _ (by rfl) h) (Or.inl ⟨by rfl, ?_⟩) ?_ ?_
  rotate_left
  · intro w'
    go_simp
    with_reducible rfl
  rotate_left
  · simp only [Act.put, qa, qb, qc, i64_w, i32_w]
    rfl
  refine pure_ (i := 8) (N := some 126) (v := ?_) (a' := ?_) (qd 17 407) rfl rfl (any_of HT_.out (by kernel_rfl)) (fun c a1 w1 h => hp c _ _ _ (by rfl) h) (Or.inl ⟨by rfl, ?_⟩) ?_ ?_
  rotate_left
  · intro w'
    go_simp
    with_reducible rfl
  rotate_left
  · simp only [Act.put, qa, qb, qc, i64_w, i32_w]
    rfl
  refine pure_ (i := 9) (N := some 127) (v := ?_) (a' := ?_) (qd 17 919) rfl rfl (any_of HT_.out (by kernel_rfl)) (fun c a1 w1 h => hp c _ _ _ (by rfl) h) (Or.inl ⟨by rfl, ?_⟩) ?_ ?_
  rotate_left
  · intro w'
    go_simp
    with_reducible rfl
  rotate_left
  · simp only [Act.put, qa, qb, qc, i64_w, i32_w]
    rfl
  refine pure_ (i := 11) (N := some 129) (v := ?_) (a' := ?_) (qd 17 2967) rfl rfl (any_of HT_.out (by kernel_rfl)) (fun c a1 w1 h => hp c _ _ _ (by rfl) h) (Or.inl ⟨by rfl, ?_⟩) ?_ ?_
  rotate_left
  · intro w'
    go_simp
    with_reducible rfl
  rotate_left
  · simp only [Act.put, qa, qb, qc, i64_w, i32_w]
    rfl
  refine pure_ (i := 12) (N := some 130) (v := ?_) (a' := ?_) (qd 17 7063) rfl rfl (any_of HT_.out (by kernel_rfl)) (fun c a1 w1 h => hp c _ _ _ (by rfl) h) (Or.inl ⟨by rfl, ?_⟩) ?_ ?_
  rotate_left
  · intro w'
    go_simp
    with_reducible rfl
  rotate_left
  · simp only [Act.put, qa, qb, qc, i64_w, i32_w]
    rfl
  refine take_ (i := 3) (N := some 121) (v := ?_) (a' := ?_) (qd 17 7071) rfl rfl (take_ofW HT_.out HW_.out (by kernel_rfl)) (fun c a1 w1 h => hp c _ _ _ (by rfl) h) (Or.inl ⟨by rfl, ?_⟩) hHeld ?_ ?_
  rotate_left
  · rintro w' ⟨s0, s1, s2, s3⟩
    go_simp
    with_reducible rfl
  rotate_left
  · simp only [Act.put, qa, qb, qc, i64_w, i32_w]
    rfl
  refine pure_ (i := 5) (N := some 123) (v := ?_) (a' := ?_) (qd 17 7103) rfl rfl (any_of HT_.out (by kernel_rfl)) (fun c a1 w1 h => hp c _ _ _ (by rfl) h) (Or.inl ⟨by rfl, ?_⟩) ?_ ?_
  rotate_left
  · intro w'
    go_simp
    with_reducible rfl
  rotate_left
  · simp only [Act.put, qa, qb, qc, i64_w, i32_w]
    rfl
  refine take_ (i := 6) (N := some 124) (v := ?_) (a' := ?_) (qd 17 7167) rfl rfl (take_ofW HT_.out HW_.out (by kernel_rfl)) (fun c a1 w1 h => hp c _ _ _ (by rfl) h) (Or.inl ⟨by rfl, ?_⟩) hHeld ?_ ?_
  rotate_left
  · rintro w' ⟨s0, s1, s2, s3⟩
    go_simp
    with_reducible rfl
  rotate_left
  · simp only [Act.put, qa, qb, qc, i64_w, i32_w]
    rfl
  refine take_ (i := 10) (N := some 128) (v := ?_) (a' := ?_) (qd 17 8191) rfl rfl (take_ofW HT_.out HW_.out (by kernel_rfl)) (fun c a1 w1 h => hp c _ _ _ (by rfl) h) (Or.inl ⟨by rfl, ?_⟩) hHeld ?_ ?_
  rotate_left
  · rintro w' ⟨s0, s1, s2, s3⟩
    go_simp
    with_reducible rfl
  rotate_left
  · simp only [Act.put, qa, qb, qc, i64_w, i32_w]
    rfl
  refine pure_ (i := 13) (N := some 131) (v := ?_) (a' := ?_) (qd 17 16383) rfl rfl (any_of HT_.out (by kernel_rfl)) (fun c a1 w1 h => hp c _ _ _ (by rfl) h) (Or.inl ⟨by rfl, ?_⟩) ?_ ?_
  rotate_left
  · intro w'
    go_simp
    with_reducible rfl
  rotate_left
  · simp only [Act.put, qa, qb, qc, i64_w, i32_w]
    rfl
  refine take_ (i := 14) (N := some 132) (v := ?_) (a' := ?_) (qd 17 32767) rfl rfl (take_ofW HT_.out HW_.out (by kernel_rfl)) (fun c a1 w1 h => hp c _ _ _ (by rfl) h) (Or.inl ⟨by rfl, ?_⟩) hHeld ?_ ?_
  rotate_left
  · rintro w' ⟨s0, s1, s2, s3⟩
    go_simp
    with_reducible rfl
  rotate_left
  · simp only [Act.put, qa, qb, qc, i64_w, i32_w]
    rfl
  refine pure_ (i := 15) (N := some 133) (v := ?_) (a' := ?_) (qd 17 65535) rfl rfl (any_of HT_.out (by kernel_rfl)) (fun c a1 w1 h => hp c _ _ _ (by rfl) h) (Or.inl ⟨by rfl, ?_⟩) ?_ ?_
  rotate_left
  · intro w'
    go_simp
    with_reducible rfl
  rotate_left
  · simp only [Act.put, qa, qb, qc, i64_w, i32_w]
    rfl
  refine pure_ (i := 16) (N := some 8) (v := ?_) (a' := ?_) (qd 17 131071) rfl rfl (any_of HT_.out (by kernel_rfl)) (fun c a1 w1 h => hp c _ _ _ (by rfl) h) (Or.inl ⟨by rfl, ?_⟩) ?_ ?_
  rotate_left
  · intro w'
    go_simp
    with_reducible rfl
  rotate_left
  · simp only [Act.put, qa, qb, qc, i64_w, i32_w]
    rfl
  refine done_ (done_of HT_.out (by kernel_rfl)) ?_
  exact hQ _ ⟨by simp [sz], by simp [df], by simp [sz, e0], by simp [sz, e1], by simp [sz, e2], by simp [sz, e68], by simp [sz, e69], by simp [sz, e6], by simp [sz, e7], by simp [sz]; rfl, by simp [sz, e9], by simp [sz, e12], by simp [sz, e13]⟩
end Go.Proofs.Ytipkhaicjjeieaa.V
