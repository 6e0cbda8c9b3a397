/- Walks of the shop's functions: a region of the search's round (17). -/
import Derived.Test.YtipkhaicjjeieaaKLShY
namespace Go.Proofs.Ytipkhaicjjeieaa.V
set_option linter.unusedSimpArgs false
set_option linter.unusedVariables false
open Go.RowKit Go.Proofs.YtipkhaicjjeieaaW.PrintWords Go.Proofs.YtipkhaicjjeieaaW.PrintLast Go.Proofs.YtipkhaicjjeieaaW.PrintMore
attribute [local go_sem] max2_int min2_int max_two min_two
def gp17T : Bool × List (List Nat × List Nat) := (true, [([], []), ([0], [0]), ([1], [1]), ([2], [2]), ([], []), ([4], [4]), ([], []), ([6], [6]), ([7], [7]), ([8], [8]), ([], []), ([], []), ([], []), ([12], [12]), ([13], [13]), ([], []), ([], []), ([], []), ([17], [17]), ([18], [18]), ([16, 19], [16, 19]), ([], []), ([], []), ([22], [22]), ([23], [23]), ([21, 24], [21, 24]), ([3, 5, 0, 1, 2, 3, 4, 5, 9, 15], [3, 5]), ([26, 15, 0, 1, 2, 3, 4, 5, 9, 15], [15, 26]), ([9, 10, 0, 1, 2, 3, 4, 5, 6, 7, 8, 9, 10, 15, 16, 17, 18, 19, 20, 26, 27], [9, 10]), ([28, 20, 27, 0, 1, 2, 3, 4, 5, 6, 7, 8, 9, 10, 15, 16, 17, 18, 19, 20, 26, 27], [20, 28]), ([11], [11]), ([30], [30]), ([31, 14, 0, 1, 2, 3, 4, 5, 6, 7, 8, 9, 10, 11, 12, 13, 14, 15, 16, 17, 18, 19, 20, 21, 22, 23, 24, 25, 26, 27, 28, 29], [14, 31]), ([32, 25, 29, 0, 1, 2, 3, 4, 5, 6, 7, 8, 9, 10, 11, 12, 13, 14, 15, 16, 17, 18, 19, 20, 21, 22, 23, 24, 25, 26, 27, 28, 29], [25, 32])])
def gp17B : List Nat := [0, 1, 3, 7, 0, 16, 0, 64, 192, 448, 0, 0, 0, 4096, 12288, 0, 0, 0, 131072, 393216, 983040, 0, 0, 4194304, 12582912, 31457280, 33791, 67142655, 203393023, 471828479, 2048, 1073743872, 4294967295, 8589934591]
theorem gp17tab : rtab .any (opsOf Try.f53 17) = gp17T := by kernel_rfl
theorem gp17bits : waitsOk gp17T.2 gp17B = true := by kernel_rfl
set_option maxHeartbeats 1000000 in
set_option maxRecDepth 100000 in
theorem go_r17 {Q : Exit → Act → World → Prop} (hp : QuietP Q) (a : Act) (W : World) (gs gj gt bx left nj n j p mc : Nat) (en u tm x0 x1 x2 : Int) (v9 v12 v13 : Value) (T : Ta a gs left en nj j (.int .i64 (j : Int)) (.pointer (some ⟨bx, 0, none⟩)) (.int .i64 u) v9 v12 v13)
    (n1 : gs ≠ gj) (n2 : gs ≠ gt) (n3 : gj ≠ gt) (n4 : bx ≠ gs) (n5 : bx ≠ gj) (n6 : bx ≠ gt) (hji : (j : Int) < (nj : Int)) (hpn : (p : Int) < (n : Int)) (hmc : (mc : Int) < 4)
    (q0 : W.cell? ⟨gs, 7, none⟩ = some (.slice (some ⟨gt, 0, none⟩) n n))
    (q1 : W.cell? ⟨gs, 2, none⟩ = some (.slice (some ⟨gj, 0, none⟩) nj nj))
    (q2 : W.cell? ⟨bx, 0, none⟩ = some (.int .i64 (mc : Int)))
    (q3 : W.cell? ⟨bx, 1, none⟩ = some (.int .i64 tm))
    (q4 : W.cell? ⟨bx, 2, none⟩ = some (.int .i64 (p : Int)))
    (c0 : W.cell? ⟨gt, p, none⟩ = some (.int .i64 x0)) (z0 : W.frozen? ⟨gt, p, none⟩ = false) (c1 : W.cell? ⟨gj, j, none⟩ = some (.int .i64 x1)) (z1 : W.frozen? ⟨gj, j, none⟩ = false) (c2 : W.cell? ⟨gs, 3 + mc, none⟩ = some (.int .i64 x2)) (z2 : W.frozen? ⟨gs, 3 + mc, none⟩ = false)
    (hQ : ∀ a', Ta a' gs left en nj j (.int .i64 (j : Int)) (.pointer (some ⟨bx, 0, none⟩)) (.int .i64 u) v9 v12 v13 → Q .normal a' (((W.drew.setCell ⟨gt, p, none⟩ (.int .i64 u)).setCell ⟨gj, j, none⟩ (.int .i64 (wrap64 (u + tm)))).setCell ⟨gs, 3 + mc, none⟩ (.int .i64 (wrap64 (u + tm))))) : (cR Try.f53 17).wp Try.prog Q a W := by
  conv => arg 2; whnf
  obtain ⟨sz, df, e0, e1, e2, e68, e69, e6, e7, e8, e9, e12, e13⟩ := T
  have C := Aside0.mk (show W.drew.cell? ⟨gt, p, none⟩ = some (.int .i64 x0) ∧ W.drew.frozen? ⟨gt, p, none⟩ = false ∧ W.drew.cell? ⟨gj, j, none⟩ = some (.int .i64 x1) ∧ W.drew.frozen? ⟨gj, j, none⟩ = false ∧ W.drew.cell? ⟨gs, 3 + mc, none⟩ = some (.int .i64 x2) ∧ W.drew.frozen? ⟨gs, 3 + mc, none⟩ = false from ⟨c0, z0, c1, z1, c2, z2⟩)
  have m1 := n1.symm
  have m2 := n2.symm
  have m3 := n3.symm
  have m4 := n4.symm
  have m5 := n5.symm
  have m6 := n6.symm
  refine start_ (n := 34) (S := fun w' => w'.cell? ⟨gs, 7, none⟩ = some (.slice (some ⟨gt, 0, none⟩) n n) ∧ w'.cell? ⟨gs, 2, none⟩ = some (.slice (some ⟨gj, 0, none⟩) nj nj) ∧ w'.cell? ⟨bx, 0, none⟩ = some (.int .i64 (mc : Int)) ∧ w'.cell? ⟨bx, 1, none⟩ = some (.int .i64 tm) ∧ w'.cell? ⟨bx, 2, none⟩ = some (.int .i64 (p : Int))) (ds := [33]) #[false, false, false, false, false, false, false, false, false, false, false, false, false, false, false, false, false, false, false, false, false, false, false, false, false, false, false, false, false, false, false, false, false, false] (by kernel_rfl) rfl rfl ⟨q0, q1, q2, q3, q4⟩ (fun hHeld => ?_)
  refine with_tabW gp17tab gp17bits (fun HT_ HW_ => ?_)
  clear q0 q1 q2 q3 q4 c0 z0 c1 z1 c2 z2
  generalize W.drew = wa at C hQ hHeld ⊢
  refine pure_ (i := 0) (N := some 187) (v := ?_) (a' := ?_) (qd 34 1) rfl rfl (any_of HT_.out (by kernel_rfl)) (fun c a1 w1 h => hp c _ _ _ (by rfl) h) (Or.inl ⟨by rfl, ?_⟩) ?_ ?_
  rotate_left
  · intro w'
    go_simp
    with_reducible rfl
  rotate_left
  · simp only [Act.put, qa, qb, qc, i64_w, i32_w]
    rfl
  refine pure_ (i := 1) (N := some 188) (v := ?_) (a' := ?_) (qd 34 3) rfl rfl (any_of HT_.out (by kernel_rfl)) (fun c a1 w1 h => hp c _ _ _ (by rfl) h) (Or.inl ⟨by rfl, ?_⟩) ?_ ?_
  rotate_left
  · intro w'
    go_simp
    with_reducible rfl
  rotate_left
  · simp only [Act.put, qa, qb, qc, i64_w, i32_w]
    rfl
  refine pure_ (i := 2) (N := some 189) (v := ?_) (a' := ?_) (qd 34 7) rfl rfl (any_of HT_.out (by kernel_rfl)) (fun c a1 w1 h => hp c _ _ _ (by rfl) h) (Or.inl ⟨by rfl, ?_⟩) ?_ ?_
  rotate_left
  · intro w'
    go_simp
    with_reducible rfl
  rotate_left
  · simp only [Act.put, qa, qb, qc, i64_w, i32_w]
    rfl
  refine pure_ (i := 4) (N := some 191) (v := ?_) (a' := ?_) (qd 34 23) rfl rfl (any_of HT_.out (by kernel_rfl)) (fun c a1 w1 h => hp c _ _ _ (by rfl) h) (Or.inl ⟨by rfl, ?_⟩) ?_ ?_
  rotate_left
  · intro w'
    go_simp
    with_reducible rfl
  rotate_left
  · simp only [Act.put, qa, qb, qc, i64_w, i32_w]
    rfl
  refine pure_ (i := 6) (N := some 193) (v := ?_) (a' := ?_) (qd 34 87) rfl rfl (any_of HT_.out (by kernel_rfl)) (fun c a1 w1 h => hp c _ _ _ (by rfl) h) (Or.inl ⟨by rfl, ?_⟩) ?_ ?_
  rotate_left
  · intro w'
    go_simp
    with_reducible rfl
  rotate_left
  · simp only [Act.put, qa, qb, qc, i64_w, i32_w]
    rfl
  refine pure_ (i := 7) (N := some 194) (v := ?_) (a' := ?_) (qd 34 215) rfl rfl (any_of HT_.out (by kernel_rfl)) (fun c a1 w1 h => hp c _ _ _ (by rfl) h) (Or.inl ⟨by rfl, ?_⟩) ?_ ?_
  rotate_left
  · intro w'
    go_simp
    with_reducible rfl
  rotate_left
  · simp only [Act.put, qa, qb, qc, i64_w, i32_w]
    rfl
  refine pure_ (i := 8) (N := some 195) (v := ?_) (a' := ?_) (qd 34 471) rfl rfl (any_of HT_.out (by kernel_rfl)) (fun c a1 w1 h => hp c _ _ _ (by rfl) h) (Or.inl ⟨by rfl, ?_⟩) ?_ ?_
  rotate_left
  · intro w'
    go_simp
    with_reducible rfl
  rotate_left
  · simp only [Act.put, qa, qb, qc, i64_w, i32_w]
    rfl
  refine pure_ (i := 10) (N := some 197) (v := ?_) (a' := ?_) (qd 34 1495) rfl rfl (any_of HT_.out (by kernel_rfl)) (fun c a1 w1 h => hp c _ _ _ (by rfl) h) (Or.inl ⟨by rfl, ?_⟩) ?_ ?_
  rotate_left
  · intro w'
    go_simp
    with_reducible rfl
  rotate_left
  · simp only [Act.put, qa, qb, qc, i64_w, i32_w]
    rfl
  refine pure_ (i := 11) (N := some 198) (v := ?_) (a' := ?_) (qd 34 3543) rfl rfl (any_of HT_.out (by kernel_rfl)) (fun c a1 w1 h => hp c _ _ _ (by rfl) h) (Or.inl ⟨by rfl, ?_⟩) ?_ ?_
  rotate_left
  · intro w'
    go_simp
    with_reducible rfl
  rotate_left
  · simp only [Act.put, qa, qb, qc, i64_w, i32_w]
    rfl
  refine pure_ (i := 12) (N := some 199) (v := ?_) (a' := ?_) (qd 34 7639) rfl rfl (any_of HT_.out (by kernel_rfl)) (fun c a1 w1 h => hp c _ _ _ (by rfl) h) (Or.inl ⟨by rfl, ?_⟩) ?_ ?_
  rotate_left
  · intro w'
    go_simp
    with_reducible rfl
  rotate_left
  · simp only [Act.put, qa, qb, qc, i64_w, i32_w]
    rfl
  refine pure_ (i := 13) (N := some 200) (v := ?_) (a' := ?_) (qd 34 15831) rfl rfl (any_of HT_.out (by kernel_rfl)) (fun c a1 w1 h => hp c _ _ _ (by rfl) h) (Or.inl ⟨by rfl, ?_⟩) ?_ ?_
  rotate_left
  · intro w'
    go_simp
    with_reducible rfl
  rotate_left
  · simp only [Act.put, qa, qb, qc, i64_w, i32_w]
    rfl
  refine pure_ (i := 15) (N := some 202) (v := ?_) (a' := ?_) (qd 34 48599) rfl rfl (any_of HT_.out (by kernel_rfl)) (fun c a1 w1 h => hp c _ _ _ (by rfl) h) (Or.inl ⟨by rfl, ?_⟩) ?_ ?_
  rotate_left
  · intro w'
    go_simp
    with_reducible rfl
  rotate_left
  · simp only [Act.put, qa, qb, qc, i64_w, i32_w]
    rfl
  refine pure_ (i := 16) (N := some 203) (v := ?_) (a' := ?_) (qd 34 114135) rfl rfl (any_of HT_.out (by kernel_rfl)) (fun c a1 w1 h => hp c _ _ _ (by rfl) h) (Or.inl ⟨by rfl, ?_⟩) ?_ ?_
  rotate_left
  · intro w'
    go_simp
    with_reducible rfl
  rotate_left
  · simp only [Act.put, qa, qb, qc, i64_w, i32_w]
    rfl
  refine pure_ (i := 17) (N := some 204) (v := ?_) (a' := ?_) (qd 34 245207) rfl rfl (any_of HT_.out (by kernel_rfl)) (fun c a1 w1 h => hp c _ _ _ (by rfl) h) (Or.inl ⟨by rfl, ?_⟩) ?_ ?_
  rotate_left
  · intro w'
    go_simp
    with_reducible rfl
  rotate_left
  · simp only [Act.put, qa, qb, qc, i64_w, i32_w]
    rfl
  refine pure_ (i := 18) (N := some 205) (v := ?_) (a' := ?_) (qd 34 507351) rfl rfl (any_of HT_.out (by kernel_rfl)) (fun c a1 w1 h => hp c _ _ _ (by rfl) h) (Or.inl ⟨by rfl, ?_⟩) ?_ ?_
  rotate_left
  · intro w'
    go_simp
    with_reducible rfl
  rotate_left
  · simp only [Act.put, qa, qb, qc, i64_w, i32_w]
    rfl
  refine pure_ (i := 21) (N := some 208) (v := ?_) (a' := ?_) (qd 34 2604503) rfl rfl (any_of HT_.out (by kernel_rfl)) (fun c a1 w1 h => hp c _ _ _ (by rfl) h) (Or.inl ⟨by rfl, ?_⟩) ?_ ?_
  rotate_left
  · intro w'
    go_simp
    with_reducible rfl
  rotate_left
  · simp only [Act.put, qa, qb, qc, i64_w, i32_w]
    rfl
  refine pure_ (i := 22) (N := some 209) (v := ?_) (a' := ?_) (qd 34 6798807) rfl rfl (any_of HT_.out (by kernel_rfl)) (fun c a1 w1 h => hp c _ _ _ (by rfl) h) (Or.inl ⟨by rfl, ?_⟩) ?_ ?_
  rotate_left
  · intro w'
    go_simp
    with_reducible rfl
  rotate_left
  · simp only [Act.put, qa, qb, qc, i64_w, i32_w]
    rfl
  refine pure_ (i := 23) (N := some 210) (v := ?_) (a' := ?_) (qd 34 15187415) rfl rfl (any_of HT_.out (by kernel_rfl)) (fun c a1 w1 h => hp c _ _ _ (by rfl) h) (Or.inl ⟨by rfl, ?_⟩) ?_ ?_
  rotate_left
  · intro w'
    go_simp
    with_reducible rfl
  rotate_left
  · simp only [Act.put, qa, qb, qc, i64_w, i32_w]
    rfl
  refine pure_ (i := 30) (N := some 215) (v := ?_) (a' := ?_) (qd 34 1088929239) rfl rfl (any_of HT_.out (by kernel_rfl)) (fun c a1 w1 h => hp c _ _ _ (by rfl) h) (Or.inl ⟨by rfl, ?_⟩) ?_ ?_
  rotate_left
  · intro w'
    go_simp
    with_reducible rfl
  rotate_left
  · simp only [Act.put, qa, qb, qc, i64_w, i32_w]
    rfl
  refine pure_ (i := 31) (N := some 216) (v := ?_) (a' := ?_) (qd 34 3236412887) rfl rfl (any_of HT_.out (by kernel_rfl)) (fun c a1 w1 h => hp c _ _ _ (by rfl) h) (Or.inl ⟨by rfl, ?_⟩) ?_ ?_
  rotate_left
  · intro w'
    go_simp
    with_reducible rfl
  rotate_left
  · simp only [Act.put, qa, qb, qc, i64_w, i32_w]
    rfl
  refine take_ (i := 3) (N := some 190) (v := ?_) (a' := ?_) (qd 34 3236412895) rfl rfl (take_ofW HT_.out HW_.out (by kernel_rfl)) (fun c a1 w1 h => hp c _ _ _ (by rfl) h) (Or.inl ⟨by rfl, ?_⟩) hHeld ?_ ?_
  rotate_left
  · rintro w' ⟨s0, s1, s2, s3, s4⟩
    go_simp
    with_reducible rfl
  rotate_left
  · simp only [Act.put, qa, qb, qc, i64_w, i32_w]
    rfl
  refine take_ (i := 5) (N := some 192) (v := ?_) (a' := ?_) (qd 34 3236412927) rfl rfl (take_ofW HT_.out HW_.out (by kernel_rfl)) (fun c a1 w1 h => hp c _ _ _ (by rfl) h) (Or.inl ⟨by rfl, ?_⟩) hHeld ?_ ?_
  rotate_left
  · rintro w' ⟨s0, s1, s2, s3, s4⟩
    go_simp
    with_reducible rfl
  rotate_left
  · simp only [Act.put, qa, qb, qc, i64_w, i32_w]
    rfl
  refine take_ (i := 9) (N := some 196) (v := ?_) (a' := ?_) (qd 34 3236413439) rfl rfl (take_ofW HT_.out HW_.out (by kernel_rfl)) (fun c a1 w1 h => hp c _ _ _ (by rfl) h) (Or.inl ⟨by rfl, ?_⟩) hHeld ?_ ?_
  rotate_left
  · rintro w' ⟨s0, s1, s2, s3, s4⟩
    go_simp
    with_reducible rfl
  rotate_left
  · simp only [Act.put, qa, qb, qc, i64_w, i32_w]
    rfl
  refine pure_ (i := 26) (N := some 213) (v := ?_) (a' := ?_) (qd 34 3303522303) rfl rfl (any_of HT_.out (by kernel_rfl)) (fun c a1 w1 h => hp c _ _ _ (by rfl) h) (Or.inl ⟨by rfl, ?_⟩) ?_ ?_
  rotate_left
  · intro w'
    go_simp
    with_reducible rfl
  rotate_left
  · simp only [Act.put, qa, qb, qc, i64_w, i32_w]
    rfl
  refine take_ (i := 14) (N := some 201) (v := ?_) (a' := ?_) (qd 34 3303538687) rfl rfl (take_ofW HT_.out HW_.out (by kernel_rfl)) (fun c a1 w1 h => hp c _ _ _ (by rfl) h) (Or.inl ⟨by rfl, ?_⟩) hHeld ?_ ?_
  rotate_left
  · rintro w' ⟨s0, s1, s2, s3, s4⟩
    go_simp
    with_reducible rfl
  rotate_left
  · simp only [Act.put, qa, qb, qc, i64_w, i32_w]
    rfl
  refine take_ (i := 19) (N := some 206) (v := ?_) (a' := ?_) (qd 34 3304062975) rfl rfl (take_ofW HT_.out HW_.out (by kernel_rfl)) (fun c a1 w1 h => hp c _ _ _ (by rfl) h) (Or.inl ⟨by rfl, ?_⟩) hHeld ?_ ?_
  rotate_left
  · rintro w' ⟨s0, s1, s2, s3, s4⟩
    go_simp
    with_reducible rfl
  rotate_left
  · simp only [Act.put, qa, qb, qc, i64_w, i32_w]
    rfl
  refine pure_ (i := 20) (N := some 207) (v := ?_) (a' := ?_) (qd 34 3305111551) rfl rfl (any_of HT_.out (by kernel_rfl)) (fun c a1 w1 h => hp c _ _ _ (by rfl) h) (Or.inl ⟨by rfl, ?_⟩) ?_ ?_
  rotate_left
  · intro w'
    go_simp
    with_reducible rfl
  rotate_left
  · simp only [Act.put, qa, qb, qc, i64_w, i32_w]
    rfl
  refine take_ (i := 24) (N := some 211) (v := ?_) (a' := ?_) (qd 34 3321888767) rfl rfl (take_ofW HT_.out HW_.out (by kernel_rfl)) (fun c a1 w1 h => hp c _ _ _ (by rfl) h) (Or.inl ⟨by rfl, ?_⟩) hHeld ?_ ?_
  rotate_left
  · rintro w' ⟨s0, s1, s2, s3, s4⟩
    go_simp
    with_reducible rfl
  rotate_left
  · simp only [Act.put, qa, qb, qc, i64_w, i32_w]
    rfl
  refine pure_ (i := 25) (N := some 212) (v := ?_) (a' := ?_) (qd 34 3355443199) rfl rfl (any_of HT_.out (by kernel_rfl)) (fun c a1 w1 h => hp c _ _ _ (by rfl) h) (Or.inl ⟨by rfl, ?_⟩) ?_ ?_
  rotate_left
  · intro w'
    go_simp
    with_reducible rfl
  rotate_left
  · simp only [Act.put, qa, qb, qc, i64_w, i32_w]
    rfl
  refine one_ (i := 27) (N := none) (qd 34 3489660927) rfl rfl (one_of HT_.out (by kernel_rfl)) (by decide) (fun K hK => ?_)
  have c0 := C.out.1
  have z0 := C.out.2.1
  with_reducible refine skip_ (w1 := (wa.setCell ⟨gt, p, none⟩ (.int .i64 u))) ?hw ?hN ?hr ?_
  (case hw => rfl)
  (case hN => rfl)
  (case hr => go_simp)
  have hS : (wa.setCell ⟨gt, p, none⟩ (.int .i64 u)).cell? ⟨gs, 7, none⟩ = some (.slice (some ⟨gt, 0, none⟩) n n) ∧ (wa.setCell ⟨gt, p, none⟩ (.int .i64 u)).cell? ⟨gs, 2, none⟩ = some (.slice (some ⟨gj, 0, none⟩) nj nj) ∧ (wa.setCell ⟨gt, p, none⟩ (.int .i64 u)).cell? ⟨bx, 0, none⟩ = some (.int .i64 (mc : Int)) ∧ (wa.setCell ⟨gt, p, none⟩ (.int .i64 u)).cell? ⟨bx, 1, none⟩ = some (.int .i64 tm) ∧ (wa.setCell ⟨gt, p, none⟩ (.int .i64 u)).cell? ⟨bx, 2, none⟩ = some (.int .i64 (p : Int)) := by
    obtain ⟨a0, a1, a2, a3, a4⟩ := hHeld
    refine ⟨?_, ?_, ?_, ?_, ?_⟩ <;> go_simp
  refine hK.out _ _ hS (fun hHeld => ?_)
  clear hK K
  refine pure_ (i := 28) (N := some 214) (v := ?_) (a' := ?_) (qd 34 3758096383) rfl rfl (any_of HT_.out (by kernel_rfl)) (fun c a1 w1 h => hp c _ _ _ (by rfl) h) (Or.inl ⟨by rfl, ?_⟩) ?_ ?_
  rotate_left
  · intro w'
    go_simp
    with_reducible rfl
  rotate_left
  · simp only [Act.put, qa, qb, qc, i64_w, i32_w]
    rfl
  refine one_ (i := 29) (N := none) (qd 34 4294967295) rfl rfl (one_of HT_.out (by kernel_rfl)) (by decide) (fun K hK => ?_)
  have c1 := C.out.2.2.1
  have z1 := C.out.2.2.2.1
  with_reducible refine skip_ (w1 := ((wa.setCell ⟨gt, p, none⟩ (.int .i64 u)).setCell ⟨gj, j, none⟩ (.int .i64 (wrap64 (u + tm))))) ?hw ?hN ?hr ?_
  (case hw => rfl)
  (case hN => rfl)
  (case hr => go_simp)
  have hS : ((wa.setCell ⟨gt, p, none⟩ (.int .i64 u)).setCell ⟨gj, j, none⟩ (.int .i64 (wrap64 (u + tm)))).cell? ⟨gs, 7, none⟩ = some (.slice (some ⟨gt, 0, none⟩) n n) ∧ ((wa.setCell ⟨gt, p, none⟩ (.int .i64 u)).setCell ⟨gj, j, none⟩ (.int .i64 (wrap64 (u + tm)))).cell? ⟨gs, 2, none⟩ = some (.slice (some ⟨gj, 0, none⟩) nj nj) ∧ ((wa.setCell ⟨gt, p, none⟩ (.int .i64 u)).setCell ⟨gj, j, none⟩ (.int .i64 (wrap64 (u + tm)))).cell? ⟨bx, 0, none⟩ = some (.int .i64 (mc : Int)) ∧ ((wa.setCell ⟨gt, p, none⟩ (.int .i64 u)).setCell ⟨gj, j, none⟩ (.int .i64 (wrap64 (u + tm)))).cell? ⟨bx, 1, none⟩ = some (.int .i64 tm) ∧ ((wa.setCell ⟨gt, p, none⟩ (.int .i64 u)).setCell ⟨gj, j, none⟩ (.int .i64 (wrap64 (u + tm)))).cell? ⟨bx, 2, none⟩ = some (.int .i64 (p : Int)) := by
    obtain ⟨a0, a1, a2, a3, a4⟩ := hHeld
    refine ⟨?_, ?_, ?_, ?_, ?_⟩ <;> go_simp
  refine hK.out _ _ hS (fun hHeld => ?_)
  clear hK K
  refine pure_ (i := 32) (N := some 217) (v := ?_) (a' := ?_) (qd 34 8589934591) rfl rfl (any_of HT_.out (by kernel_rfl)) (fun c a1 w1 h => hp c _ _ _ (by rfl) h) (Or.inl ⟨by rfl, ?_⟩) ?_ ?_
  rotate_left
  · intro w'
    go_simp
    with_reducible rfl
  rotate_left
  · simp only [Act.put, qa, qb, qc, i64_w, i32_w]
    rfl
  refine last_ (i := 33) (N := none) (qd 34 17179869183) rfl rfl (one_of HT_.out (by kernel_rfl)) (by decide) (fun K hK => ?_)
  have c2 := C.out.2.2.2.2.1
  have z2 := C.out.2.2.2.2.2
  with_reducible refine skip_ (w1 := (((wa.setCell ⟨gt, p, none⟩ (.int .i64 u)).setCell ⟨gj, j, none⟩ (.int .i64 (wrap64 (u + tm)))).setCell ⟨gs, 3 + mc, none⟩ (.int .i64 (wrap64 (u + tm))))) ?hw ?hN ?hr ?_
  (case hw => rfl)
  (case hN => rfl)
  (case hr => go_simp)
  refine hK.out _ _ ?_
  clear hK K
  refine done_ (done_of HT_.out (by kernel_rfl)) ?_
  refine hQ _ ?_
  (try simp only [Act.put])
  exact ⟨by simp [sz], by simp [df], by simp [sz, e0], by simp [sz, e1], by simp [sz, e2], by simp [sz, e68], by simp [sz, e69], by simp [sz, e6], by simp [sz, e7], by simp [sz, e8], by simp [sz, e9], by simp [sz, e12], by simp [sz, e13]⟩
end Go.Proofs.Ytipkhaicjjeieaa.V
