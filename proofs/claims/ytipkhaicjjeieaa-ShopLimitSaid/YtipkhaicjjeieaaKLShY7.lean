/- Walks of the shop's functions: a region of the search's round (7). -/
import Derived.Test.YtipkhaicjjeieaaKLShY
namespace Go.Proofs.Ytipkhaicjjeieaa.V
set_option linter.unusedSimpArgs false
set_option linter.unusedVariables false
open Go.RowKit Go.Proofs.YtipkhaicjjeieaaW.PrintWords Go.Proofs.YtipkhaicjjeieaaW.PrintLast Go.Proofs.YtipkhaicjjeieaaW.PrintMore
attribute [local go_sem] max2_int min2_int max_two min_two
def gp7T : Bool × List (List Nat × List Nat) := (true, [([], []), ([0], [0]), ([1], [1]), ([2], [2]), ([3], [3]), ([4], [4]), ([5], [5]), ([], []), ([7], [7]), ([8], [8]), ([9], [9]), ([10], [10]), ([11], [11]), ([12], [12]), ([], []), ([13, 14], [13, 14]), ([15], [15]), ([], []), ([17], [17]), ([18], [18]), ([19], [19]), ([], []), ([20, 21], [20, 21]), ([22], [22]), ([16, 23], [16, 23]), ([6, 24], [6, 24]), ([25], [25]), ([], []), ([27, 26, 0, 1, 2, 3, 4, 5, 6, 7, 8, 9, 10, 11, 12, 13, 14, 15, 16, 17, 18, 19, 20, 21, 22, 23, 24, 25, 26, 27], [26, 27])])
def gp7B : List Nat := [0, 1, 3, 7, 15, 31, 63, 0, 128, 384, 896, 1920, 3968, 8064, 0, 32640, 65408, 0, 131072, 393216, 917504, 0, 4063232, 8257536, 16777088, 33554431, 67108863, 0, 268435455]
theorem gp7tab : rtab .any (opsOf Try.f53 7) = gp7T := by kernel_rfl
theorem gp7bits : waitsOk gp7T.2 gp7B = true := by kernel_rfl
set_option maxHeartbeats 4000000 in
set_option maxRecDepth 100000 in
theorem go_r7 {Q : Exit → Act → World → Prop} (hp : QuietP Q) (a : Act) (W : World) (gs gn g left nj j k fi p n cf ct mc : Nat) (en y1 y3 y4 : Int) (v7 v8 v9 v12 v13 : Value) (adt adf : Addr) (T : Ta a gs left en nj j (.int .i64 (j : Int)) v7 v8 v9 v12 v13)
    (hji : (j : Int) < (nj : Int)) (hpn : (p : Int) < (n : Int)) (HADD : (fi : Int) + (k : Int) = (p : Int)) (HADDW : wrap64 (p : Int) = (p : Int))
    (q0 : W.cell? ⟨gs, 0, none⟩ = some (.pointer (some ⟨g, 0, none⟩))) (q1 : W.cell? ⟨gs, 1, none⟩ = some (.slice (some ⟨gn, 0, none⟩) nj nj)) (q2 : W.cell? ⟨gn, j, none⟩ = some (.int .i64 (k : Int))) (q3 : W.cell? ⟨g, 1, none⟩ = some (.slice (some adt) n ct)) (q4 : W.cell? ⟨g, 2, none⟩ = some (.slice (some adf) nj cf)) (q5 : W.cell? (adf.add j) = some (.int .i64 (fi : Int)))
    (r0 : W.cell? (adt.add (p * 5)) = some (.int .i64 (mc : Int))) (r1 : W.cell? ⟨(adt.add (p * 5)).block, (adt.add (p * 5)).off + 1, none⟩ = some (.int .i64 y1)) (r2 : W.cell? ⟨(adt.add (p * 5)).block, (adt.add (p * 5)).off + 2, none⟩ = some (.int .i64 (p : Int))) (r3 : W.cell? ⟨(adt.add (p * 5)).block, (adt.add (p * 5)).off + 3, none⟩ = some (.int .i64 y3)) (r4 : W.cell? ⟨(adt.add (p * 5)).block, (adt.add (p * 5)).off + 4, none⟩ = some (.int .i64 y4))
    (hQ : ∀ a' W', Ta a' gs left en nj j (.int .i64 (j : Int)) (.pointer (some ⟨W.heap.size, 0, none⟩)) v8 v9 v12 v13 → Below W.heap.size W W' → W'.heap[W.heap.size]? = some (.cells #[.int .i64 (mc : Int), .int .i64 y1, .int .i64 (p : Int), .int .i64 y3, .int .i64 y4] 89 (0, 0)) → Q .normal a' W') : (cR Try.f53 7).wp Try.prog Q a W := by
  conv => arg 2; whnf
  obtain ⟨sz, df, e0, e1, e2, e68, e69, e6, e7, e8, e9, e12, e13⟩ := T
  have HB := Aside0.mk (below_drew1 (Below.refl W.heap.size W))
  have HZ := Aside0.mk (show W.drew.heap.size = W.heap.size from rfl)
  refine start_ (n := 29) (S := fun w' => w'.cell? ⟨gs, 0, none⟩ = some (.pointer (some ⟨g, 0, none⟩)) ∧ w'.cell? ⟨gs, 1, none⟩ = some (.slice (some ⟨gn, 0, none⟩) nj nj) ∧ w'.cell? ⟨gn, j, none⟩ = some (.int .i64 (k : Int)) ∧ w'.cell? ⟨g, 1, none⟩ = some (.slice (some adt) n ct) ∧ w'.cell? ⟨g, 2, none⟩ = some (.slice (some adf) nj cf) ∧ w'.cell? (adf.add j) = some (.int .i64 (fi : Int)) ∧ w'.cell? (adt.add (p * 5)) = some (.int .i64 (mc : Int)) ∧ w'.cell? ⟨(adt.add (p * 5)).block, (adt.add (p * 5)).off + 1, none⟩ = some (.int .i64 y1) ∧ w'.cell? ⟨(adt.add (p * 5)).block, (adt.add (p * 5)).off + 2, none⟩ = some (.int .i64 (p : Int)) ∧ w'.cell? ⟨(adt.add (p * 5)).block, (adt.add (p * 5)).off + 3, none⟩ = some (.int .i64 y3) ∧ w'.cell? ⟨(adt.add (p * 5)).block, (adt.add (p * 5)).off + 4, none⟩ = some (.int .i64 y4)) (ds := [28]) #[false, false, false, false, false, false, false, false, false, false, false, false, false, false, false, false, false, false, false, false, false, false, false, false, false, false, false, false, false] (by kernel_rfl) rfl rfl ⟨q0, q1, q2, q3, q4, q5, r0, r1, r2, r3, r4⟩ (fun hHeld => ?_)
  refine with_tabW gp7tab gp7bits (fun HT_ HW_ => ?_)
  clear q0 q1 q2 q3 q4 q5 r0 r1 r2 r3 r4
  generalize W.drew = wa at HB HZ hHeld ⊢
  refine pure_ (i := 0) (N := some 91) (v := ?_) (a' := ?_) (qd 29 1) rfl rfl (any_of HT_.out (by kernel_rfl)) (fun c a1 w1 h => hp c _ _ _ (by rfl) h) (Or.inl ⟨by rfl, ?_⟩) ?_ ?_
  rotate_left
  · intro w'
    go_simp
    with_reducible rfl
  rotate_left
  · simp only [Act.put, qa, qb, qc, i64_w, i32_w]
    rfl
  refine pure_ (i := 1) (N := some 92) (v := ?_) (a' := ?_) (qd 29 3) rfl rfl (any_of HT_.out (by kernel_rfl)) (fun c a1 w1 h => hp c _ _ _ (by rfl) h) (Or.inl ⟨by rfl, ?_⟩) ?_ ?_
  rotate_left
  · intro w'
    go_simp
    with_reducible rfl
  rotate_left
  · simp only [Act.put, qa, qb, qc, i64_w, i32_w]
    rfl
  refine pure_ (i := 2) (N := some 93) (v := ?_) (a' := ?_) (qd 29 7) rfl rfl (any_of HT_.out (by kernel_rfl)) (fun c a1 w1 h => hp c _ _ _ (by rfl) h) (Or.inl ⟨by rfl, ?_⟩) ?_ ?_
  rotate_left
  · intro w'
    go_simp
    with_reducible rfl
  rotate_left
  · simp only [Act.put, qa, qb, qc, i64_w, i32_w]
    rfl
  refine pure_ (i := 7) (N := some 98) (v := ?_) (a' := ?_) (qd 29 135) rfl rfl (any_of HT_.out (by kernel_rfl)) (fun c a1 w1 h => hp c _ _ _ (by rfl) h) (Or.inl ⟨by rfl, ?_⟩) ?_ ?_
  rotate_left
  · intro w'
    go_simp
    with_reducible rfl
  rotate_left
  · simp only [Act.put, qa, qb, qc, i64_w, i32_w]
    rfl
  refine pure_ (i := 8) (N := some 99) (v := ?_) (a' := ?_) (qd 29 391) rfl rfl (any_of HT_.out (by kernel_rfl)) (fun c a1 w1 h => hp c _ _ _ (by rfl) h) (Or.inl ⟨by rfl, ?_⟩) ?_ ?_
  rotate_left
  · intro w'
    go_simp
    with_reducible rfl
  rotate_left
  · simp only [Act.put, qa, qb, qc, i64_w, i32_w]
    rfl
  refine pure_ (i := 9) (N := some 100) (v := ?_) (a' := ?_) (qd 29 903) rfl rfl (any_of HT_.out (by kernel_rfl)) (fun c a1 w1 h => hp c _ _ _ (by rfl) h) (Or.inl ⟨by rfl, ?_⟩) ?_ ?_
  rotate_left
  · intro w'
    go_simp
    with_reducible rfl
  rotate_left
  · simp only [Act.put, qa, qb, qc, i64_w, i32_w]
    rfl
  refine pure_ (i := 14) (N := some 105) (v := ?_) (a' := ?_) (qd 29 17287) rfl rfl (any_of HT_.out (by kernel_rfl)) (fun c a1 w1 h => hp c _ _ _ (by rfl) h) (Or.inl ⟨by rfl, ?_⟩) ?_ ?_
  rotate_left
  · intro w'
    go_simp
    with_reducible rfl
  rotate_left
  · simp only [Act.put, qa, qb, qc, i64_w, i32_w]
    rfl
  refine pure_ (i := 17) (N := some 108) (v := ?_) (a' := ?_) (qd 29 148359) rfl rfl (any_of HT_.out (by kernel_rfl)) (fun c a1 w1 h => hp c _ _ _ (by rfl) h) (Or.inl ⟨by rfl, ?_⟩) ?_ ?_
  rotate_left
  · intro w'
    go_simp
    with_reducible rfl
  rotate_left
  · simp only [Act.put, qa, qb, qc, i64_w, i32_w]
    rfl
  refine pure_ (i := 18) (N := some 109) (v := ?_) (a' := ?_) (qd 29 410503) rfl rfl (any_of HT_.out (by kernel_rfl)) (fun c a1 w1 h => hp c _ _ _ (by rfl) h) (Or.inl ⟨by rfl, ?_⟩) ?_ ?_
  rotate_left
  · intro w'
    go_simp
    with_reducible rfl
  rotate_left
  · simp only [Act.put, qa, qb, qc, i64_w, i32_w]
    rfl
  refine pure_ (i := 19) (N := some 110) (v := ?_) (a' := ?_) (qd 29 934791) rfl rfl (any_of HT_.out (by kernel_rfl)) (fun c a1 w1 h => hp c _ _ _ (by rfl) h) (Or.inl ⟨by rfl, ?_⟩) ?_ ?_
  rotate_left
  · intro w'
    go_simp
    with_reducible rfl
  rotate_left
  · simp only [Act.put, qa, qb, qc, i64_w, i32_w]
    rfl
  refine pure_ (i := 21) (N := some 112) (v := ?_) (a' := ?_) (qd 29 3031943) rfl rfl (any_of HT_.out (by kernel_rfl)) (fun c a1 w1 h => hp c _ _ _ (by rfl) h) (Or.inl ⟨by rfl, ?_⟩) ?_ ?_
  rotate_left
  · intro w'
    go_simp
    with_reducible rfl
  rotate_left
  · simp only [Act.put, qa, qb, qc, i64_w, i32_w]
    rfl
  refine take_ (i := 3) (N := some 94) (v := ?_) (a' := ?_) (qd 29 3031951) rfl rfl (take_ofW HT_.out HW_.out (by kernel_rfl)) (fun c a1 w1 h => hp c _ _ _ (by rfl) h) (Or.inl ⟨by rfl, ?_⟩) hHeld ?_ ?_
  rotate_left
  · rintro w' ⟨s0, s1, s2, s3, s4, s5, s6, s7, s8, s9, s10⟩
    go_simp
    with_reducible rfl
  rotate_left
  · simp only [Act.put, qa, qb, qc, i64_w, i32_w]
    rfl
  refine pure_ (i := 4) (N := some 95) (v := ?_) (a' := ?_) (qd 29 3031967) rfl rfl (any_of HT_.out (by kernel_rfl)) (fun c a1 w1 h => hp c _ _ _ (by rfl) h) (Or.inl ⟨by rfl, ?_⟩) ?_ ?_
  rotate_left
  · intro w'
    go_simp
    with_reducible rfl
  rotate_left
  · simp only [Act.put, qa, qb, qc, i64_w, i32_w]
    rfl
  refine pure_ (i := 5) (N := some 96) (v := ?_) (a' := ?_) (qd 29 3031999) rfl rfl (any_of HT_.out (by kernel_rfl)) (fun c a1 w1 h => hp c _ _ _ (by rfl) h) (Or.inl ⟨by rfl, ?_⟩) ?_ ?_
  rotate_left
  · intro w'
    go_simp
    with_reducible rfl
  rotate_left
  · simp only [Act.put, qa, qb, qc, i64_w, i32_w]
    rfl
  refine take_ (i := 6) (N := some 97) (v := ?_) (a' := ?_) (qd 29 3032063) rfl rfl (take_ofW HT_.out HW_.out (by kernel_rfl)) (fun c a1 w1 h => hp c _ _ _ (by rfl) h) (Or.inl ⟨by rfl, ?_⟩) hHeld ?_ ?_
  rotate_left
  · rintro w' ⟨s0, s1, s2, s3, s4, s5, s6, s7, s8, s9, s10⟩
    go_simp
    with_reducible rfl
  rotate_left
  · simp only [Act.put, qa, qb, qc, i64_w, i32_w]
    rfl
  refine take_ (i := 10) (N := some 101) (v := ?_) (a' := ?_) (qd 29 3033087) rfl rfl (take_ofW HT_.out HW_.out (by kernel_rfl)) (fun c a1 w1 h => hp c _ _ _ (by rfl) h) (Or.inl ⟨by rfl, ?_⟩) hHeld ?_ ?_
  rotate_left
  · rintro w' ⟨s0, s1, s2, s3, s4, s5, s6, s7, s8, s9, s10⟩
    go_simp
    with_reducible rfl
  rotate_left
  · simp only [Act.put, qa, qb, qc, i64_w, i32_w]
    rfl
  refine pure_ (i := 11) (N := some 102) (v := ?_) (a' := ?_) (qd 29 3035135) rfl rfl (any_of HT_.out (by kernel_rfl)) (fun c a1 w1 h => hp c _ _ _ (by rfl) h) (Or.inl ⟨by rfl, ?_⟩) ?_ ?_
  rotate_left
  · intro w'
    go_simp
    with_reducible rfl
  rotate_left
  · simp only [Act.put, qa, qb, qc, i64_w, i32_w]
    rfl
  refine pure_ (i := 12) (N := some 103) (v := ?_) (a' := ?_) (qd 29 3039231) rfl rfl (any_of HT_.out (by kernel_rfl)) (fun c a1 w1 h => hp c _ _ _ (by rfl) h) (Or.inl ⟨by rfl, ?_⟩) ?_ ?_
  rotate_left
  · intro w'
    go_simp
    with_reducible rfl
  rotate_left
  · simp only [Act.put, qa, qb, qc, i64_w, i32_w]
    rfl
  refine take_ (i := 13) (N := some 104) (v := ?_) (a' := ?_) (qd 29 3047423) rfl rfl (take_ofW HT_.out HW_.out (by kernel_rfl)) (fun c a1 w1 h => hp c _ _ _ (by rfl) h) (Or.inl ⟨by rfl, ?_⟩) hHeld ?_ ?_
  rotate_left
  · rintro w' ⟨s0, s1, s2, s3, s4, s5, s6, s7, s8, s9, s10⟩
    go_simp
    with_reducible rfl
  rotate_left
  · simp only [Act.put, qa, qb, qc, i64_w, i32_w]
    rfl
  refine pure_ (i := 15) (N := some 106) (v := ?_) (a' := ?_) (qd 29 3080191) rfl rfl (any_of HT_.out (by kernel_rfl)) (fun c a1 w1 h => hp c _ _ _ (by rfl) h) (Or.inl ⟨by rfl, ?_⟩) ?_ ?_
  rotate_left
  · intro w'
    go_simp
    with_reducible rfl
  rotate_left
  · simp only [Act.put, qa, qb, qc, i64_w, i32_w]
    rfl
  refine take_ (i := 16) (N := some 107) (v := ?_) (a' := ?_) (qd 29 3145727) rfl rfl (take_ofW HT_.out HW_.out (by kernel_rfl)) (fun c a1 w1 h => hp c _ _ _ (by rfl) h) (Or.inl ⟨by rfl, ?_⟩) hHeld ?_ ?_
  rotate_left
  · rintro w' ⟨s0, s1, s2, s3, s4, s5, s6, s7, s8, s9, s10⟩
    go_simp
    with_reducible rfl
  rotate_left
  · simp only [Act.put, qa, qb, qc, i64_w, i32_w]
    rfl
  refine take_ (i := 20) (N := some 111) (v := ?_) (a' := ?_) (qd 29 4194303) rfl rfl (take_ofW HT_.out HW_.out (by kernel_rfl)) (fun c a1 w1 h => hp c _ _ _ (by rfl) h) (Or.inl ⟨by rfl, ?_⟩) hHeld ?_ ?_
  rotate_left
  · rintro w' ⟨s0, s1, s2, s3, s4, s5, s6, s7, s8, s9, s10⟩
    go_simp
    with_reducible rfl
  rotate_left
  · simp only [Act.put, qa, qb, qc, i64_w, i32_w]
    rfl
  refine pure_ (i := 22) (N := some 113) (v := ?_) (a' := ?_) (qd 29 8388607) rfl rfl (any_of HT_.out (by kernel_rfl)) (fun c a1 w1 h => hp c _ _ _ (by rfl) h) (Or.inl ⟨by rfl, ?_⟩) ?_ ?_
  rotate_left
  · intro w'
    go_simp
    with_reducible rfl
  rotate_left
  · simp only [Act.put, qa, qb, qc, i64_w, i32_w]
    rfl
  refine take_ (i := 23) (N := some 114) (v := ?_) (a' := ?_) (qd 29 16777215) rfl rfl (take_ofW HT_.out HW_.out (by kernel_rfl)) (fun c a1 w1 h => hp c _ _ _ (by rfl) h) (Or.inl ⟨by rfl, ?_⟩) hHeld ?_ ?_
  rotate_left
  · rintro w' ⟨s0, s1, s2, s3, s4, s5, s6, s7, s8, s9, s10⟩
    go_simp
    with_reducible rfl
  rotate_left
  · simp only [Act.put, qa, qb, qc, i64_w, i32_w]
    rfl
  refine pure_ (i := 24) (N := some 115) (v := ?_) (a' := ?_) (qd 29 33554431) rfl rfl (any_of HT_.out (by kernel_rfl)) (fun c a1 w1 h => hp c _ _ _ (by rfl) h) (Or.inl ⟨by rfl, ?_⟩) ?_ ?_
  rotate_left
  · intro w'
    go_simp
    (try rw [HADDW])
    (try rw [HADD])
    with_reducible rfl
  rotate_left
  · simp only [Act.put, qa, qb, qc, i64_w, i32_w]
    rfl
  refine pure_ (i := 25) (N := some 116) (v := ?_) (a' := ?_) (qd 29 67108863) rfl rfl (any_of HT_.out (by kernel_rfl)) (fun c a1 w1 h => hp c _ _ _ (by rfl) h) (Or.inl ⟨by rfl, ?_⟩) ?_ ?_
  rotate_left
  · intro w'
    go_simp
    with_reducible rfl
  rotate_left
  · simp only [Act.put, qa, qb, qc, i64_w, i32_w]
    rfl
  refine take_ (i := 26) (N := some 117) (v := ?_) (a' := ?_) (qd 29 134217727) rfl rfl (take_ofW HT_.out HW_.out (by kernel_rfl)) (fun c a1 w1 h => hp c _ _ _ (by rfl) h) (Or.inl ⟨by rfl, ?_⟩) hHeld ?_ ?_
  rotate_left
  · rintro w' ⟨s0, s1, s2, s3, s4, s5, s6, s7, s8, s9, s10⟩
    go_simp
    with_reducible rfl
  rotate_left
  · simp only [Act.put, qa, qb, qc, i64_w, i32_w]
    rfl
  refine one_ (i := 27) (N := some 7) (qd 29 268435455) rfl rfl (one_of HT_.out (by kernel_rfl)) (by decide) (fun K hK => ?_)
  refine value_ (v := .pointer (some ⟨wa.heap.size, 0, none⟩)) (w1 := wa.alloc (Obj.cells #[.int .i64 0, .int .i64 0, .int .i64 0, .int .i64 0, .int .i64 0] 89)) (by rfl) rfl (by go_simp) ?_
  have hba := below_alloc (Below.refl wa.heap.size wa) (Obj.cells #[.int .i64 0, .int .i64 0, .int .i64 0, .int .i64 0, .int .i64 0] 89)
  have NB := Aside0.mk (blk_new wa (Obj.cells #[.int .i64 0, .int .i64 0, .int .i64 0, .int .i64 0, .int .i64 0] 89))
  refine hK.out _ _ (by obtain ⟨a0, a1, a2, a3, a4, a5, a6, a7, a8, a9, a10⟩ := hHeld; exact ⟨pw_cell_below hba a0, pw_cell_below hba a1, pw_cell_below hba a2, pw_cell_below hba a3, pw_cell_below hba a4, pw_cell_below hba a5, pw_cell_below hba a6, pw_cell_below hba a7, pw_cell_below hba a8, pw_cell_below hba a9, pw_cell_below hba a10⟩) (fun hHeld => ?_)
  clear hK K hba
  simp only [Act.put]
  refine last_ (i := 28) (N := none) (qd 29 536870911) rfl rfl (one_of HT_.out (by kernel_rfl)) (by decide) (fun K hK => ?_)
  with_reducible refine row_ ?hw ?hN 89 (.tmp 7) (.tmp 117) ?ho wa.heap.size #[.int .i64 (mc : Int), .int .i64 y1, .int .i64 (p : Int), .int .i64 y3, .int .i64 y4] ?hx ?hy 89 #[.int .i64 0, .int .i64 0, .int .i64 0, .int .i64 0, .int .i64 0] NB.out ?hi ?hold ?h1 ?_
  (case hw => rfl)
  (case hN => rfl)
  (case ho => rfl)
  (case hx => simp [Act.eval, Act.put, sz])
  (case hy => simp [Act.eval, Act.put, sz])
  (case hi => exact info89z)
  (case hold => rfl)
  (case h1 => simp [Value.oneCell'])
  refine hK.out _ _ ?_
  have hbb : Below wa.heap.size wa ((wa.alloc (Obj.cells #[.int .i64 0, .int .i64 0, .int .i64 0, .int .i64 0, .int .i64 0] 89)).setRow wa.heap.size #[.int .i64 (mc : Int), .int .i64 y1, .int .i64 (p : Int), .int .i64 y3, .int .i64 y4]) := below_setRow (below_alloc (Below.refl _ _) _) (Nat.le_refl _) _
  have BX : ((wa.alloc (Obj.cells #[.int .i64 0, .int .i64 0, .int .i64 0, .int .i64 0, .int .i64 0] 89)).setRow wa.heap.size #[.int .i64 (mc : Int), .int .i64 y1, .int .i64 (p : Int), .int .i64 y3, .int .i64 y4]).heap[wa.heap.size]? = some (.cells #[.int .i64 (mc : Int), .int .i64 y1, .int .i64 (p : Int), .int .i64 y3, .int .i64 y4] 89 (0, 0)) := setRow_heap _ _ _ _ _ _ NB.out
  clear hK K
  refine done_ (done_of HT_.out (by kernel_rfl)) ?_
  have hb2 := below_step HB.out hbb
  rw [HZ.out] at hb2 BX ⊢
  refine hQ _ _ ?_ hb2 BX
  (try simp only [Act.put])
  exact ⟨by simp [sz], by simp [df], by simp [sz, e0], by simp [sz, e1], by simp [sz, e2], by simp [sz, e68], by simp [sz, e69], by simp [sz, e6], by simp [sz], by simp [sz, e8], by simp [sz, e9], by simp [sz, e12], by simp [sz, e13]⟩
end Go.Proofs.Ytipkhaicjjeieaa.V
