/- Walks of the shop's functions: a region of the search's round (16). -/
import Derived.Test.YtipkhaicjjeieaaKLShY
namespace Go.Proofs.Ytipkhaicjjeieaa.V
set_option linter.unusedSimpArgs false
set_option linter.unusedVariables false
open Go.RowKit Go.Proofs.YtipkhaicjjeieaaW.PrintWords Go.Proofs.YtipkhaicjjeieaaW.PrintLast Go.Proofs.YtipkhaicjjeieaaW.PrintMore
attribute [local go_sem] max2_int min2_int max_two min_two
def gp16T : Bool × List (List Nat × List Nat) := (true, [([], []), ([0], [0]), ([1], [1]), ([2], [2]), ([], []), ([3, 4], [3, 4]), ([5], [5]), ([], []), ([7], [7]), ([8], [8]), ([9], [9]), ([], []), ([6, 0, 1, 2, 3, 4, 5, 6, 11], [6]), ([11, 10, 12, 0, 1, 2, 3, 4, 5, 6, 7, 8, 9, 10, 11, 12], [10, 11])])
def gp16B : List Nat := [0, 1, 3, 7, 0, 31, 63, 0, 128, 384, 896, 0, 2175, 8191]
theorem gp16tab : rtab .any (opsOf Try.f53 16) = gp16T := by kernel_rfl
theorem gp16bits : waitsOk gp16T.2 gp16B = true := by kernel_rfl
set_option maxHeartbeats 1000000 in
set_option maxRecDepth 100000 in
theorem go_r16 {Q : Exit → Act → World → Prop} (hp : QuietP Q) (a : Act) (W : World) (gs gj left nj j : Nat) (en u f0 f1 f2 f3 : Int) (v7 v8 v9 v12 v13 : Value) (T : Ta a gs left en nj j (.int .i64 (j : Int)) v7 v8 v9 v12 v13)
    (hji : (j : Int) < (nj : Int)) (q0 : W.cell? ⟨gs, 2, none⟩ = some (.slice (some ⟨gj, 0, none⟩) nj nj)) (q1 : W.cell? ⟨gj, j, none⟩ = some (.int .i64 u)) (q2 : W.cell? ⟨gs, 3, none⟩ = some (.int .i64 f0)) (q3 : W.cell? ⟨gs, 4, none⟩ = some (.int .i64 f1)) (q4 : W.cell? ⟨gs, 5, none⟩ = some (.int .i64 f2)) (q5 : W.cell? ⟨gs, 6, none⟩ = some (.int .i64 f3))
    (hQ : ∀ a' W', Ta a' gs left en nj j (.int .i64 (j : Int)) v7 v8 v9 (.int .i64 u) (.pointer (some ⟨W.heap.size, 0, none⟩)) → Below W.heap.size W W' → W'.heap[W.heap.size]? = some (.cells #[.int .i64 f0, .int .i64 f1, .int .i64 f2, .int .i64 f3] 105 (0, 0)) → Q .normal a' W') : (cR Try.f53 16).wp Try.prog Q a W := by
  conv => arg 2; whnf
  obtain ⟨sz, df, e0, e1, e2, e68, e69, e6, e7, e8, e9, e12, e13⟩ := T
  have HB := Aside0.mk (below_drew1 (Below.refl W.heap.size W))
  have HZ := Aside0.mk (show W.drew.heap.size = W.heap.size from rfl)
  have I105 := Aside0.mk (show (Try.prog.info? 105).map (·.size) = some 4 by kernel_rfl)
  refine start_ (n := 14) (S := fun w' => w'.cell? ⟨gs, 2, none⟩ = some (.slice (some ⟨gj, 0, none⟩) nj nj) ∧ w'.cell? ⟨gj, j, none⟩ = some (.int .i64 u) ∧ w'.cell? ⟨gs, 3, none⟩ = some (.int .i64 f0) ∧ w'.cell? ⟨gs, 4, none⟩ = some (.int .i64 f1) ∧ w'.cell? ⟨gs, 5, none⟩ = some (.int .i64 f2) ∧ w'.cell? ⟨gs, 6, none⟩ = some (.int .i64 f3)) (ds := [13]) #[false, false, false, false, false, false, false, false, false, false, false, false, false, false] (by kernel_rfl) rfl rfl ⟨q0, q1, q2, q3, q4, q5⟩ (fun hHeld => ?_)
  refine with_tabW gp16tab gp16bits (fun HT_ HW_ => ?_)
  clear q0 q1 q2 q3 q4 q5
  generalize W.drew = wa at HB HZ hHeld ⊢
  refine pure_ (i := 0) (N := some 176) (v := ?_) (a' := ?_) (qd 14 1) rfl rfl (any_of HT_.out (by kernel_rfl)) (fun c a1 w1 h => hp c _ _ _ (by rfl) h) (Or.inl ⟨by rfl, ?_⟩) ?_ ?_
  rotate_left
  · intro w'
    go_simp
    with_reducible rfl
  rotate_left
  · simp only [Act.put, qa, qb, qc, i64_w, i32_w]
    rfl
  refine pure_ (i := 1) (N := some 177) (v := ?_) (a' := ?_) (qd 14 3) rfl rfl (any_of HT_.out (by kernel_rfl)) (fun c a1 w1 h => hp c _ _ _ (by rfl) h) (Or.inl ⟨by rfl, ?_⟩) ?_ ?_
  rotate_left
  · intro w'
    go_simp
    with_reducible rfl
  rotate_left
  · simp only [Act.put, qa, qb, qc, i64_w, i32_w]
    rfl
  refine pure_ (i := 2) (N := some 178) (v := ?_) (a' := ?_) (qd 14 7) rfl rfl (any_of HT_.out (by kernel_rfl)) (fun c a1 w1 h => hp c _ _ _ (by rfl) h) (Or.inl ⟨by rfl, ?_⟩) ?_ ?_
  rotate_left
  · intro w'
    go_simp
    with_reducible rfl
  rotate_left
  · simp only [Act.put, qa, qb, qc, i64_w, i32_w]
    rfl
  refine pure_ (i := 4) (N := some 180) (v := ?_) (a' := ?_) (qd 14 23) rfl rfl (any_of HT_.out (by kernel_rfl)) (fun c a1 w1 h => hp c _ _ _ (by rfl) h) (Or.inl ⟨by rfl, ?_⟩) ?_ ?_
  rotate_left
  · intro w'
    go_simp
    with_reducible rfl
  rotate_left
  · simp only [Act.put, qa, qb, qc, i64_w, i32_w]
    rfl
  refine pure_ (i := 7) (N := some 183) (v := ?_) (a' := ?_) (qd 14 151) rfl rfl (any_of HT_.out (by kernel_rfl)) (fun c a1 w1 h => hp c _ _ _ (by rfl) h) (Or.inl ⟨by rfl, ?_⟩) ?_ ?_
  rotate_left
  · intro w'
    go_simp
    with_reducible rfl
  rotate_left
  · simp only [Act.put, qa, qb, qc, i64_w, i32_w]
    rfl
  refine pure_ (i := 8) (N := some 184) (v := ?_) (a' := ?_) (qd 14 407) rfl rfl (any_of HT_.out (by kernel_rfl)) (fun c a1 w1 h => hp c _ _ _ (by rfl) h) (Or.inl ⟨by rfl, ?_⟩) ?_ ?_
  rotate_left
  · intro w'
    go_simp
    with_reducible rfl
  rotate_left
  · simp only [Act.put, qa, qb, qc, i64_w, i32_w]
    rfl
  refine pure_ (i := 9) (N := some 185) (v := ?_) (a' := ?_) (qd 14 919) rfl rfl (any_of HT_.out (by kernel_rfl)) (fun c a1 w1 h => hp c _ _ _ (by rfl) h) (Or.inl ⟨by rfl, ?_⟩) ?_ ?_
  rotate_left
  · intro w'
    go_simp
    with_reducible rfl
  rotate_left
  · simp only [Act.put, qa, qb, qc, i64_w, i32_w]
    rfl
  refine take_ (i := 3) (N := some 179) (v := ?_) (a' := ?_) (qd 14 927) rfl rfl (take_ofW HT_.out HW_.out (by kernel_rfl)) (fun c a1 w1 h => hp c _ _ _ (by rfl) h) (Or.inl ⟨by rfl, ?_⟩) hHeld ?_ ?_
  rotate_left
  · rintro w' ⟨s0, s1, s2, s3, s4, s5⟩
    go_simp
    with_reducible rfl
  rotate_left
  · simp only [Act.put, qa, qb, qc, i64_w, i32_w]
    rfl
  refine pure_ (i := 5) (N := some 181) (v := ?_) (a' := ?_) (qd 14 959) rfl rfl (any_of HT_.out (by kernel_rfl)) (fun c a1 w1 h => hp c _ _ _ (by rfl) h) (Or.inl ⟨by rfl, ?_⟩) ?_ ?_
  rotate_left
  · intro w'
    go_simp
    with_reducible rfl
  rotate_left
  · simp only [Act.put, qa, qb, qc, i64_w, i32_w]
    rfl
  refine take_ (i := 6) (N := some 182) (v := ?_) (a' := ?_) (qd 14 1023) rfl rfl (take_ofW HT_.out HW_.out (by kernel_rfl)) (fun c a1 w1 h => hp c _ _ _ (by rfl) h) (Or.inl ⟨by rfl, ?_⟩) hHeld ?_ ?_
  rotate_left
  · rintro w' ⟨s0, s1, s2, s3, s4, s5⟩
    go_simp
    with_reducible rfl
  rotate_left
  · simp only [Act.put, qa, qb, qc, i64_w, i32_w]
    rfl
  refine take_ (i := 10) (N := some 186) (v := ?_) (a' := ?_) (qd 14 2047) rfl rfl (take_ofW HT_.out HW_.out (by kernel_rfl)) (fun c a1 w1 h => hp c _ _ _ (by rfl) h) (Or.inl ⟨by rfl, ?_⟩) hHeld ?_ ?_
  rotate_left
  · rintro w' ⟨s0, s1, s2, s3, s4, s5⟩
    go_simp
    with_reducible rfl
  rotate_left
  · simp only [Act.put, qa, qb, qc, i64_w, i32_w]
    rfl
  refine one_ (i := 11) (N := some 13) (qd 14 4095) rfl rfl (one_of HT_.out (by kernel_rfl)) (by decide) (fun K hK => ?_)
  refine value_ (v := .pointer (some ⟨wa.heap.size, 0, none⟩)) (w1 := wa.alloc (Obj.cells #[.int .i64 0, .int .i64 0, .int .i64 0, .int .i64 0] 105)) (by rfl) rfl (by go_simp) ?_
  have hba := below_alloc (Below.refl wa.heap.size wa) (Obj.cells #[.int .i64 0, .int .i64 0, .int .i64 0, .int .i64 0] 105)
  have NB := Aside0.mk (blk_new wa (Obj.cells #[.int .i64 0, .int .i64 0, .int .i64 0, .int .i64 0] 105))
  refine hK.out _ _ (by obtain ⟨a0, a1, a2, a3, a4, a5⟩ := hHeld; exact ⟨pw_cell_below hba a0, pw_cell_below hba a1, pw_cell_below hba a2, pw_cell_below hba a3, pw_cell_below hba a4, pw_cell_below hba a5⟩) (fun hHeld => ?_)
  clear hK K hba
  simp only [Act.put]
  refine pure_ (i := 12) (N := some 12) (v := ?_) (a' := ?_) (qd 14 8191) rfl rfl (any_of HT_.out (by kernel_rfl)) (fun c a1 w1 h => hp c _ _ _ (by rfl) h) (Or.inl ⟨by rfl, ?_⟩) ?_ ?_
  rotate_left
  · intro w'
    go_simp
    with_reducible rfl
  rotate_left
  · simp only [Act.put, qa, qb, qc, i64_w, i32_w]
    rfl
  refine last_ (i := 13) (N := none) (qd 14 16383) rfl rfl (one_of HT_.out (by kernel_rfl)) (by decide) (fun K hK => ?_)
  with_reducible refine row_ ?hw ?hN 105 (.tmp 13) (.tmp 186) ?ho wa.heap.size #[.int .i64 f0, .int .i64 f1, .int .i64 f2, .int .i64 f3] ?hx ?hy 105 #[.int .i64 0, .int .i64 0, .int .i64 0, .int .i64 0] NB.out ?hi ?hold ?h1 ?_
  (case hw => rfl)
  (case hN => rfl)
  (case ho => rfl)
  (case hx => simp [Act.eval, sz])
  (case hy => simp [Act.eval, sz])
  (case hi => exact I105.out)
  (case hold => rfl)
  (case h1 => simp [Value.oneCell'])
  refine hK.out _ _ ?_
  have hbb : Below wa.heap.size wa ((wa.alloc (Obj.cells #[.int .i64 0, .int .i64 0, .int .i64 0, .int .i64 0] 105)).setRow wa.heap.size #[.int .i64 f0, .int .i64 f1, .int .i64 f2, .int .i64 f3]) := below_setRow (below_alloc (Below.refl _ _) _) (Nat.le_refl _) _
  have BX : ((wa.alloc (Obj.cells #[.int .i64 0, .int .i64 0, .int .i64 0, .int .i64 0] 105)).setRow wa.heap.size #[.int .i64 f0, .int .i64 f1, .int .i64 f2, .int .i64 f3]).heap[wa.heap.size]? = some (.cells #[.int .i64 f0, .int .i64 f1, .int .i64 f2, .int .i64 f3] 105 (0, 0)) := setRow_heap _ _ _ _ _ _ NB.out
  clear hK K
  refine done_ (done_of HT_.out (by kernel_rfl)) ?_
  have hb2 := below_step HB.out hbb
  rw [HZ.out] at hb2 BX ⊢
  refine hQ _ _ ?_ hb2 BX
  (try simp only [Act.put])
  exact ⟨by simp [sz], by simp [df], by simp [sz, e0], by simp [sz, e1], by simp [sz, e2], by simp [sz, e68], by simp [sz, e69], by simp [sz, e6], by simp [sz, e7], by simp [sz, e8], by simp [sz, e9], by simp [sz], by simp [sz]⟩
end Go.Proofs.Ytipkhaicjjeieaa.V
