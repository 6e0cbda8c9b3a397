/- Walks of the reference's search: words for its rounds, and regions 7, 9, 10, 11. -/
import Derived.Test.YtipkhaicjjeieaaKSShRa
namespace Go.Proofs.Ytipkhaicjjeieaa.V
set_option linter.unusedSimpArgs false
set_option linter.unusedVariables false
open Go.RowKit Go.Proofs.YtipkhaicjjeieaaW.PrintWords Go.Proofs.YtipkhaicjjeieaaW.PrintLast Go.Proofs.YtipkhaicjjeieaaW.PrintMore
attribute [local go_sem] max2_int min2_int max_two min_two
structure Ts (a : Act) (A0 : Option Addr) (nj c0 b0 b1 b2 : Nat) (wh : Bool) (i : Nat) (v9 v10 v11 v12 : Value) : Prop where
  sz : a.tmps.size = 150
  df : a.defers = []
  e1 : a.tmps[1]'(by omega) = .slice A0 nj c0
  e3 : a.tmps[3]'(by omega) = .pointer (some ⟨b0, 0, none⟩)
  e5 : a.tmps[5]'(by omega) = .pointer (some ⟨b1, 0, none⟩)
  e6 : a.tmps[6]'(by omega) = .pointer (some ⟨b2, 0, none⟩)
  e7 : a.tmps[7]'(by omega) = .bool wh
  e8 : a.tmps[8]'(by omega) = .int .i64 (i : Int)
  e9 : a.tmps[9]'(by omega) = v9
  e10 : a.tmps[10]'(by omega) = v10
  e11 : a.tmps[11]'(by omega) = v11
  e12 : a.tmps[12]'(by omega) = v12
def sp7T : Bool × List (List Nat × List Nat) := (true, [([], []), ([0], [0]), ([], []), ([1, 2], [1, 2]), ([3], [3]), ([], []), ([], []), ([5, 6], [5, 6]), ([7], [7]), ([8], [8]), ([4, 9], [4, 9])])
def sp7B : List Nat := [0, 1, 0, 7, 15, 0, 0, 96, 224, 480, 1023]
theorem sp7tab : rtab .any (opsOf Try.f34 7) = sp7T := by kernel_rfl
theorem sp7bits : waitsOk sp7T.2 sp7B = true := by kernel_rfl
set_option maxHeartbeats 1000000 in
set_option maxRecDepth 100000 in
theorem rs_r7 {Q : Exit → Act → World → Prop} (hp : QuietP Q) (a : Act) (W : World) (a0 : Addr) (nj c0 b0 b1 b2 : Nat) (wh : Bool) (i k m cd cj : Nat) (ad : Addr) (Aj : Option Addr) (v9 v10 v11 v12 : Value) (T : Ts a (some a0) nj c0 b0 b1 b2 wh i v9 v10 v11 v12)
    (hi : (i : Int) < (nj : Int)) (q0 : W.cell? ⟨b0, 2, none⟩ = some (.slice (some ad) nj cd)) (q1 : W.cell? (ad.add i) = some (.int .i64 (k : Int))) (q2 : W.cell? (a0.add i) = some (.slice Aj m cj))
    (hQ : ∀ a', Ts a' (some a0) nj c0 b0 b1 b2 wh i v9 v10 v11 v12 → a'.tmps[40]? = some (.bool ((k : Int) == (m : Int))) → Q .normal a' W.drew) : (cR Try.f34 7).wp Try.prog Q a W := by
  conv => arg 2; whnf
  obtain ⟨sz, df, e1, e3, e5, e6, e7, e8, e9, e10, e11, e12⟩ := T
  have HQ := Aside0.mk hQ
  clear hQ
  refine start_ (n := 11) (S := fun w' => w'.cell? ⟨b0, 2, none⟩ = some (.slice (some ad) nj cd) ∧ w'.cell? (ad.add i) = some (.int .i64 (k : Int)) ∧ w'.cell? (a0.add i) = some (.slice Aj m cj)) (ds := []) #[false, false, false, false, false, false, false, false, false, false, false] (by kernel_rfl) rfl rfl ⟨q0, q1, q2⟩ (fun hHeld => ?_)
  refine with_tabW sp7tab sp7bits (fun HT_ HW_ => ?_)
  clear q0 q1 q2
  generalize W.drew = wa at HQ hHeld ⊢
  refine pure_ (i := 0) (N := some 30) (v := ?_) (a' := ?_) (qd 11 1) rfl rfl (any_of HT_.out (by kernel_rfl)) (fun c a1 w1 h => hp c _ _ _ (by rfl) h) (Or.inl ⟨by rfl, ?_⟩) ?_ ?_
  rotate_left
  · intro w'
    go_simp
    with_reducible rfl
  rotate_left
  · simp only [Act.put, qa, qb, qc, i64_w, i32_w]
    rfl
  refine pure_ (i := 2) (N := some 32) (v := ?_) (a' := ?_) (qd 11 5) rfl rfl (any_of HT_.out (by kernel_rfl)) (fun c a1 w1 h => hp c _ _ _ (by rfl) h) (Or.inl ⟨by rfl, ?_⟩) ?_ ?_
  rotate_left
  · intro w'
    go_simp
    with_reducible rfl
  rotate_left
  · simp only [Act.put, qa, qb, qc, i64_w, i32_w]
    rfl
  refine pure_ (i := 5) (N := some 35) (v := ?_) (a' := ?_) (qd 11 37) rfl rfl (any_of HT_.out (by kernel_rfl)) (fun c a1 w1 h => hp c _ _ _ (by rfl) h) (Or.inl ⟨by rfl, ?_⟩) ?_ ?_
  rotate_left
  · intro w'
    go_simp
    with_reducible rfl
  rotate_left
  · simp only [Act.put, qa, qb, qc, i64_w, i32_w]
    rfl
  refine pure_ (i := 6) (N := some 36) (v := ?_) (a' := ?_) (qd 11 101) rfl rfl (any_of HT_.out (by kernel_rfl)) (fun c a1 w1 h => hp c _ _ _ (by rfl) h) (Or.inl ⟨by rfl, ?_⟩) ?_ ?_
  rotate_left
  · intro w'
    go_simp
    with_reducible rfl
  rotate_left
  · simp only [Act.put, qa, qb, qc, i64_w, i32_w]
    rfl
  refine pure_ (i := 7) (N := some 37) (v := ?_) (a' := ?_) (qd 11 229) rfl rfl (any_of HT_.out (by kernel_rfl)) (fun c a1 w1 h => hp c _ _ _ (by rfl) h) (Or.inl ⟨by rfl, ?_⟩) ?_ ?_
  rotate_left
  · intro w'
    go_simp
    with_reducible rfl
  rotate_left
  · simp only [Act.put, qa, qb, qc, i64_w, i32_w]
    rfl
  refine take_ (i := 1) (N := some 31) (v := ?_) (a' := ?_) (qd 11 231) rfl rfl (take_ofW HT_.out HW_.out (by kernel_rfl)) (fun c a1 w1 h => hp c _ _ _ (by rfl) h) (Or.inl ⟨by rfl, ?_⟩) hHeld ?_ ?_
  rotate_left
  · rintro w' ⟨s0, s1, s2⟩
    go_simp
    with_reducible rfl
  rotate_left
  · simp only [Act.put, qa, qb, qc, i64_w, i32_w]
    rfl
  refine pure_ (i := 3) (N := some 33) (v := ?_) (a' := ?_) (qd 11 239) rfl rfl (any_of HT_.out (by kernel_rfl)) (fun c a1 w1 h => hp c _ _ _ (by rfl) h) (Or.inl ⟨by rfl, ?_⟩) ?_ ?_
  rotate_left
  · intro w'
    go_simp
    with_reducible rfl
  rotate_left
  · simp only [Act.put, qa, qb, qc, i64_w, i32_w]
    rfl
  refine take_ (i := 4) (N := some 34) (v := ?_) (a' := ?_) (qd 11 255) rfl rfl (take_ofW HT_.out HW_.out (by kernel_rfl)) (fun c a1 w1 h => hp c _ _ _ (by rfl) h) (Or.inl ⟨by rfl, ?_⟩) hHeld ?_ ?_
  rotate_left
  · rintro w' ⟨s0, s1, s2⟩
    go_simp
    with_reducible rfl
  rotate_left
  · simp only [Act.put, qa, qb, qc, i64_w, i32_w]
    rfl
  refine take_ (i := 8) (N := some 38) (v := ?_) (a' := ?_) (qd 11 511) rfl rfl (take_ofW HT_.out HW_.out (by kernel_rfl)) (fun c a1 w1 h => hp c _ _ _ (by rfl) h) (Or.inl ⟨by rfl, ?_⟩) hHeld ?_ ?_
  rotate_left
  · rintro w' ⟨s0, s1, s2⟩
    go_simp
    with_reducible rfl
  rotate_left
  · simp only [Act.put, qa, qb, qc, i64_w, i32_w]
    rfl
  refine pure_ (i := 9) (N := some 39) (v := ?_) (a' := ?_) (qd 11 1023) rfl rfl (any_of HT_.out (by kernel_rfl)) (fun c a1 w1 h => hp c _ _ _ (by rfl) h) (Or.inl ⟨by rfl, ?_⟩) ?_ ?_
  rotate_left
  · intro w'
    go_simp
    with_reducible rfl
  rotate_left
  · simp only [Act.put, qa, qb, qc, i64_w, i32_w]
    rfl
  refine pure_ (i := 10) (N := some 40) (v := ?_) (a' := ?_) (qd 11 2047) rfl rfl (any_of HT_.out (by kernel_rfl)) (fun c a1 w1 h => hp c _ _ _ (by rfl) h) (Or.inl ⟨by rfl, ?_⟩) ?_ ?_
  rotate_left
  · intro w'
    go_simp
    with_reducible rfl
  rotate_left
  · simp only [Act.put, qa, qb, qc, i64_w, i32_w]
    rfl
  refine done_ (done_of HT_.out (by kernel_rfl)) ?_
  refine HQ.out _ ?_ ?_
  · exact ⟨by simp [sz], by simp [df], by simp [sz, e1], by simp [sz, e3], by simp [sz, e5], by simp [sz, e6], by simp [sz, e7], by simp [sz, e8], by simp [sz, e9], by simp [sz, e10], by simp [sz, e11], by simp [sz, e12]⟩
  · simp [sz]
def sp9T : Bool × List (List Nat × List Nat) := (true, [([], []), ([0], [0]), ([], []), ([1, 2], [1, 2]), ([3], [3]), ([], []), ([5], [5]), ([], []), ([6, 7], [6, 7]), ([8], [8]), ([4, 9], [4, 9]), ([10, 0, 1, 2, 3, 4, 5, 6, 7, 8, 9, 10], [10])])
def sp9B : List Nat := [0, 1, 0, 7, 15, 0, 32, 0, 224, 480, 1023, 2047]
theorem sp9tab : rtab .any (opsOf Try.f34 9) = sp9T := by kernel_rfl
theorem sp9bits : waitsOk sp9T.2 sp9B = true := by kernel_rfl
set_option maxHeartbeats 1000000 in
set_option maxRecDepth 100000 in
theorem rs_r9 {Q : Exit → Act → World → Prop} (hp : QuietP Q) (a : Act) (W : World) (a0 : Addr) (nj c0 b0 b1 b2 : Nat) (wh : Bool) (i k p fi cd cf : Nat) (ad af : Addr) (v9 v10 v11 v12 : Value) (T : Ts a (some a0) nj c0 b0 b1 b2 wh i v9 v10 v11 v12)
    (hi : (i : Int) < (nj : Int)) (hadd : wrap64 ((fi : Int) + (k : Int)) = (p : Int)) (q0 : W.cell? ⟨b0, 2, none⟩ = some (.slice (some ad) nj cd)) (q1 : W.cell? (ad.add i) = some (.int .i64 (k : Int))) (q2 : W.cell? ⟨b0, 1, none⟩ = some (.slice (some af) nj cf)) (q3 : W.cell? (af.add i) = some (.int .i64 (fi : Int)))
    (hQ : ∀ a', Ts a' (some a0) nj c0 b0 b1 b2 wh i (.int .i64 (p : Int)) v10 v11 v12 → Q .normal a' W.drew) : (cR Try.f34 9).wp Try.prog Q a W := by
  conv => arg 2; whnf
  obtain ⟨sz, df, e1, e3, e5, e6, e7, e8, e9, e10, e11, e12⟩ := T
  have HQ := Aside0.mk hQ
  clear hQ
  refine start_ (n := 12) (S := fun w' => w'.cell? ⟨b0, 2, none⟩ = some (.slice (some ad) nj cd) ∧ w'.cell? (ad.add i) = some (.int .i64 (k : Int)) ∧ w'.cell? ⟨b0, 1, none⟩ = some (.slice (some af) nj cf) ∧ w'.cell? (af.add i) = some (.int .i64 (fi : Int))) (ds := []) #[false, false, false, false, false, false, false, false, false, false, false, false] (by kernel_rfl) rfl rfl ⟨q0, q1, q2, q3⟩ (fun hHeld => ?_)
  refine with_tabW sp9tab sp9bits (fun HT_ HW_ => ?_)
  clear q0 q1 q2 q3
  generalize W.drew = wa at HQ hHeld ⊢
  refine pure_ (i := 0) (N := some 41) (v := ?_) (a' := ?_) (qd 12 1) rfl rfl (any_of HT_.out (by kernel_rfl)) (fun c a1 w1 h => hp c _ _ _ (by rfl) h) (Or.inl ⟨by rfl, ?_⟩) ?_ ?_
  rotate_left
  · intro w'
    go_simp
    with_reducible rfl
  rotate_left
  · simp only [Act.put, qa, qb, qc, i64_w, i32_w]
    rfl
  refine pure_ (i := 2) (N := some 43) (v := ?_) (a' := ?_) (qd 12 5) rfl rfl (any_of HT_.out (by kernel_rfl)) (fun c a1 w1 h => hp c _ _ _ (by rfl) h) (Or.inl ⟨by rfl, ?_⟩) ?_ ?_
  rotate_left
  · intro w'
    go_simp
    with_reducible rfl
  rotate_left
  · simp only [Act.put, qa, qb, qc, i64_w, i32_w]
    rfl
  refine pure_ (i := 5) (N := some 46) (v := ?_) (a' := ?_) (qd 12 37) rfl rfl (any_of HT_.out (by kernel_rfl)) (fun c a1 w1 h => hp c _ _ _ (by rfl) h) (Or.inl ⟨by rfl, ?_⟩) ?_ ?_
  rotate_left
  · intro w'
    go_simp
    with_reducible rfl
  rotate_left
  · simp only [Act.put, qa, qb, qc, i64_w, i32_w]
    rfl
  refine pure_ (i := 7) (N := some 48) (v := ?_) (a' := ?_) (qd 12 165) rfl rfl (any_of HT_.out (by kernel_rfl)) (fun c a1 w1 h => hp c _ _ _ (by rfl) h) (Or.inl ⟨by rfl, ?_⟩) ?_ ?_
  rotate_left
  · intro w'
    go_simp
    with_reducible rfl
  rotate_left
  · simp only [Act.put, qa, qb, qc, i64_w, i32_w]
    rfl
  refine take_ (i := 1) (N := some 42) (v := ?_) (a' := ?_) (qd 12 167) rfl rfl (take_ofW HT_.out HW_.out (by kernel_rfl)) (fun c a1 w1 h => hp c _ _ _ (by rfl) h) (Or.inl ⟨by rfl, ?_⟩) hHeld ?_ ?_
  rotate_left
  · rintro w' ⟨s0, s1, s2, s3⟩
    go_simp
    with_reducible rfl
  rotate_left
  · simp only [Act.put, qa, qb, qc, i64_w, i32_w]
    rfl
  refine pure_ (i := 3) (N := some 44) (v := ?_) (a' := ?_) (qd 12 175) rfl rfl (any_of HT_.out (by kernel_rfl)) (fun c a1 w1 h => hp c _ _ _ (by rfl) h) (Or.inl ⟨by rfl, ?_⟩) ?_ ?_
  rotate_left
  · intro w'
    go_simp
    with_reducible rfl
  rotate_left
  · simp only [Act.put, qa, qb, qc, i64_w, i32_w]
    rfl
  refine take_ (i := 4) (N := some 45) (v := ?_) (a' := ?_) (qd 12 191) rfl rfl (take_ofW HT_.out HW_.out (by kernel_rfl)) (fun c a1 w1 h => hp c _ _ _ (by rfl) h) (Or.inl ⟨by rfl, ?_⟩) hHeld ?_ ?_
  rotate_left
  · rintro w' ⟨s0, s1, s2, s3⟩
    go_simp
    with_reducible rfl
  rotate_left
  · simp only [Act.put, qa, qb, qc, i64_w, i32_w]
    rfl
  refine take_ (i := 6) (N := some 47) (v := ?_) (a' := ?_) (qd 12 255) rfl rfl (take_ofW HT_.out HW_.out (by kernel_rfl)) (fun c a1 w1 h => hp c _ _ _ (by rfl) h) (Or.inl ⟨by rfl, ?_⟩) hHeld ?_ ?_
  rotate_left
  · rintro w' ⟨s0, s1, s2, s3⟩
    go_simp
    with_reducible rfl
  rotate_left
  · simp only [Act.put, qa, qb, qc, i64_w, i32_w]
    rfl
  refine pure_ (i := 8) (N := some 49) (v := ?_) (a' := ?_) (qd 12 511) rfl rfl (any_of HT_.out (by kernel_rfl)) (fun c a1 w1 h => hp c _ _ _ (by rfl) h) (Or.inl ⟨by rfl, ?_⟩) ?_ ?_
  rotate_left
  · intro w'
    go_simp
    with_reducible rfl
  rotate_left
  · simp only [Act.put, qa, qb, qc, i64_w, i32_w]
    rfl
  refine take_ (i := 9) (N := some 50) (v := ?_) (a' := ?_) (qd 12 1023) rfl rfl (take_ofW HT_.out HW_.out (by kernel_rfl)) (fun c a1 w1 h => hp c _ _ _ (by rfl) h) (Or.inl ⟨by rfl, ?_⟩) hHeld ?_ ?_
  rotate_left
  · rintro w' ⟨s0, s1, s2, s3⟩
    go_simp
    with_reducible rfl
  rotate_left
  · simp only [Act.put, qa, qb, qc, i64_w, i32_w]
    rfl
  refine pure_ (i := 10) (N := some 51) (v := ?_) (a' := ?_) (qd 12 2047) rfl rfl (any_of HT_.out (by kernel_rfl)) (fun c a1 w1 h => hp c _ _ _ (by rfl) h) (Or.inl ⟨by rfl, ?_⟩) ?_ ?_
  rotate_left
  · intro w'
    go_simp
    with_reducible rfl
  rotate_left
  · simp only [Act.put, qa, qb, qc, i64_w, i32_w]
    rfl
  refine pure_ (i := 11) (N := some 9) (v := ?_) (a' := ?_) (qd 12 4095) rfl rfl (any_of HT_.out (by kernel_rfl)) (fun c a1 w1 h => hp c _ _ _ (by rfl) h) (Or.inl ⟨by rfl, ?_⟩) ?_ ?_
  rotate_left
  · intro w'
    go_simp
    with_reducible rfl
  rotate_left
  · simp only [Act.put, qa, qb, qc, i64_w, i32_w]
    rfl
  refine done_ (done_of HT_.out (by kernel_rfl)) ?_
  refine HQ.out _ ?_
  exact ⟨by simp [sz], by simp [df], by simp [sz, e1], by simp [sz, e3], by simp [sz, e5], by simp [sz, e6], by simp [sz, e7], by simp [sz, e8], by simp [sz], by simp [sz, e10], by simp [sz, e11], by simp [sz, e12]⟩
set_option maxHeartbeats 1000000 in
set_option maxRecDepth 100000 in
theorem rs_r10 {Q : Exit → Act → World → Prop} (a : Act) (W : World) (A0 : Option Addr) (nj c0 b0 b1 b2 : Nat) (wh : Bool) (i p n ct : Nat) (at_ : Addr) (x0 x1 : Int) (v10 v11 v12 : Value) (T : Ts a A0 nj c0 b0 b1 b2 wh i (.int .i64 (p : Int)) v10 v11 v12)
    (hpn : (p : Int) < (n : Int)) (q0 : W.cell? ⟨b0, 0, none⟩ = some (.slice (some at_) n ct)) (q1 : W.cell? (at_.add (p * 2)) = some (.int .i64 x0)) (q2 : W.cell? ⟨(at_.add (p * 2)).block, (at_.add (p * 2)).off + 1, none⟩ = some (.int .i64 x1))
    (hQ : ∀ a', Ts a' A0 nj c0 b0 b1 b2 wh i (.int .i64 (p : Int)) (.pointer (some ⟨W.heap.size, 0, none⟩)) v11 v12 → Q .normal a' (W.alloc (Obj.cells #[.int .i64 x0, .int .i64 x1] 40))) : (cR Try.f34 10).wp Try.prog Q a W := by
  conv => arg 2; whnf
  obtain ⟨sz, df, e1, e3, e5, e6, e7, e8, e9, e10, e11, e12⟩ := T
  have HQ := Aside0.mk hQ
  clear hQ
  go_wp2
  refine HQ.out _ ?_
  exact ⟨by simp [sz], by simp [df], by simp [sz, e1], by simp [sz, e3], by simp [sz, e5], by simp [sz, e6], by simp [sz, e7], by simp [sz, e8], by simp [sz, e9], by simp [sz], by simp [sz, e11], by simp [sz, e12]⟩
def sp11T : Bool × List (List Nat × List Nat) := (true, [([], []), ([0], [0]), ([], []), ([1, 2], [1, 2]), ([3], [3]), ([], []), ([5], [5]), ([], []), ([7], [7]), ([6, 8], [6, 8]), ([9], [9]), ([4, 10], [4, 10]), ([11, 0, 1, 2, 3, 4, 5, 6, 7, 8, 9, 10, 11], [11])])
def sp11B : List Nat := [0, 1, 0, 7, 15, 0, 32, 0, 128, 480, 992, 2047, 4095]
theorem sp11tab : rtab .any (opsOf Try.f34 11) = sp11T := by kernel_rfl
theorem sp11bits : waitsOk sp11T.2 sp11B = true := by kernel_rfl
set_option maxHeartbeats 1000000 in
set_option maxRecDepth 100000 in
theorem rs_r11 {Q : Exit → Act → World → Prop} (hp : QuietP Q) (a : Act) (W : World) (A0 : Option Addr) (nj c0 b0 b1 b2 bx : Nat) (wh : Bool) (i mc cj cm : Nat) (aj am : Addr) (u f : Int) (v9 v11 v12 : Value) (T : Ts a A0 nj c0 b0 b1 b2 wh i v9 (.pointer (some ⟨bx, 0, none⟩)) v11 v12)
    (hi : (i : Int) < (nj : Int)) (hmc : (mc : Int) < 4) (q0 : W.cell? ⟨b0, 3, none⟩ = some (.slice (some aj) nj cj)) (q1 : W.cell? (aj.add i) = some (.int .i64 u)) (q2 : W.cell? ⟨b0, 4, none⟩ = some (.slice (some am) 4 cm)) (q3 : W.cell? ⟨bx, 0, none⟩ = some (.int .i64 (mc : Int))) (q4 : W.cell? (am.add mc) = some (.int .i64 f))
    (hQ : ∀ a', Ts a' A0 nj c0 b0 b1 b2 wh i v9 (.pointer (some ⟨bx, 0, none⟩)) (.int .i64 (mx u f)) v12 → Q .normal a' W.drew) : (cR Try.f34 11).wp Try.prog Q a W := by
  conv => arg 2; whnf
  obtain ⟨sz, df, e1, e3, e5, e6, e7, e8, e9, e10, e11, e12⟩ := T
  have HQ := Aside0.mk hQ
  clear hQ
  refine start_ (n := 13) (S := fun w' => w'.cell? ⟨b0, 3, none⟩ = some (.slice (some aj) nj cj) ∧ w'.cell? (aj.add i) = some (.int .i64 u) ∧ w'.cell? ⟨b0, 4, none⟩ = some (.slice (some am) 4 cm) ∧ w'.cell? ⟨bx, 0, none⟩ = some (.int .i64 (mc : Int)) ∧ w'.cell? (am.add mc) = some (.int .i64 f)) (ds := []) #[false, false, false, false, false, false, false, false, false, false, false, false, false] (by kernel_rfl) rfl rfl ⟨q0, q1, q2, q3, q4⟩ (fun hHeld => ?_)
  refine with_tabW sp11tab sp11bits (fun HT_ HW_ => ?_)
  clear q0 q1 q2 q3 q4
  generalize W.drew = wa at HQ hHeld ⊢
  refine pure_ (i := 0) (N := some 57) (v := ?_) (a' := ?_) (qd 13 1) rfl rfl (any_of HT_.out (by kernel_rfl)) (fun c a1 w1 h => hp c _ _ _ (by rfl) h) (Or.inl ⟨by rfl, ?_⟩) ?_ ?_
  rotate_left
  · intro w'
    go_simp
    with_reducible rfl
  rotate_left
  · simp only [Act.put, qa, qb, qc, i64_w, i32_w]
    rfl
  refine pure_ (i := 2) (N := some 59) (v := ?_) (a' := ?_) (qd 13 5) rfl rfl (any_of HT_.out (by kernel_rfl)) (fun c a1 w1 h => hp c _ _ _ (by rfl) h) (Or.inl ⟨by rfl, ?_⟩) ?_ ?_
  rotate_left
  · intro w'
    go_simp
    with_reducible rfl
  rotate_left
  · simp only [Act.put, qa, qb, qc, i64_w, i32_w]
    rfl
  refine pure_ (i := 5) (N := some 62) (v := ?_) (a' := ?_) (qd 13 37) rfl rfl (any_of HT_.out (by kernel_rfl)) (fun c a1 w1 h => hp c _ _ _ (by rfl) h) (Or.inl ⟨by rfl, ?_⟩) ?_ ?_
  rotate_left
  · intro w'
    go_simp
    with_reducible rfl
  rotate_left
  · simp only [Act.put, qa, qb, qc, i64_w, i32_w]
    rfl
  refine pure_ (i := 7) (N := some 64) (v := ?_) (a' := ?_) (qd 13 165) rfl rfl (any_of HT_.out (by kernel_rfl)) (fun c a1 w1 h => hp c _ _ _ (by rfl) h) (Or.inl ⟨by rfl, ?_⟩) ?_ ?_
  rotate_left
  · intro w'
    go_simp
    with_reducible rfl
  rotate_left
  · simp only [Act.put, qa, qb, qc, i64_w, i32_w]
    rfl
  refine take_ (i := 1) (N := some 58) (v := ?_) (a' := ?_) (qd 13 167) rfl rfl (take_ofW HT_.out HW_.out (by kernel_rfl)) (fun c a1 w1 h => hp c _ _ _ (by rfl) h) (Or.inl ⟨by rfl, ?_⟩) hHeld ?_ ?_
  rotate_left
  · rintro w' ⟨s0, s1, s2, s3, s4⟩
    go_simp
    with_reducible rfl
  rotate_left
  · simp only [Act.put, qa, qb, qc, i64_w, i32_w]
    rfl
  refine pure_ (i := 3) (N := some 60) (v := ?_) (a' := ?_) (qd 13 175) rfl rfl (any_of HT_.out (by kernel_rfl)) (fun c a1 w1 h => hp c _ _ _ (by rfl) h) (Or.inl ⟨by rfl, ?_⟩) ?_ ?_
  rotate_left
  · intro w'
    go_simp
    with_reducible rfl
  rotate_left
  · simp only [Act.put, qa, qb, qc, i64_w, i32_w]
    rfl
  refine take_ (i := 4) (N := some 61) (v := ?_) (a' := ?_) (qd 13 191) rfl rfl (take_ofW HT_.out HW_.out (by kernel_rfl)) (fun c a1 w1 h => hp c _ _ _ (by rfl) h) (Or.inl ⟨by rfl, ?_⟩) hHeld ?_ ?_
  rotate_left
  · rintro w' ⟨s0, s1, s2, s3, s4⟩
    go_simp
    with_reducible rfl
  rotate_left
  · simp only [Act.put, qa, qb, qc, i64_w, i32_w]
    rfl
  refine take_ (i := 6) (N := some 63) (v := ?_) (a' := ?_) (qd 13 255) rfl rfl (take_ofW HT_.out HW_.out (by kernel_rfl)) (fun c a1 w1 h => hp c _ _ _ (by rfl) h) (Or.inl ⟨by rfl, ?_⟩) hHeld ?_ ?_
  rotate_left
  · rintro w' ⟨s0, s1, s2, s3, s4⟩
    go_simp
    with_reducible rfl
  rotate_left
  · simp only [Act.put, qa, qb, qc, i64_w, i32_w]
    rfl
  refine take_ (i := 8) (N := some 65) (v := ?_) (a' := ?_) (qd 13 511) rfl rfl (take_ofW HT_.out HW_.out (by kernel_rfl)) (fun c a1 w1 h => hp c _ _ _ (by rfl) h) (Or.inl ⟨by rfl, ?_⟩) hHeld ?_ ?_
  rotate_left
  · rintro w' ⟨s0, s1, s2, s3, s4⟩
    go_simp
    with_reducible rfl
  rotate_left
  · simp only [Act.put, qa, qb, qc, i64_w, i32_w]
    rfl
  refine pure_ (i := 9) (N := some 66) (v := ?_) (a' := ?_) (qd 13 1023) rfl rfl (any_of HT_.out (by kernel_rfl)) (fun c a1 w1 h => hp c _ _ _ (by rfl) h) (Or.inl ⟨by rfl, ?_⟩) ?_ ?_
  rotate_left
  · intro w'
    go_simp
    with_reducible rfl
  rotate_left
  · simp only [Act.put, qa, qb, qc, i64_w, i32_w]
    rfl
  refine take_ (i := 10) (N := some 67) (v := ?_) (a' := ?_) (qd 13 2047) rfl rfl (take_ofW HT_.out HW_.out (by kernel_rfl)) (fun c a1 w1 h => hp c _ _ _ (by rfl) h) (Or.inl ⟨by rfl, ?_⟩) hHeld ?_ ?_
  rotate_left
  · rintro w' ⟨s0, s1, s2, s3, s4⟩
    go_simp
    with_reducible rfl
  rotate_left
  · simp only [Act.put, qa, qb, qc, i64_w, i32_w]
    rfl
  refine pure_ (i := 11) (N := some 68) (v := ?_) (a' := ?_) (qd 13 4095) rfl rfl (any_of HT_.out (by kernel_rfl)) (fun c a1 w1 h => hp c _ _ _ (by rfl) h) (Or.inl ⟨by rfl, ?_⟩) ?_ ?_
  rotate_left
  · intro w'
    go_simp
    with_reducible rfl
  rotate_left
  · simp only [Act.put, qa, qb, qc, i64_w, i32_w]
    rfl
  refine pure_ (i := 12) (N := some 11) (v := ?_) (a' := ?_) (qd 13 8191) rfl rfl (any_of HT_.out (by kernel_rfl)) (fun c a1 w1 h => hp c _ _ _ (by rfl) h) (Or.inl ⟨by rfl, ?_⟩) ?_ ?_
  rotate_left
  · intro w'
    go_simp
    with_reducible rfl
  rotate_left
  · simp only [Act.put, qa, qb, qc, i64_w, i32_w]
    rfl
  refine done_ (done_of HT_.out (by kernel_rfl)) ?_
  refine HQ.out _ ?_
  exact ⟨by simp [sz], by simp [df], by simp [sz, e1], by simp [sz, e3], by simp [sz, e5], by simp [sz, e6], by simp [sz, e7], by simp [sz, e8], by simp [sz, e9], by simp [sz, e10], by simp [sz, mx], by simp [sz, e12]⟩
end Go.Proofs.Ytipkhaicjjeieaa.V
