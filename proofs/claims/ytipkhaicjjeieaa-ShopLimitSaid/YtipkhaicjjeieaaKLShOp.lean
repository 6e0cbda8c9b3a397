/- Walks of the shop's functions: the best schedule (optimum). -/
import Derived.Test.YtipkhaicjjeieaaKLShY
namespace Go.Proofs.Ytipkhaicjjeieaa.V
set_option linter.unusedSimpArgs false
set_option linter.unusedVariables false
open Go.RowKit Go.Proofs.YtipkhaicjjeieaaW.PrintWords Go.Proofs.YtipkhaicjjeieaaW.PrintLast Go.Proofs.YtipkhaicjjeieaaW.PrintMore
structure Mk3 (w0 w : World) (nj n : Nat) (A B C : Option Nat) : Prop where
  below : Below w0.heap.size w0 w
  a : ∀ k, A = some k → w0.heap.size ≤ k ∧ k < w.heap.size ∧ w.heap[k]? = some (.cells (rowI (List.replicate nj 0)) 3 (0, 0))
  b : ∀ k, B = some k → w0.heap.size ≤ k ∧ k < w.heap.size ∧ w.heap[k]? = some (.cells (rowI (List.replicate nj 0)) 3 (0, 0))
  c : ∀ k, C = some k → w0.heap.size ≤ k ∧ k < w.heap.size ∧ w.heap[k]? = some (.cells (rowI (List.replicate n 0)) 3 (0, 0))
  ab : ∀ k, A = some k → B ≠ some k
  ac : ∀ k, A = some k → C ≠ some k
  bc : ∀ k, B = some k → C ≠ some k
section
variable {w0 w : World} {nj n : Nat} {A B C : Option Nat}
theorem Mk3.old {X : Option Nat} {l : List Int} (h : ∀ k, X = some k → w0.heap.size ≤ k ∧ k < w.heap.size ∧ w.heap[k]? = some (.cells (rowI l) 3 (0, 0))) (o : Obj) : ∀ k, X = some k → w0.heap.size ≤ k ∧ k < (w.alloc o).heap.size ∧ (w.alloc o).heap[k]? = some (.cells (rowI l) 3 (0, 0)) := fun k hk => by
  obtain ⟨h1, h2, h3⟩ := h k hk
  exact ⟨h1, by simp; omega, blk_alloc h3 o⟩
theorem Mk3.new (h : Below w0.heap.size w0 w) (l : List Int) : ∀ k, some w.heap.size = some k → w0.heap.size ≤ k ∧ k < (w.alloc (.cells (rowI l) 3)).heap.size ∧ (w.alloc (.cells (rowI l) 3)).heap[k]? = some (.cells (rowI l) 3 (0, 0)) := fun k hk => by
  cases hk
  exact ⟨h.size, by simp, blk_new w _⟩
theorem Mk3.ne {X : Option Nat} {l : List Int} (h : ∀ k, X = some k → w0.heap.size ≤ k ∧ k < w.heap.size ∧ w.heap[k]? = some (.cells (rowI l) 3 (0, 0))) : ∀ k, some w.heap.size = some k → X ≠ some k := fun k hk e => by
  cases hk
  have := (h _ e).2.1
  omega
theorem Mk3.ne' {X : Option Nat} {l : List Int} (h : ∀ k, X = some k → w0.heap.size ≤ k ∧ k < w.heap.size ∧ w.heap[k]? = some (.cells (rowI l) 3 (0, 0))) : ∀ k, X = some k → some w.heap.size ≠ some k := fun k hk e => Mk3.ne h k e hk
theorem Mk3.mkA (h : Mk3 w0 w nj n none B C) : Mk3 w0 (w.alloc (.cells (rowI (List.replicate nj 0)) 3)) nj n (some w.heap.size) B C :=
  ⟨below_alloc h.below _, Mk3.new h.below _, Mk3.old h.b _, Mk3.old h.c _, Mk3.ne h.b, Mk3.ne h.c, h.bc⟩
theorem Mk3.mkB (h : Mk3 w0 w nj n A none C) : Mk3 w0 (w.alloc (.cells (rowI (List.replicate nj 0)) 3)) nj n A (some w.heap.size) C :=
  ⟨below_alloc h.below _, Mk3.old h.a _, Mk3.new h.below _, Mk3.old h.c _, Mk3.ne' h.a, h.ac, Mk3.ne h.c⟩
theorem Mk3.mkC (h : Mk3 w0 w nj n A B none) : Mk3 w0 (w.alloc (.cells (rowI (List.replicate n 0)) 3)) nj n A B (some w.heap.size) :=
  ⟨below_alloc h.below _, Mk3.old h.a _, Mk3.old h.b _, Mk3.new h.below _, h.ab, Mk3.ne' h.a, Mk3.ne' h.b⟩
end
def S0 (J : List (List S40)) (n : Nat) : Sst := ⟨List.replicate J.length 0, List.replicate J.length 0, List.replicate 4 0, List.replicate n 0, none, 0⟩
theorem Mk3.srch {w0 w : World} {J : List (List S40)} {nj n gn gj gt : Nat} (h : Mk3 w0 w nj n (some gn) (some gj) (some gt)) (g : Nat) (e : nj = J.length) : Srch w0 w.heap.size gn gj gt g J.length n (w.alloc (Obj.cells #[.pointer (some ⟨g, 0, none⟩), .slice (some ⟨gn, 0, none⟩) nj nj, .slice (some ⟨gj, 0, none⟩) nj nj, .int .i64 0, .int .i64 0, .int .i64 0, .int .i64 0, .slice (some ⟨gt, 0, none⟩) n n, .slice none 0 0, .int .i64 0] 107)) (S0 J n) := by
  subst e
  obtain ⟨a1, a2, a3⟩ := h.a _ rfl
  obtain ⟨b1, b2, b3⟩ := h.b _ rfl
  obtain ⟨c1, c2, c3⟩ := h.c _ rfl
  have ab := h.ab _ rfl
  have ac := h.ac _ rfl
  have bc := h.bc _ rfl
  simp only [ne_eq, Option.some.injEq] at ab ac bc
  exact ⟨below_alloc h.below _, ⟨h.below.size, a1, b1, c1⟩, by omega, by simp [S0], ⟨_, blk_new w _, rfl⟩, blk_alloc a3 _, blk_alloc b3 _, blk_alloc c3 _⟩
theorem gi_S0 (J : List (List S40)) (n : Nat) : Gi J (S0 J n) := by
  refine ⟨fun j _ => ⟨0, ?_, Nat.zero_le _⟩, fun b h => by cases h⟩
  simp only [S0, List.getD_eq_getElem?_getD, List.getElem?_replicate]
  split <;> rfl
def OptPost (w : World) (R : Sst) (e : Ending) (w' : World) : Prop :=
  Below w.heap.size w w' ∧ ∃ v, e = .returned (.tuple #[v, .int .i64 R.least]) ∧ match R.best with
  | none => v = .slice none 0 0
  | some l => Kd.R (Kd.int .i64) 3 w' w.heap.size (fun _ => True) v l
def op1T : Bool × List (List Nat × List Nat) := (true, [([], []), ([], []), ([1], [1]), ([2], [2]), ([3], [3]), ([4], [4]), ([5, 5], [5]), ([], []), ([7], [7]), ([8], [8]), ([9], [9]), ([10], [10]), ([11, 11], [11]), ([], []), ([13], [13]), ([14], [14]), ([15], [15]), ([16], [16]), ([17, 17], [17]), ([0, 6, 12, 18], [0, 6, 12, 18]), ([19], [19]), ([20, 0, 1, 2, 3, 4, 5, 6, 7, 8, 9, 10, 11, 12, 13, 14, 15, 16, 17, 18, 19, 20], [20])])
def op1B : List Nat := [0, 0, 2, 6, 14, 30, 62, 0, 128, 384, 896, 1920, 3968, 0, 8192, 24576, 57344, 122880, 253952, 524287, 1048575, 2097151]
theorem op1tab : rtab .any (opsOf Try.f32 1) = op1T := by kernel_rfl
theorem op1bits : waitsOk op1T.2 op1B = true := by kernel_rfl
def op3T : Bool × List (List Nat × List Nat) := (true, [([], []), ([0], [0]), ([1], [1]), ([2], [2]), ([], []), ([4], [4]), ([5], [5]), ([6], [6]), ([3, 0, 1, 2, 3], [3]), ([7, 8, 0, 1, 2, 3, 4, 5, 6, 7, 8], [7])])
def op3B : List Nat := [0, 1, 3, 7, 0, 16, 48, 112, 15, 511]
theorem op3tab : rtab .any (opsOf Try.f32 3) = op3T := by kernel_rfl
theorem op3bits : waitsOk op3T.2 op3B = true := by kernel_rfl
set_option maxHeartbeats 2000000 in
set_option maxRecDepth 100000 in
theorem shop_optimum.calls (g : Nat) (J : List (List S40)) (w : World) (n : Nat) (hs : IsShop w g J) (hn : n = (tasksN J J.length).length) (h10 : n ≤ 10) (h4 : J.length ≤ 4) (hgo : ∀ gs gn gj gt, GoOK w gs gn gj gt g J n n) :
    Calls Try.prog 32 #[.pointer (some ⟨g, 0, none⟩)] w (OptPost w (goF J (tasksN J J.length) n 0 (S0 J n))) := by
  obtain ⟨A0, c0, At, ct, Af, cf, hb, _, _, hT, hTc, _, _⟩ := id hs
  rw [← hn] at hb
  have q0 := (blk_cell hb 0).trans rfl
  have q1 := (blk_cell hb 1).trans rfl
  have Q0 := Aside0.mk q0
  have Q1 := Aside0.mk q1
  obtain ⟨nj, enj⟩ : ∃ nj, nj = J.length := ⟨_, rfl⟩
  have ENJ := Aside0.mk enj
  obtain ⟨R, eR⟩ : ∃ R, R = goF J (tasksN J J.length) n 0 (S0 J n) := ⟨_, rfl⟩
  have ER := Aside0.mk eR
  have HGO : Aside0 (∀ gs gn gj gt W, Srch w gs gn gj gt g J.length n W (S0 J n) → Calls Try.prog 53 #[.pointer (some ⟨gs, 0, none⟩), .int .i64 (n : Int), .int .i64 0] W (GoPost w gs gn gj gt g J.length n R W)) := ⟨fun gs gn gj gt W h => by
    rw [eR]
    exact hgo gs gn gj gt 0 (S0 J n) W (Nat.le_refl n) h (gi_S0 J n)⟩
  rw [← eR]
  rw [← enj] at Q0 h4 q0
  have M0 := Aside0.mk (show Mk3 w w.drew nj n none none none from ⟨below_drew1 (Below.refl _ _), fun k h => (by cases h), fun k h => (by cases h), fun k h => (by cases h), fun k h => (by cases h), fun k h => (by cases h), fun k h => (by cases h)⟩)
  clear hs hn hb hT hTc hgo enj eR
  go_enter Try.func32, Try.ntmps32
  go_wp2
  refine start_ (n := 22) (S := fun w' => w'.cell? ⟨g, 0, none⟩ = some (.slice A0 nj c0) ∧ w'.cell? ⟨g, 1, none⟩ = some (.slice At n ct)) (ds := []) #[false, false, false, false, false, false, false, false, false, false, false, false, false, false, false, false, false, false, false, false, false, false] (by kernel_rfl) rfl rfl ⟨q0, q1⟩ (fun hHeld => ?_)
  refine with_tabW op1tab op1bits (fun HT_ HW_ => ?_)
  clear q0 q1
  obtain ⟨T0, eT0⟩ : ∃ T0, T0 = M0 := ⟨_, rfl⟩
  clear eT0 M0
  generalize w.drew = W0 at T0 hHeld ⊢
  refine pure_ (i := 0) (N := some 5) (v := ?_) (a' := ?_) (qd 22 1) rfl rfl (any_of HT_.out (by kernel_rfl)) (fun _ _ _ h => h) (Or.inl ⟨by rfl, ?_⟩) ?_ ?_
  rotate_left
  · intro w'
    go_simp
    with_reducible rfl
  rotate_left
  · simp only [Act.put, qa, qb, qc, i64_w, i32_w]
    rfl
  refine pure_ (i := 1) (N := some 6) (v := ?_) (a' := ?_) (qd 22 3) rfl rfl (any_of HT_.out (by kernel_rfl)) (fun _ _ _ h => h) (Or.inl ⟨by rfl, ?_⟩) ?_ ?_
  rotate_left
  · intro w'
    go_simp
    with_reducible rfl
  rotate_left
  · simp only [Act.put, qa, qb, qc, i64_w, i32_w]
    rfl
  refine pure_ (i := 2) (N := some 7) (v := ?_) (a' := ?_) (qd 22 7) rfl rfl (any_of HT_.out (by kernel_rfl)) (fun _ _ _ h => h) (Or.inl ⟨by rfl, ?_⟩) ?_ ?_
  rotate_left
  · intro w'
    go_simp
    with_reducible rfl
  rotate_left
  · simp only [Act.put, qa, qb, qc, i64_w, i32_w]
    rfl
  refine pure_ (i := 3) (N := some 8) (v := ?_) (a' := ?_) (qd 22 15) rfl rfl (any_of HT_.out (by kernel_rfl)) (fun _ _ _ h => h) (Or.inl ⟨by rfl, ?_⟩) ?_ ?_
  rotate_left
  · intro w'
    go_simp
    with_reducible rfl
  rotate_left
  · simp only [Act.put, qa, qb, qc, i64_w, i32_w]
    rfl
  refine pure_ (i := 7) (N := some 12) (v := ?_) (a' := ?_) (qd 22 143) rfl rfl (any_of HT_.out (by kernel_rfl)) (fun _ _ _ h => h) (Or.inl ⟨by rfl, ?_⟩) ?_ ?_
  rotate_left
  · intro w'
    go_simp
    with_reducible rfl
  rotate_left
  · simp only [Act.put, qa, qb, qc, i64_w, i32_w]
    rfl
  refine pure_ (i := 8) (N := some 13) (v := ?_) (a' := ?_) (qd 22 399) rfl rfl (any_of HT_.out (by kernel_rfl)) (fun _ _ _ h => h) (Or.inl ⟨by rfl, ?_⟩) ?_ ?_
  rotate_left
  · intro w'
    go_simp
    with_reducible rfl
  rotate_left
  · simp only [Act.put, qa, qb, qc, i64_w, i32_w]
    rfl
  refine pure_ (i := 9) (N := some 14) (v := ?_) (a' := ?_) (qd 22 911) rfl rfl (any_of HT_.out (by kernel_rfl)) (fun _ _ _ h => h) (Or.inl ⟨by rfl, ?_⟩) ?_ ?_
  rotate_left
  · intro w'
    go_simp
    with_reducible rfl
  rotate_left
  · simp only [Act.put, qa, qb, qc, i64_w, i32_w]
    rfl
  refine pure_ (i := 13) (N := some 18) (v := ?_) (a' := ?_) (qd 22 9103) rfl rfl (any_of HT_.out (by kernel_rfl)) (fun _ _ _ h => h) (Or.inl ⟨by rfl, ?_⟩) ?_ ?_
  rotate_left
  · intro w'
    go_simp
    with_reducible rfl
  rotate_left
  · simp only [Act.put, qa, qb, qc, i64_w, i32_w]
    rfl
  refine pure_ (i := 14) (N := some 19) (v := ?_) (a' := ?_) (qd 22 25487) rfl rfl (any_of HT_.out (by kernel_rfl)) (fun _ _ _ h => h) (Or.inl ⟨by rfl, ?_⟩) ?_ ?_
  rotate_left
  · intro w'
    go_simp
    with_reducible rfl
  rotate_left
  · simp only [Act.put, qa, qb, qc, i64_w, i32_w]
    rfl
  refine pure_ (i := 15) (N := some 20) (v := ?_) (a' := ?_) (qd 22 58255) rfl rfl (any_of HT_.out (by kernel_rfl)) (fun _ _ _ h => h) (Or.inl ⟨by rfl, ?_⟩) ?_ ?_
  rotate_left
  · intro w'
    go_simp
    with_reducible rfl
  rotate_left
  · simp only [Act.put, qa, qb, qc, i64_w, i32_w]
    rfl
  refine take_ (i := 4) (N := some 9) (v := ?_) (a' := ?_) (qd 22 58271) rfl rfl (take_ofW HT_.out HW_.out (by kernel_rfl)) (fun _ _ _ h => h) (Or.inl ⟨by rfl, ?_⟩) hHeld ?_ ?_
  rotate_left
  · rintro w' ⟨s0, s1⟩
    go_simp
    with_reducible rfl
  rotate_left
  · simp only [Act.put, qa, qb, qc, i64_w, i32_w]
    rfl
  refine pure_ (i := 5) (N := some 10) (v := ?_) (a' := ?_) (qd 22 58303) rfl rfl (any_of HT_.out (by kernel_rfl)) (fun _ _ _ h => h) (Or.inl ⟨by rfl, ?_⟩) ?_ ?_
  rotate_left
  · intro w'
    go_simp
    with_reducible rfl
  rotate_left
  · simp only [Act.put, qa, qb, qc, i64_w, i32_w]
    rfl
  refine take_ (i := 10) (N := some 15) (v := ?_) (a' := ?_) (qd 22 59327) rfl rfl (take_ofW HT_.out HW_.out (by kernel_rfl)) (fun _ _ _ h => h) (Or.inl ⟨by rfl, ?_⟩) hHeld ?_ ?_
  rotate_left
  · rintro w' ⟨s0, s1⟩
    go_simp
    with_reducible rfl
  rotate_left
  · simp only [Act.put, qa, qb, qc, i64_w, i32_w]
    rfl
  refine pure_ (i := 11) (N := some 16) (v := ?_) (a' := ?_) (qd 22 61375) rfl rfl (any_of HT_.out (by kernel_rfl)) (fun _ _ _ h => h) (Or.inl ⟨by rfl, ?_⟩) ?_ ?_
  rotate_left
  · intro w'
    go_simp
    with_reducible rfl
  rotate_left
  · simp only [Act.put, qa, qb, qc, i64_w, i32_w]
    rfl
  refine take_ (i := 16) (N := some 21) (v := ?_) (a' := ?_) (qd 22 126911) rfl rfl (take_ofW HT_.out HW_.out (by kernel_rfl)) (fun _ _ _ h => h) (Or.inl ⟨by rfl, ?_⟩) hHeld ?_ ?_
  rotate_left
  · rintro w' ⟨s0, s1⟩
    go_simp
    with_reducible rfl
  rotate_left
  · simp only [Act.put, qa, qb, qc, i64_w, i32_w]
    rfl
  refine pure_ (i := 17) (N := some 22) (v := ?_) (a' := ?_) (qd 22 257983) rfl rfl (any_of HT_.out (by kernel_rfl)) (fun _ _ _ h => h) (Or.inl ⟨by rfl, ?_⟩) ?_ ?_
  rotate_left
  · intro w'
    go_simp
    with_reducible rfl
  rotate_left
  · simp only [Act.put, qa, qb, qc, i64_w, i32_w]
    rfl
  refine join_ (σ := Nat × Nat × Nat) 2 (qd 22 1048575) (fun s => [(11, .slice (some ⟨s.1, 0, none⟩) nj nj), (17, .slice (some ⟨s.2.1, 0, none⟩) nj nj), (23, .slice (some ⟨s.2.2, 0, none⟩) n n), (24, .agg #[.pointer (some ⟨g, 0, none⟩), .slice (some ⟨s.1, 0, none⟩) nj nj, .slice (some ⟨s.2.1, 0, none⟩) nj nj, .int .i64 0, .int .i64 0, .int .i64 0, .int .i64 0, .slice (some ⟨s.2.2, 0, none⟩) n n, .slice none 0 0, .int .i64 0])]) (fun s w' => Mk3 w w' nj n (some s.1) (some s.2.1) (some s.2.2)) (fun q w2 hF => ?_) (fun hcont => ?_)
  rotate_left
  · refine three_ (i := 6) (j := 12) (k := 18) (Ni := some 11) (Nj := some 17) (Nk := some 23) (qd 22 258047) (qd 22 262079) (qd 22 520127) rfl rfl rfl rfl rfl rfl (by kernel_rfl) (by decide) (by decide) (by decide) (fun K hK => ?_) (fun K hK => ?_) (fun K hK => ?_)
    · refine value_ (by rfl) rfl (run_makeI _ nj (by omega) _ _ (.tmp 10) (.tmp 10) rfl rfl rfl) ?_
      have T1 := Aside0.mk T0.out.mkA
      obtain ⟨k6, hk6⟩ : ∃ k, k = W0.heap.size := ⟨_, rfl⟩
      rw [← hk6] at T1 ⊢
      refine hK.out _ _ ⟨pw_cell_below T1.out.below Q0.out, pw_cell_below T1.out.below Q1.out⟩ (fun hHeld => ?_)
      clear hK K hk6
      generalize W0.alloc (Obj.cells (rowI (List.replicate nj 0)) 3) = W1 at T1 hHeld ⊢
      refine norm_ (a' := ?_) ?_ ?_
      rotate_left
      · show Act.put _ (some 11) _ = _
        simp only [Act.put, qa, qb, qc, i64_w, i32_w]
        rfl
      refine two_ (i := 12) (j := 18) (Ni := some 17) (Nj := some 23) (qd 22 262143) (qd 22 520191) rfl rfl rfl rfl (by kernel_rfl) (by decide) (by decide) (fun K hK => ?_) (fun K hK => ?_)
      · refine value_ (by rfl) rfl (run_makeI _ nj (by omega) _ _ (.tmp 16) (.tmp 16) rfl rfl rfl) ?_
        have T2 := Aside0.mk T1.out.mkB
        obtain ⟨k12, hk12⟩ : ∃ k, k = W1.heap.size := ⟨_, rfl⟩
        rw [← hk12] at T2 ⊢
        refine hK.out _ _ ⟨pw_cell_below T2.out.below Q0.out, pw_cell_below T2.out.below Q1.out⟩ (fun hHeld => ?_)
        clear hK K hk12
        generalize W1.alloc (Obj.cells (rowI (List.replicate nj 0)) 3) = W2 at T2 hHeld ⊢
        refine norm_ (a' := ?_) ?_ ?_
        rotate_left
        · show Act.put _ (some 17) _ = _
          simp only [Act.put, qa, qb, qc, i64_w, i32_w]
          rfl
        refine one_ (i := 18) (N := some 23) (qd 22 524287) rfl rfl (one_of HT_.out (by kernel_rfl)) (by decide) (fun K hK => ?_)
        refine value_ (by rfl) rfl (run_makeI _ n (by omega) _ _ (.tmp 22) (.tmp 22) rfl rfl rfl) ?_
        have T3 := Aside0.mk T2.out.mkC
        obtain ⟨k18, hk18⟩ : ∃ k, k = W2.heap.size := ⟨_, rfl⟩
        rw [← hk18] at T3 ⊢
        refine hK.out _ _ ⟨pw_cell_below T3.out.below Q0.out, pw_cell_below T3.out.below Q1.out⟩ (fun hHeld => ?_)
        clear hK K hk18
        generalize W2.alloc (Obj.cells (rowI (List.replicate n 0)) 3) = W3 at T3 hHeld ⊢
        refine norm_ (a' := ?_) ?_ ?_
        rotate_left
        · show Act.put _ (some 23) _ = _
          simp only [Act.put, qa, qb, qc, i64_w, i32_w]
          rfl
        refine pure_ (i := 19) (N := some 24) (v := ?_) (a' := ?_) (qd 22 1048575) rfl rfl (any_of HT_.out (by kernel_rfl)) (fun _ _ _ h => h) (Or.inl ⟨by rfl, ?_⟩) ?_ ?_
        rotate_left
        · intro w'
          go_simp
          with_reducible rfl
        rotate_left
        · simp only [Act.put, qa, qb, qc, i64_w, i32_w]
          rfl
        have hc := hcont (k6, k12, k18) _ T3.out
        simp only [putAll, Act.put, qa, qb, qc, i64_w, i32_w] at hc ⊢
        exact hc
      · refine value_ (by rfl) rfl (run_makeI _ n (by omega) _ _ (.tmp 22) (.tmp 22) rfl rfl rfl) ?_
        have T2 := Aside0.mk T1.out.mkC
        obtain ⟨k18, hk18⟩ : ∃ k, k = W1.heap.size := ⟨_, rfl⟩
        rw [← hk18] at T2 ⊢
        refine hK.out _ _ ⟨pw_cell_below T2.out.below Q0.out, pw_cell_below T2.out.below Q1.out⟩ (fun hHeld => ?_)
        clear hK K hk18
        generalize W1.alloc (Obj.cells (rowI (List.replicate n 0)) 3) = W2 at T2 hHeld ⊢
        refine norm_ (a' := ?_) ?_ ?_
        rotate_left
        · show Act.put _ (some 23) _ = _
          simp only [Act.put, qa, qb, qc, i64_w, i32_w]
          rfl
        refine one_ (i := 12) (N := some 17) (qd 22 524287) rfl rfl (one_of HT_.out (by kernel_rfl)) (by decide) (fun K hK => ?_)
        refine value_ (by rfl) rfl (run_makeI _ nj (by omega) _ _ (.tmp 16) (.tmp 16) rfl rfl rfl) ?_
        have T3 := Aside0.mk T2.out.mkB
        obtain ⟨k12, hk12⟩ : ∃ k, k = W2.heap.size := ⟨_, rfl⟩
        rw [← hk12] at T3 ⊢
        refine hK.out _ _ ⟨pw_cell_below T3.out.below Q0.out, pw_cell_below T3.out.below Q1.out⟩ (fun hHeld => ?_)
        clear hK K hk12
        generalize W2.alloc (Obj.cells (rowI (List.replicate nj 0)) 3) = W3 at T3 hHeld ⊢
        refine norm_ (a' := ?_) ?_ ?_
        rotate_left
        · show Act.put _ (some 17) _ = _
          simp only [Act.put, qa, qb, qc, i64_w, i32_w]
          rfl
        refine pure_ (i := 19) (N := some 24) (v := ?_) (a' := ?_) (qd 22 1048575) rfl rfl (any_of HT_.out (by kernel_rfl)) (fun _ _ _ h => h) (Or.inl ⟨by rfl, ?_⟩) ?_ ?_
        rotate_left
        · intro w'
          go_simp
          with_reducible rfl
        rotate_left
        · simp only [Act.put, qa, qb, qc, i64_w, i32_w]
          rfl
        have hc := hcont (k6, k12, k18) _ T3.out
        simp only [putAll, Act.put, qa, qb, qc, i64_w, i32_w] at hc ⊢
        exact hc
    · refine value_ (by rfl) rfl (run_makeI _ nj (by omega) _ _ (.tmp 16) (.tmp 16) rfl rfl rfl) ?_
      have T1 := Aside0.mk T0.out.mkB
      obtain ⟨k12, hk12⟩ : ∃ k, k = W0.heap.size := ⟨_, rfl⟩
      rw [← hk12] at T1 ⊢
      refine hK.out _ _ ⟨pw_cell_below T1.out.below Q0.out, pw_cell_below T1.out.below Q1.out⟩ (fun hHeld => ?_)
      clear hK K hk12
      generalize W0.alloc (Obj.cells (rowI (List.replicate nj 0)) 3) = W1 at T1 hHeld ⊢
      refine norm_ (a' := ?_) ?_ ?_
      rotate_left
      · show Act.put _ (some 17) _ = _
        simp only [Act.put, qa, qb, qc, i64_w, i32_w]
        rfl
      refine two_ (i := 6) (j := 18) (Ni := some 11) (Nj := some 23) (qd 22 262143) (qd 22 524223) rfl rfl rfl rfl (by kernel_rfl) (by decide) (by decide) (fun K hK => ?_) (fun K hK => ?_)
      · refine value_ (by rfl) rfl (run_makeI _ nj (by omega) _ _ (.tmp 10) (.tmp 10) rfl rfl rfl) ?_
        have T2 := Aside0.mk T1.out.mkA
        obtain ⟨k6, hk6⟩ : ∃ k, k = W1.heap.size := ⟨_, rfl⟩
        rw [← hk6] at T2 ⊢
        refine hK.out _ _ ⟨pw_cell_below T2.out.below Q0.out, pw_cell_below T2.out.below Q1.out⟩ (fun hHeld => ?_)
        clear hK K hk6
        generalize W1.alloc (Obj.cells (rowI (List.replicate nj 0)) 3) = W2 at T2 hHeld ⊢
        refine norm_ (a' := ?_) ?_ ?_
        rotate_left
        · show Act.put _ (some 11) _ = _
          simp only [Act.put, qa, qb, qc, i64_w, i32_w]
          rfl
        refine one_ (i := 18) (N := some 23) (qd 22 524287) rfl rfl (one_of HT_.out (by kernel_rfl)) (by decide) (fun K hK => ?_)
        refine value_ (by rfl) rfl (run_makeI _ n (by omega) _ _ (.tmp 22) (.tmp 22) rfl rfl rfl) ?_
        have T3 := Aside0.mk T2.out.mkC
        obtain ⟨k18, hk18⟩ : ∃ k, k = W2.heap.size := ⟨_, rfl⟩
        rw [← hk18] at T3 ⊢
        refine hK.out _ _ ⟨pw_cell_below T3.out.below Q0.out, pw_cell_below T3.out.below Q1.out⟩ (fun hHeld => ?_)
        clear hK K hk18
        generalize W2.alloc (Obj.cells (rowI (List.replicate n 0)) 3) = W3 at T3 hHeld ⊢
        refine norm_ (a' := ?_) ?_ ?_
        rotate_left
        · show Act.put _ (some 23) _ = _
          simp only [Act.put, qa, qb, qc, i64_w, i32_w]
          rfl
        refine pure_ (i := 19) (N := some 24) (v := ?_) (a' := ?_) (qd 22 1048575) rfl rfl (any_of HT_.out (by kernel_rfl)) (fun _ _ _ h => h) (Or.inl ⟨by rfl, ?_⟩) ?_ ?_
        rotate_left
        · intro w'
          go_simp
          with_reducible rfl
        rotate_left
        · simp only [Act.put, qa, qb, qc, i64_w, i32_w]
          rfl
        have hc := hcont (k6, k12, k18) _ T3.out
        simp only [putAll, Act.put, qa, qb, qc, i64_w, i32_w] at hc ⊢
        exact hc
      · refine value_ (by rfl) rfl (run_makeI _ n (by omega) _ _ (.tmp 22) (.tmp 22) rfl rfl rfl) ?_
        have T2 := Aside0.mk T1.out.mkC
        obtain ⟨k18, hk18⟩ : ∃ k, k = W1.heap.size := ⟨_, rfl⟩
        rw [← hk18] at T2 ⊢
        refine hK.out _ _ ⟨pw_cell_below T2.out.below Q0.out, pw_cell_below T2.out.below Q1.out⟩ (fun hHeld => ?_)
        clear hK K hk18
        generalize W1.alloc (Obj.cells (rowI (List.replicate n 0)) 3) = W2 at T2 hHeld ⊢
        refine norm_ (a' := ?_) ?_ ?_
        rotate_left
        · show Act.put _ (some 23) _ = _
          simp only [Act.put, qa, qb, qc, i64_w, i32_w]
          rfl
        refine one_ (i := 6) (N := some 11) (qd 22 524287) rfl rfl (one_of HT_.out (by kernel_rfl)) (by decide) (fun K hK => ?_)
        refine value_ (by rfl) rfl (run_makeI _ nj (by omega) _ _ (.tmp 10) (.tmp 10) rfl rfl rfl) ?_
        have T3 := Aside0.mk T2.out.mkA
        obtain ⟨k6, hk6⟩ : ∃ k, k = W2.heap.size := ⟨_, rfl⟩
        rw [← hk6] at T3 ⊢
        refine hK.out _ _ ⟨pw_cell_below T3.out.below Q0.out, pw_cell_below T3.out.below Q1.out⟩ (fun hHeld => ?_)
        clear hK K hk6
        generalize W2.alloc (Obj.cells (rowI (List.replicate nj 0)) 3) = W3 at T3 hHeld ⊢
        refine norm_ (a' := ?_) ?_ ?_
        rotate_left
        · show Act.put _ (some 11) _ = _
          simp only [Act.put, qa, qb, qc, i64_w, i32_w]
          rfl
        refine pure_ (i := 19) (N := some 24) (v := ?_) (a' := ?_) (qd 22 1048575) rfl rfl (any_of HT_.out (by kernel_rfl)) (fun _ _ _ h => h) (Or.inl ⟨by rfl, ?_⟩) ?_ ?_
        rotate_left
        · intro w'
          go_simp
          with_reducible rfl
        rotate_left
        · simp only [Act.put, qa, qb, qc, i64_w, i32_w]
          rfl
        have hc := hcont (k6, k12, k18) _ T3.out
        simp only [putAll, Act.put, qa, qb, qc, i64_w, i32_w] at hc ⊢
        exact hc
    · refine value_ (by rfl) rfl (run_makeI _ n (by omega) _ _ (.tmp 22) (.tmp 22) rfl rfl rfl) ?_
      have T1 := Aside0.mk T0.out.mkC
      obtain ⟨k18, hk18⟩ : ∃ k, k = W0.heap.size := ⟨_, rfl⟩
      rw [← hk18] at T1 ⊢
      refine hK.out _ _ ⟨pw_cell_below T1.out.below Q0.out, pw_cell_below T1.out.below Q1.out⟩ (fun hHeld => ?_)
      clear hK K hk18
      generalize W0.alloc (Obj.cells (rowI (List.replicate n 0)) 3) = W1 at T1 hHeld ⊢
      refine norm_ (a' := ?_) ?_ ?_
      rotate_left
      · show Act.put _ (some 23) _ = _
        simp only [Act.put, qa, qb, qc, i64_w, i32_w]
        rfl
      refine two_ (i := 6) (j := 12) (Ni := some 11) (Nj := some 17) (qd 22 520191) (qd 22 524223) rfl rfl rfl rfl (by kernel_rfl) (by decide) (by decide) (fun K hK => ?_) (fun K hK => ?_)
      · refine value_ (by rfl) rfl (run_makeI _ nj (by omega) _ _ (.tmp 10) (.tmp 10) rfl rfl rfl) ?_
        have T2 := Aside0.mk T1.out.mkA
        obtain ⟨k6, hk6⟩ : ∃ k, k = W1.heap.size := ⟨_, rfl⟩
        rw [← hk6] at T2 ⊢
        refine hK.out _ _ ⟨pw_cell_below T2.out.below Q0.out, pw_cell_below T2.out.below Q1.out⟩ (fun hHeld => ?_)
        clear hK K hk6
        generalize W1.alloc (Obj.cells (rowI (List.replicate nj 0)) 3) = W2 at T2 hHeld ⊢
        refine norm_ (a' := ?_) ?_ ?_
        rotate_left
        · show Act.put _ (some 11) _ = _
          simp only [Act.put, qa, qb, qc, i64_w, i32_w]
          rfl
        refine one_ (i := 12) (N := some 17) (qd 22 524287) rfl rfl (one_of HT_.out (by kernel_rfl)) (by decide) (fun K hK => ?_)
        refine value_ (by rfl) rfl (run_makeI _ nj (by omega) _ _ (.tmp 16) (.tmp 16) rfl rfl rfl) ?_
        have T3 := Aside0.mk T2.out.mkB
        obtain ⟨k12, hk12⟩ : ∃ k, k = W2.heap.size := ⟨_, rfl⟩
        rw [← hk12] at T3 ⊢
        refine hK.out _ _ ⟨pw_cell_below T3.out.below Q0.out, pw_cell_below T3.out.below Q1.out⟩ (fun hHeld => ?_)
        clear hK K hk12
        generalize W2.alloc (Obj.cells (rowI (List.replicate nj 0)) 3) = W3 at T3 hHeld ⊢
        refine norm_ (a' := ?_) ?_ ?_
        rotate_left
        · show Act.put _ (some 17) _ = _
          simp only [Act.put, qa, qb, qc, i64_w, i32_w]
          rfl
        refine pure_ (i := 19) (N := some 24) (v := ?_) (a' := ?_) (qd 22 1048575) rfl rfl (any_of HT_.out (by kernel_rfl)) (fun _ _ _ h => h) (Or.inl ⟨by rfl, ?_⟩) ?_ ?_
        rotate_left
        · intro w'
          go_simp
          with_reducible rfl
        rotate_left
        · simp only [Act.put, qa, qb, qc, i64_w, i32_w]
          rfl
        have hc := hcont (k6, k12, k18) _ T3.out
        simp only [putAll, Act.put, qa, qb, qc, i64_w, i32_w] at hc ⊢
        exact hc
      · refine value_ (by rfl) rfl (run_makeI _ nj (by omega) _ _ (.tmp 16) (.tmp 16) rfl rfl rfl) ?_
        have T2 := Aside0.mk T1.out.mkB
        obtain ⟨k12, hk12⟩ : ∃ k, k = W1.heap.size := ⟨_, rfl⟩
        rw [← hk12] at T2 ⊢
        refine hK.out _ _ ⟨pw_cell_below T2.out.below Q0.out, pw_cell_below T2.out.below Q1.out⟩ (fun hHeld => ?_)
        clear hK K hk12
        generalize W1.alloc (Obj.cells (rowI (List.replicate nj 0)) 3) = W2 at T2 hHeld ⊢
        refine norm_ (a' := ?_) ?_ ?_
        rotate_left
        · show Act.put _ (some 17) _ = _
          simp only [Act.put, qa, qb, qc, i64_w, i32_w]
          rfl
        refine one_ (i := 6) (N := some 11) (qd 22 524287) rfl rfl (one_of HT_.out (by kernel_rfl)) (by decide) (fun K hK => ?_)
        refine value_ (by rfl) rfl (run_makeI _ nj (by omega) _ _ (.tmp 10) (.tmp 10) rfl rfl rfl) ?_
        have T3 := Aside0.mk T2.out.mkA
        obtain ⟨k6, hk6⟩ : ∃ k, k = W2.heap.size := ⟨_, rfl⟩
        rw [← hk6] at T3 ⊢
        refine hK.out _ _ ⟨pw_cell_below T3.out.below Q0.out, pw_cell_below T3.out.below Q1.out⟩ (fun hHeld => ?_)
        clear hK K hk6
        generalize W2.alloc (Obj.cells (rowI (List.replicate nj 0)) 3) = W3 at T3 hHeld ⊢
        refine norm_ (a' := ?_) ?_ ?_
        rotate_left
        · show Act.put _ (some 11) _ = _
          simp only [Act.put, qa, qb, qc, i64_w, i32_w]
          rfl
        refine pure_ (i := 19) (N := some 24) (v := ?_) (a' := ?_) (qd 22 1048575) rfl rfl (any_of HT_.out (by kernel_rfl)) (fun _ _ _ h => h) (Or.inl ⟨by rfl, ?_⟩) ?_ ?_
        rotate_left
        · intro w'
          go_simp
          with_reducible rfl
        rotate_left
        · simp only [Act.put, qa, qb, qc, i64_w, i32_w]
          rfl
        have hc := hcont (k6, k12, k18) _ T3.out
        simp only [putAll, Act.put, qa, qb, qc, i64_w, i32_w] at hc ⊢
        exact hc
  obtain ⟨gn, gj, gt⟩ := q
  have M9 := Aside0.mk hF
  clear hF T0 hHeld
  refine norm_ (a' := ?_) ?_ ?_
  rotate_left
  · simp only [putAll, Act.put, qa, qb, qc, i64_w, i32_w]
    rfl
  refine one_ (i := 20) (N := some 25) (qd 22 2097151) rfl rfl (one_of HT_.out (by kernel_rfl)) (by decide) (fun K hK => ?_)
  refine value_ (v := .pointer (some ⟨w2.heap.size, 0, none⟩)) (w1 := w2.alloc (Obj.cells #[.pointer (some ⟨g, 0, none⟩), .slice (some ⟨gn, 0, none⟩) nj nj, .slice (some ⟨gj, 0, none⟩) nj nj, .int .i64 0, .int .i64 0, .int .i64 0, .int .i64 0, .slice (some ⟨gt, 0, none⟩) n n, .slice none 0 0, .int .i64 0] 107)) (by rfl) rfl (by go_simp) ?_
  refine hK.out _ _ ⟨pw_cell_below (below_alloc M9.out.below _) Q0.out, pw_cell_below (below_alloc M9.out.below _) Q1.out⟩ (fun hHeld => ?_)
  clear hK K
  refine norm_ (a' := ?_) ?_ ?_
  rotate_left
  · show Act.put _ (some 25) _ = _
    simp only [Act.put, qa, qb, qc, i64_w, i32_w]
    rfl
  refine pure_ (i := 21) (N := some 4) (v := ?_) (a' := ?_) (qd 22 4194303) rfl rfl (any_of HT_.out (by kernel_rfl)) (fun _ _ _ h => h) (Or.inl ⟨by rfl, ?_⟩) ?_ ?_
  rotate_left
  · intro w'
    go_simp
    with_reducible rfl
  rotate_left
  · simp only [Act.put, qa, qb, qc, i64_w, i32_w]
    rfl
  refine done_ (done_of HT_.out (by kernel_rfl)) ?_
  have HS := Aside0.mk (M9.out.srch g ENJ.out)
  obtain ⟨gs, egs⟩ : ∃ gs, gs = w2.heap.size := ⟨_, rfl⟩
  rw [← egs] at HS ⊢
  clear hHeld egs M9
  generalize w2.alloc (Obj.cells #[.pointer (some ⟨g, 0, none⟩), .slice (some ⟨gn, 0, none⟩) nj nj, .slice (some ⟨gj, 0, none⟩) nj nj, .int .i64 0, .int .i64 0, .int .i64 0, .int .i64 0, .slice (some ⟨gt, 0, none⟩) n n, .slice none 0 0, .int .i64 0] 107) = w3 at HS ⊢
  have q1 := pw_cell_below HS.out.below Q1.out
  have HCC := Aside0.mk (HGO.out gs gn gj gt w3 HS.out)
  go_wp2_with (first | ((with_reducible refine HCC.out.mono ?_); rintro e w4 ⟨rfl, hs4, hk4⟩; have HS4 := Aside0.mk hs4; clear hs4 hk4))
  obtain ⟨v8, b1, b2⟩ := HS4.out.bs
  obtain ⟨A8, m8, k8, rfl⟩ := b2.oneCell
  have c8 : w4.cell? ⟨gs, 8, none⟩ = some (.slice A8 m8 k8) := (blk_cell b1 8).trans rfl
  have c9 : w4.cell? ⟨gs, 9, none⟩ = some (.int .i64 R.least) := (blk_cell b1 9).trans rfl
  have HB2 := Aside0.mk b2
  clear b1 b2
  refine start_ (n := 10) (S := fun w' => w'.cell? ⟨gs, 8, none⟩ = some (.slice A8 m8 k8) ∧ w'.cell? ⟨gs, 9, none⟩ = some (.int .i64 R.least)) (ds := []) #[false, false, false, false, false, false, false, false, false, false] (by kernel_rfl) rfl rfl ⟨c8, c9⟩ (fun hHeld => ?_)
  refine with_tabW op3tab op3bits (fun HT_ HW_ => ?_)
  have HB4 := Aside0.mk (below_drew1 HS4.out.below)
  have HB3 := Aside0.mk (BestR.below HB2.out (below_drew1 (Below.refl _ _)))
  clear c8 c9 HS4 HB2
  generalize w4.drew = w5 at HB4 HB3 hHeld ⊢
  refine pure_ (i := 0) (N := some 33) (v := ?_) (a' := ?_) (qd 10 1) rfl rfl (any_of HT_.out (by kernel_rfl)) (fun _ _ _ h => h) (Or.inl ⟨by rfl, ?_⟩) ?_ ?_
  rotate_left
  · intro w'
    go_simp
    with_reducible rfl
  rotate_left
  · simp only [Act.put, qa, qb, qc, i64_w, i32_w]
    rfl
  refine pure_ (i := 1) (N := some 34) (v := ?_) (a' := ?_) (qd 10 3) rfl rfl (any_of HT_.out (by kernel_rfl)) (fun _ _ _ h => h) (Or.inl ⟨by rfl, ?_⟩) ?_ ?_
  rotate_left
  · intro w'
    go_simp
    with_reducible rfl
  rotate_left
  · simp only [Act.put, qa, qb, qc, i64_w, i32_w]
    rfl
  refine pure_ (i := 2) (N := some 35) (v := ?_) (a' := ?_) (qd 10 7) rfl rfl (any_of HT_.out (by kernel_rfl)) (fun _ _ _ h => h) (Or.inl ⟨by rfl, ?_⟩) ?_ ?_
  rotate_left
  · intro w'
    go_simp
    with_reducible rfl
  rotate_left
  · simp only [Act.put, qa, qb, qc, i64_w, i32_w]
    rfl
  refine pure_ (i := 4) (N := some 37) (v := ?_) (a' := ?_) (qd 10 23) rfl rfl (any_of HT_.out (by kernel_rfl)) (fun _ _ _ h => h) (Or.inl ⟨by rfl, ?_⟩) ?_ ?_
  rotate_left
  · intro w'
    go_simp
    with_reducible rfl
  rotate_left
  · simp only [Act.put, qa, qb, qc, i64_w, i32_w]
    rfl
  refine pure_ (i := 5) (N := some 38) (v := ?_) (a' := ?_) (qd 10 55) rfl rfl (any_of HT_.out (by kernel_rfl)) (fun _ _ _ h => h) (Or.inl ⟨by rfl, ?_⟩) ?_ ?_
  rotate_left
  · intro w'
    go_simp
    with_reducible rfl
  rotate_left
  · simp only [Act.put, qa, qb, qc, i64_w, i32_w]
    rfl
  refine pure_ (i := 6) (N := some 39) (v := ?_) (a' := ?_) (qd 10 119) rfl rfl (any_of HT_.out (by kernel_rfl)) (fun _ _ _ h => h) (Or.inl ⟨by rfl, ?_⟩) ?_ ?_
  rotate_left
  · intro w'
    go_simp
    with_reducible rfl
  rotate_left
  · simp only [Act.put, qa, qb, qc, i64_w, i32_w]
    rfl
  refine take_ (i := 3) (N := some 36) (v := ?_) (a' := ?_) (qd 10 127) rfl rfl (take_ofW HT_.out HW_.out (by kernel_rfl)) (fun _ _ _ h => h) (Or.inl ⟨by rfl, ?_⟩) hHeld ?_ ?_
  rotate_left
  · rintro w' ⟨s0, s1⟩
    go_simp
    with_reducible rfl
  rotate_left
  · simp only [Act.put, qa, qb, qc, i64_w, i32_w]
    rfl
  refine pure_ (i := 8) (N := some 2) (v := ?_) (a' := ?_) (qd 10 383) rfl rfl (any_of HT_.out (by kernel_rfl)) (fun _ _ _ h => h) (Or.inl ⟨by rfl, ?_⟩) ?_ ?_
  rotate_left
  · intro w'
    go_simp
    with_reducible rfl
  rotate_left
  · simp only [Act.put, qa, qb, qc, i64_w, i32_w]
    rfl
  refine take_ (i := 7) (N := some 40) (v := ?_) (a' := ?_) (qd 10 511) rfl rfl (take_ofW HT_.out HW_.out (by kernel_rfl)) (fun _ _ _ h => h) (Or.inl ⟨by rfl, ?_⟩) hHeld ?_ ?_
  rotate_left
  · rintro w' ⟨s0, s1⟩
    go_simp
    with_reducible rfl
  rotate_left
  · simp only [Act.put, qa, qb, qc, i64_w, i32_w]
    rfl
  refine pure_ (i := 9) (N := some 3) (v := ?_) (a' := ?_) (qd 10 1023) rfl rfl (any_of HT_.out (by kernel_rfl)) (fun _ _ _ h => h) (Or.inl ⟨by rfl, ?_⟩) ?_ ?_
  rotate_left
  · intro w'
    go_simp
    with_reducible rfl
  rotate_left
  · simp only [Act.put, qa, qb, qc, i64_w, i32_w]
    rfl
  refine done_ (done_of HT_.out (by kernel_rfl)) ?_
  go_wp2
  go_ret2
  refine ⟨HB4.out, _, rfl, ?_⟩
  have h := HB3.out
  cases hb : R.best with
  | none => rw [hb] at h; exact h
  | some l => rw [hb] at h; exact Kd.R_mono h (fun _ _ => trivial)
end Go.Proofs.Ytipkhaicjjeieaa.V
