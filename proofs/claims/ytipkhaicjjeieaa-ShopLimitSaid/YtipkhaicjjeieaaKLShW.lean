/- Walks of the shop's functions, twenty-third text: the search for the best schedule, a whole order. -/
import Derived.Test.YtipkhaicjjeieaaKLShV
namespace Go.Proofs.Ytipkhaicjjeieaa.V
set_option linter.unusedSimpArgs false
set_option linter.unusedVariables false
open Go.RowKit Go.Proofs.YtipkhaicjjeieaaW.PrintWords Go.Proofs.YtipkhaicjjeieaaW.PrintLast Go.Proofs.YtipkhaicjjeieaaW.PrintMore
theorem firstsN_get (l : List (List S40)) : ∀ i j, j < i → (firstsN l i).getD j 0 = ((tasksN l j).length : Int)
  | 0, j, h => by omega
  | i + 1, j, h => by
    have hl := firstsN_len l i
    simp only [firstsN, List.getD_eq_getElem?_getD]
    by_cases e : j = i
    · subst e
      rw [List.getElem?_append_right (by omega), hl]
      simp
    · rw [List.getElem?_append_left (by omega)]
      have := firstsN_get l i j (by omega)
      rw [List.getD_eq_getElem?_getD] at this
      exact this
theorem tasksN_get (l : List (List S40)) : ∀ i j k, j < i → k < (l.getD j []).length → (tasksN l j).length + k < (tasksN l i).length ∧ (tasksN l i).getD ((tasksN l j).length + k) z89 = ⟨(l.getD j []).getD k z40, (((tasksN l j).length + k : Nat) : Int), (j : Int), (k : Int)⟩
  | 0, j, k, h, _ => by omega
  | i + 1, j, k, h, hk => by
    simp only [tasksN, List.length_append, jobT_len, List.getD_eq_getElem?_getD]
    by_cases e : j = i
    · subst e
      refine ⟨by simpa using hk, ?_⟩
      rw [List.getElem?_append_right (by omega), Nat.add_sub_cancel_left]
      have hk' : k < (l.getD j []).length := hk
      simp only [jobT, List.getElem?_mapIdx]
      rw [← List.getD_eq_getElem?_getD, List.getElem?_eq_getElem hk']
      simp [List.getD_eq_getElem?_getD, hk']
    · obtain ⟨h1, h2⟩ := tasksN_get l i j k (by omega) hk
      refine ⟨by omega, ?_⟩
      rw [List.getElem?_append_left h1]
      rw [List.getD_eq_getElem?_getD] at h2
      rw [h2]
      simp
theorem C_row {W : World} {k : Nat} {l : List Int} (h : W.heap[k]? = some (.cells (rowI l) 3 (0, 0))) (hl : l.length ≤ 1000000) : Kd.C (Kd.int .i64) W (some ⟨k, 0, none⟩) l.length l := by
  refine ⟨rfl, by omega, fun _ => ⟨_, rfl, fun j p hp => ⟨[.int .i64 p], rfl, rfl, fun i u hi => ?_⟩⟩⟩
  obtain rfl : i = 0 := by
    cases i with
    | zero => rfl
    | succ i => simp at hi
  simp only [List.getElem?_cons_zero, Option.some.injEq] at hi
  subst hi
  have hj : j < l.length := by
    by_cases hj : j < l.length
    · exact hj
    · rw [List.getElem?_eq_none (by omega)] at hp
      cases hp
  have e : p = l.getD j 0 := by
    rw [List.getD_eq_getElem?_getD, hp]
    rfl
  have := (blk_cell h j).trans (rowI_get l j hj)
  rw [e]
  have ha : Addr.add ⟨k, 0, none⟩ (j * (Kd.int .i64).sz + 0) = ⟨k, j, none⟩ := by
    have e1 : (Kd.int .i64).sz = 1 := rfl
    rw [e1, Nat.mul_one, Nat.add_zero]
    unfold Addr.add
    cases j <;> simp
  rw [ha]
  exact this
structure Fit (J : List (List S40)) : Prop where
  jl : J.length ≤ 4
  rl : ∀ j, (J.getD j []).length ≤ 4
  nl : (tasksN J J.length).length ≤ 10
  tk : ∀ i, i < (tasksN J J.length).length → ((tasksN J J.length).getD i z89).bad = false
theorem ofErr_fit {J : List (List S40)} (h : ofErr J = 0) : Fit J := by
  unfold ofErr at h
  split at h
  · cases h
  rename_i h1
  split at h
  · cases h
  rename_i h2
  split at h
  · cases h
  rename_i h3
  split at h
  · cases h
  rename_i h4
  refine ⟨by omega, fun j => ?_, by omega, fun i hi => ?_⟩
  · by_cases hj : j < J.length
    · have := List.any_eq_false.1 (Bool.eq_false_iff.2 h2) _ (List.getElem_mem hj)
      rw [List.getD_eq_getElem?_getD, List.getElem?_eq_getElem hj, Option.getD_some]
      simp only [decide_eq_true_eq] at this
      omega
    · rw [List.getD_eq_getElem?_getD, List.getElem?_eq_none (by omega)]
      simp
  · have := List.any_eq_false.1 (Bool.eq_false_iff.2 h4) _ (List.getElem_mem hi)
    rw [List.getD_eq_getElem?_getD, List.getElem?_eq_getElem hi, Option.getD_some]
    simpa using this
def Gi (J : List (List S40)) (S : Sst) : Prop :=
  (∀ j, j < J.length → ∃ k : Nat, S.nx.getD j 0 = (k : Int) ∧ k ≤ (J.getD j []).length) ∧ (∀ b, S.best = some b → b.length = (tasksN J J.length).length ∧ 0 < (tasksN J J.length).length)
def GoPost (w0 : World) (gs gn gj gt g nj n : Nat) (S : Sst) (W : World) (e : Ending) (W' : World) : Prop :=
  e = .returned (.tuple #[]) ∧ Srch w0 gs gn gj gt g nj n W' S ∧ Kept W W' (fun k => k = gs ∨ k = gn ∨ k = gj ∨ k = gt)
theorem Srch.setBest {w0 W : World} {gs gn gj gt g nj n : Nat} {S : Sst} (h : Srch w0 gs gn gj gt g nj n W S) {v : Value} {l : List Int} (en : Int) (hv : Kd.R (Kd.int .i64) 3 W w0.heap.size (fun k => k ≠ gs ∧ k ≠ gn ∧ k ≠ gj ∧ k ≠ gt) v l) : Srch w0 gs gn gj gt g nj n ((W.setCell ⟨gs, 8, none⟩ v).setCell ⟨gs, 9, none⟩ (.int .i64 en)) { S with best := some l, least := en } := by
  obtain ⟨vb, b1, b2⟩ := h.bs
  have ne := h.ne
  refine ⟨(h.below.setCell h.lo.1 _).setCell h.lo.1 _, h.lo, h.ne, h.lens, ⟨v, ?_, ?_⟩, blk_far (blk_far h.rn (by simp; omega) _) (by simp; omega) _, blk_far (blk_far h.rj (by simp; omega) _) (by simp; omega) _, blk_far (blk_far h.rt (by simp; omega) _) (by simp; omega) _⟩
  · exact blk_put (blk_put b1 8 v rfl) 9 (.int .i64 en) rfl
  · exact Kd.R_far (Kd.R_far hv (fun k hk => hk.1) _) (fun k hk => hk.1) _
theorem cloneR {w0 W : World} {gs gn gj gt g nj n : Nat} {S : Sst} (h : Srch w0 gs gn gj gt g nj n W S) {w2 : World} {v : Value} {l : List Int} (hr : Kd.R (Kd.int .i64) 3 w2 W.heap.size (fun _ => True) v l) : Kd.R (Kd.int .i64) 3 w2 w0.heap.size (fun k => k ≠ gs ∧ k ≠ gn ∧ k ≠ gj ∧ k ≠ gt) v l := by
  obtain ⟨vb, b1, _⟩ := h.bs
  have h1 := blk_lt b1
  have h2 := blk_lt h.rn
  have h3 := blk_lt h.rj
  have h4 := blk_lt h.rt
  exact Kd.R_lower (Kd.R_mono (Kd.R_bound hr) (fun k hk => by have := hk.2.1; omega)) h.below.size
def go1T : Bool × List (List Nat × List Nat) := (true, [([], []), ([0], [0]), ([1], [1]), ([2], [2]), ([3], [3]), ([4], [4]), ([5], [5]), ([5], [5]), ([7, 5], [5, 7]), ([8, 5], [5, 8]), ([9, 5], [5, 9]), ([6, 10, 5], [5, 6, 10]), ([5, 11], [5, 11]), ([12, 5], [12]), ([13], [13]), ([13], [13]), ([15, 13], [13, 15]), ([16, 13], [13, 16]), ([17, 13], [13, 17]), ([14, 18, 13], [13, 14, 18]), ([19, 13, 13], [13, 19]), ([20], [20]), ([21, 20], [20, 21]), ([22, 20], [20, 22]), ([23, 20], [20, 23]), ([20], [20]), ([25, 20], [20, 25]), ([26, 20], [20, 26]), ([27, 20], [20, 27]), ([24, 28, 20, 20], [20, 24, 28]), ([29, 20], [20, 29]), ([20, 30, 13], [13, 20, 30]), ([13, 31], [13, 31])])
def go1B : List Nat := [0, 1, 3, 7, 15, 31, 63, 63, 191, 447, 959, 2047, 4095, 8191, 16383, 16383, 49151, 114687, 245759, 524287, 1048575, 2097151, 4194303, 8388607, 16777215, 2097151, 35651583, 102760447, 236978175, 536870911, 1073741823, 2147483647, 4294967295]
theorem go1tab : rtab .any (opsOf Try.f53 1) = go1T := by kernel_rfl
theorem go1bits : waitsOk go1T.2 go1B = true := by kernel_rfl
set_option maxHeartbeats 2000000 in
set_option maxRecDepth 100000 in
theorem go_leaf (w0 W : World) (gs gn gj gt g : Nat) (J : List (List S40)) (n : Nat) (hn : n = (tasksN J J.length).length) (h10 : n ≤ 10) (en : Int) (S : Sst) (hS : Srch w0 gs gn gj gt g J.length n W S) (hI : Gi J S) :
    Calls Try.prog 53 #[.pointer (some ⟨gs, 0, none⟩), .int .i64 0, .int .i64 en] W (GoPost w0 gs gn gj gt g J.length n (leafF en S) W) := by
  have HS0 := Aside0.mk hS
  have HI := Aside0.mk hI
  have HN := Aside0.mk hn
  have HS := Aside0.mk hS.drew
  obtain ⟨lst, el⟩ : ∃ lst, lst = S.least := ⟨_, rfl⟩
  have EL := Aside0.mk el
  have hclone : ∀ W1 : World, Srch w0 gs gn gj gt g J.length n W1 S → Calls Try.prog 68 #[.slice (some ⟨gt, 0, none⟩) n n] W1 fun e w' => ∃ v0 : Value, e = .returned v0 ∧ Kd.R (Kd.int .i64) 3 w' W1.heap.size (fun _ => True) v0 S.st ∧ Below W1.heap.size W1 w' := by
    intro W1 h
    have h1 := slices_Clone.calls (some ⟨gt, 0, none⟩) n S.st W1 (C_row h.rt (by have := h.lens.2.2.2; omega)) (by have := h.lens.2.2.2; omega) (by have := h.lens.2.2.2; omega)
    rw [h.lens.2.2.2] at h1
    exact h1
  have HCL := Aside0.mk hclone
  clear hS hI hn el hclone
  cases eb : S.best with
  | none =>
    have EB := Aside0.mk eb
    have HE := Aside0.mk (show leafF en S = { S with best := some S.st, least := en } by unfold leafF; rw [eb])
    clear eb
    have hcs := HS.out.cells
    obtain ⟨vb, b1, b2⟩ := HS.out.bs
    rw [EB.out] at b2
    obtain rfl : vb = .slice none 0 0 := b2
    have b8 := (blk_cell b1 8).trans rfl
    clear b1
    go_enter Try.func53, Try.ntmps53
    go_wp2
    refine start_ (n := 33) (S := fun w' => w'.cell? ⟨gs, 8, none⟩ = some (.slice none 0 0) ∧ w'.cell? ⟨gs, 7, none⟩ = some (.slice (some ⟨gt, 0, none⟩) n n) ∧ w'.cell? ⟨gs, 9, none⟩ = some (.int .i64 lst)) (ds := []) #[false, false, false, false, false, false, false, false, false, false, false, false, false, false, false, false, false, false, false, false, false, false, false, false, false, false, false, false, false, false, false, false, false] (by kernel_rfl) rfl rfl ⟨b8, hcs.2.2.2.1, by rw [EL.out]; exact hcs.2.2.2.2⟩ (fun hHeld => ?_)
    refine with_tabW go1tab go1bits (fun HT_ HW_ => ?_)
    have HK := Aside0.mk (Kept.drew (Kept.refl W (fun k => k = gs ∨ k = gn ∨ k = gj ∨ k = gt)))
    have HBW := Aside0.mk (below_drew1 (Below.refl W.heap.size W))
    generalize W.drew = w1 at HS HK HBW hHeld ⊢
    refine pure_ (i := 0) (N := some 16) (v := ?_) (a' := ?_) (qd 33 1) rfl rfl (any_of HT_.out (by kernel_rfl)) (fun _ _ _ h => h) (Or.inl ⟨by rfl, ?_⟩) ?_ ?_
    rotate_left
    · intro w'
      go_simp
      with_reducible rfl
    rotate_left
    · simp only [Act.put, qa, qb, qc, i64_w, i32_w]
      rfl
    refine pure_ (i := 1) (N := some 17) (v := ?_) (a' := ?_) (qd 33 3) rfl rfl (any_of HT_.out (by kernel_rfl)) (fun _ _ _ h => h) (Or.inl ⟨by rfl, ?_⟩) ?_ ?_
    rotate_left
    · intro w'
      go_simp
      with_reducible rfl
    rotate_left
    · simp only [Act.put, qa, qb, qc, i64_w, i32_w]
      rfl
    refine pure_ (i := 2) (N := some 18) (v := ?_) (a' := ?_) (qd 33 7) rfl rfl (any_of HT_.out (by kernel_rfl)) (fun _ _ _ h => h) (Or.inl ⟨by rfl, ?_⟩) ?_ ?_
    rotate_left
    · intro w'
      go_simp
      with_reducible rfl
    rotate_left
    · simp only [Act.put, qa, qb, qc, i64_w, i32_w]
      rfl
    refine take_ (i := 3) (N := some 19) (v := ?_) (a' := ?_) (qd 33 15) rfl rfl (take_ofW HT_.out HW_.out (by kernel_rfl)) (fun _ _ _ h => h) (Or.inl ⟨by rfl, ?_⟩) hHeld ?_ ?_
    rotate_left
    · rintro w' ⟨s0, s1, s2⟩
      go_simp
      with_reducible rfl
    rotate_left
    · simp only [Act.put, qa, qb, qc, i64_w, i32_w]
      rfl
    refine pure_ (i := 4) (N := some 20) (v := ?_) (a' := ?_) (qd 33 31) rfl rfl (any_of HT_.out (by kernel_rfl)) (fun _ _ _ h => h) (Or.inl ⟨by rfl, ?_⟩) ?_ ?_
    rotate_left
    · intro w'
      go_simp
      with_reducible rfl
    rotate_left
    · simp only [Act.put, qa, qb, qc, i64_w, i32_w]
      rfl
    refine pure_ (i := 5) (N := some 21) (v := ?_) (a' := ?_) (qd 33 63) rfl rfl (any_of HT_.out (by kernel_rfl)) (fun _ _ _ h => h) (Or.inl ⟨by rfl, ?_⟩) ?_ ?_
    rotate_left
    · intro w'
      go_simp
      with_reducible rfl
    rotate_left
    · simp only [Act.put, qa, qb, qc, i64_w, i32_w]
      rfl
    refine pure_ (i := 6) (N := some 22) (v := undef) (a' := ?_) (qd 33 127) rfl rfl (any_of HT_.out (by kernel_rfl)) (fun _ _ _ h => h) (Or.inr ⟨by rfl, rfl⟩) ?_ ?_
    rotate_left
    · simp only [Act.put, qa, qb, qc, i64_w, i32_w]
      rfl
    refine pure_ (i := 7) (N := some 23) (v := undef) (a' := ?_) (qd 33 255) rfl rfl (any_of HT_.out (by kernel_rfl)) (fun _ _ _ h => h) (Or.inr ⟨by rfl, rfl⟩) ?_ ?_
    rotate_left
    · simp only [Act.put, qa, qb, qc, i64_w, i32_w]
      rfl
    refine pure_ (i := 8) (N := some 24) (v := undef) (a' := ?_) (qd 33 511) rfl rfl (any_of HT_.out (by kernel_rfl)) (fun _ _ _ h => h) (Or.inr ⟨by rfl, rfl⟩) ?_ ?_
    rotate_left
    · simp only [Act.put, qa, qb, qc, i64_w, i32_w]
      rfl
    refine pure_ (i := 9) (N := some 25) (v := undef) (a' := ?_) (qd 33 1023) rfl rfl (any_of HT_.out (by kernel_rfl)) (fun _ _ _ h => h) (Or.inr ⟨by rfl, rfl⟩) ?_ ?_
    rotate_left
    · simp only [Act.put, qa, qb, qc, i64_w, i32_w]
      rfl
    refine pure_ (i := 10) (N := some 26) (v := undef) (a' := ?_) (qd 33 2047) rfl rfl (any_of HT_.out (by kernel_rfl)) (fun _ _ _ h => h) (Or.inr ⟨by rfl, rfl⟩) ?_ ?_
    rotate_left
    · simp only [Act.put, qa, qb, qc, i64_w, i32_w]
      rfl
    refine pure_ (i := 11) (N := some 27) (v := undef) (a' := ?_) (qd 33 4095) rfl rfl (any_of HT_.out (by kernel_rfl)) (fun _ _ _ h => h) (Or.inr ⟨by rfl, rfl⟩) ?_ ?_
    rotate_left
    · simp only [Act.put, qa, qb, qc, i64_w, i32_w]
      rfl
    refine pure_ (i := 12) (N := some 28) (v := ?_) (a' := ?_) (qd 33 8191) rfl rfl (any_of HT_.out (by kernel_rfl)) (fun _ _ _ h => h) (Or.inl ⟨by rfl, ?_⟩) ?_ ?_
    rotate_left
    · intro w'
      go_simp
      with_reducible rfl
    rotate_left
    · simp only [Act.put, qa, qb, qc, i64_w, i32_w]
      rfl
    refine pure_ (i := 13) (N := some 29) (v := ?_) (a' := ?_) (qd 33 16383) rfl rfl (any_of HT_.out (by kernel_rfl)) (fun _ _ _ h => h) (Or.inl ⟨by rfl, ?_⟩) ?_ ?_
    rotate_left
    · intro w'
      go_simp
      with_reducible rfl
    rotate_left
    · simp only [Act.put, qa, qb, qc, i64_w, i32_w]
      rfl
    refine pure_ (i := 14) (N := some 30) (v := undef) (a' := ?_) (qd 33 32767) rfl rfl (any_of HT_.out (by kernel_rfl)) (fun _ _ _ h => h) (Or.inr ⟨by rfl, rfl⟩) ?_ ?_
    rotate_left
    · simp only [Act.put, qa, qb, qc, i64_w, i32_w]
      rfl
    refine pure_ (i := 15) (N := some 31) (v := undef) (a' := ?_) (qd 33 65535) rfl rfl (any_of HT_.out (by kernel_rfl)) (fun _ _ _ h => h) (Or.inr ⟨by rfl, rfl⟩) ?_ ?_
    rotate_left
    · simp only [Act.put, qa, qb, qc, i64_w, i32_w]
      rfl
    refine pure_ (i := 16) (N := some 32) (v := undef) (a' := ?_) (qd 33 131071) rfl rfl (any_of HT_.out (by kernel_rfl)) (fun _ _ _ h => h) (Or.inr ⟨by rfl, rfl⟩) ?_ ?_
    rotate_left
    · simp only [Act.put, qa, qb, qc, i64_w, i32_w]
      rfl
    refine pure_ (i := 17) (N := some 33) (v := undef) (a' := ?_) (qd 33 262143) rfl rfl (any_of HT_.out (by kernel_rfl)) (fun _ _ _ h => h) (Or.inr ⟨by rfl, rfl⟩) ?_ ?_
    rotate_left
    · simp only [Act.put, qa, qb, qc, i64_w, i32_w]
      rfl
    refine pure_ (i := 18) (N := some 34) (v := undef) (a' := ?_) (qd 33 524287) rfl rfl (any_of HT_.out (by kernel_rfl)) (fun _ _ _ h => h) (Or.inr ⟨by rfl, rfl⟩) ?_ ?_
    rotate_left
    · simp only [Act.put, qa, qb, qc, i64_w, i32_w]
      rfl
    refine pure_ (i := 19) (N := some 35) (v := undef) (a' := ?_) (qd 33 1048575) rfl rfl (any_of HT_.out (by kernel_rfl)) (fun _ _ _ h => h) (Or.inr ⟨by rfl, rfl⟩) ?_ ?_
    rotate_left
    · simp only [Act.put, qa, qb, qc, i64_w, i32_w]
      rfl
    refine pure_ (i := 20) (N := some 36) (v := undef) (a' := ?_) (qd 33 2097151) rfl rfl (any_of HT_.out (by kernel_rfl)) (fun _ _ _ h => h) (Or.inr ⟨by rfl, rfl⟩) ?_ ?_
    rotate_left
    · simp only [Act.put, qa, qb, qc, i64_w, i32_w]
      rfl
    refine pure_ (i := 21) (N := some 37) (v := undef) (a' := ?_) (qd 33 4194303) rfl rfl (any_of HT_.out (by kernel_rfl)) (fun _ _ _ h => h) (Or.inr ⟨by rfl, rfl⟩) ?_ ?_
    rotate_left
    · simp only [Act.put, qa, qb, qc, i64_w, i32_w]
      rfl
    refine pure_ (i := 22) (N := some 38) (v := undef) (a' := ?_) (qd 33 8388607) rfl rfl (any_of HT_.out (by kernel_rfl)) (fun _ _ _ h => h) (Or.inr ⟨by rfl, rfl⟩) ?_ ?_
    rotate_left
    · simp only [Act.put, qa, qb, qc, i64_w, i32_w]
      rfl
    refine pure_ (i := 23) (N := some 39) (v := undef) (a' := ?_) (qd 33 16777215) rfl rfl (any_of HT_.out (by kernel_rfl)) (fun _ _ _ h => h) (Or.inr ⟨by rfl, rfl⟩) ?_ ?_
    rotate_left
    · simp only [Act.put, qa, qb, qc, i64_w, i32_w]
      rfl
    refine pure_ (i := 24) (N := some 40) (v := undef) (a' := ?_) (qd 33 33554431) rfl rfl (any_of HT_.out (by kernel_rfl)) (fun _ _ _ h => h) (Or.inr ⟨by rfl, rfl⟩) ?_ ?_
    rotate_left
    · simp only [Act.put, qa, qb, qc, i64_w, i32_w]
      rfl
    refine pure_ (i := 25) (N := some 41) (v := undef) (a' := ?_) (qd 33 67108863) rfl rfl (any_of HT_.out (by kernel_rfl)) (fun _ _ _ h => h) (Or.inr ⟨by rfl, rfl⟩) ?_ ?_
    rotate_left
    · simp only [Act.put, qa, qb, qc, i64_w, i32_w]
      rfl
    refine pure_ (i := 26) (N := some 42) (v := undef) (a' := ?_) (qd 33 134217727) rfl rfl (any_of HT_.out (by kernel_rfl)) (fun _ _ _ h => h) (Or.inr ⟨by rfl, rfl⟩) ?_ ?_
    rotate_left
    · simp only [Act.put, qa, qb, qc, i64_w, i32_w]
      rfl
    refine pure_ (i := 27) (N := some 43) (v := undef) (a' := ?_) (qd 33 268435455) rfl rfl (any_of HT_.out (by kernel_rfl)) (fun _ _ _ h => h) (Or.inr ⟨by rfl, rfl⟩) ?_ ?_
    rotate_left
    · simp only [Act.put, qa, qb, qc, i64_w, i32_w]
      rfl
    refine pure_ (i := 28) (N := some 44) (v := undef) (a' := ?_) (qd 33 536870911) rfl rfl (any_of HT_.out (by kernel_rfl)) (fun _ _ _ h => h) (Or.inr ⟨by rfl, rfl⟩) ?_ ?_
    rotate_left
    · simp only [Act.put, qa, qb, qc, i64_w, i32_w]
      rfl
    refine pure_ (i := 29) (N := some 45) (v := undef) (a' := ?_) (qd 33 1073741823) rfl rfl (any_of HT_.out (by kernel_rfl)) (fun _ _ _ h => h) (Or.inr ⟨by rfl, rfl⟩) ?_ ?_
    rotate_left
    · simp only [Act.put, qa, qb, qc, i64_w, i32_w]
      rfl
    refine pure_ (i := 30) (N := some 46) (v := undef) (a' := ?_) (qd 33 2147483647) rfl rfl (any_of HT_.out (by kernel_rfl)) (fun _ _ _ h => h) (Or.inr ⟨by rfl, rfl⟩) ?_ ?_
    rotate_left
    · simp only [Act.put, qa, qb, qc, i64_w, i32_w]
      rfl
    refine pure_ (i := 31) (N := some 47) (v := undef) (a' := ?_) (qd 33 4294967295) rfl rfl (any_of HT_.out (by kernel_rfl)) (fun _ _ _ h => h) (Or.inr ⟨by rfl, rfl⟩) ?_ ?_
    rotate_left
    · simp only [Act.put, qa, qb, qc, i64_w, i32_w]
      rfl
    refine pure_ (i := 32) (N := some 48) (v := ?_) (a' := ?_) (qd 33 8589934591) rfl rfl (any_of HT_.out (by kernel_rfl)) (fun _ _ _ h => h) (Or.inl ⟨by rfl, ?_⟩) ?_ ?_
    rotate_left
    · intro w'
      go_simp
      with_reducible rfl
    rotate_left
    · simp only [Act.put, qa, qb, qc, i64_w, i32_w]
      rfl
    refine done_ (done_of HT_.out (by kernel_rfl)) ?_
    clear b8 hcs hHeld
    have c7 := HS.out.cells.2.2.2.1
    go_wp2_with (first
      | ((with_reducible refine (HCL.out _ HS.out).mono ?_); rintro e w2 ⟨v0, rfl, hr, hb⟩; obtain ⟨A2, m2, c2, rfl⟩ : ∃ A m c, v0 = .slice A m c := (by obtain ⟨A, c, e⟩ := Kd.R_slice hr; exact ⟨A, _, c, e⟩); have HS2 := Aside0.mk (HS.out.below_ hb); have HR2 := Aside0.mk (cloneR HS.out hr); have HB2 := Aside0.mk hb; have f8 := HS2.out.frozen 8; have f9 := HS2.out.frozen 9; obtain ⟨vb2, b21, b22⟩ := HS2.out.bs; have c8 := (blk_cell b21 8).trans rfl; have c9 := (blk_cell b21 9).trans rfl; clear hr hb b21 b22))
    rw [HE.out]
    have HS3 := HS2.out.setBest en HR2.out
    (try simp only [Exit.inBlock, Exit.then])
    refine bodyPost_ret (results_none rfl _ _ _) rfl ⟨rfl, HS3, ?_⟩
    exact Kept.setCell (Kept.setCell (Kept.below HK.out HB2.out) (.inl (.inl rfl)) _) (.inl (.inl rfl)) _
  | some b =>
    have EB := Aside0.mk eb
    have hleaf : leafF en S = if en < S.least ∨ (en = S.least ∧ cmpI S.st b < 0) then { S with best := some S.st, least := en } else S := by
      unfold leafF
      rw [eb]
    rw [← EL.out] at hleaf
    have HLF := Aside0.mk hleaf
    obtain ⟨hbl, hn0⟩ := HI.out.2 b eb
    rw [← HN.out] at hbl hn0
    have HBL := Aside0.mk hbl
    clear eb hleaf
    have hcs := HS.out.cells
    obtain ⟨vb, b1, b2⟩ := HS.out.bs
    rw [EB.out] at b2
    obtain ⟨gb, cap, rfl, gb1, gb2, gb3⟩ := Kd.R_form b2 (by omega)
    rw [hbl] at b1 b2
    have b8 := (blk_cell b1 8).trans rfl
    have hcap : n ≤ cap := by
      have := (Kd.R_reads' b2).2.1
      omega
    have hcmp : ∀ W1 : World, Below W.heap.size W W1 → Calls Try.prog 46 #[.slice (some ⟨gt, 0, none⟩) n n, .slice (some ⟨gb, 0, none⟩) n cap] W1 fun e w' => e = .returned (.int .i64 (cmpI S.st b)) ∧ Drawn0 W1 w' := by
      intro W1 h
      have hl := HS0.out.lens.2.2.2
      have hb9 := HBL.out
      have hc1 : Kd.C (Kd.int .i64) W (some ⟨gb, 0, none⟩) n b := by
        obtain ⟨A, c, e, _, hC⟩ := Kd.R_reads b2
        cases e
        rw [hb9] at hC
        exact hC
      have h1 := slices_Compare_int_int.calls (S.st.length + 1) (some ⟨gt, 0, none⟩) n S.st (some ⟨gb, 0, none⟩) cap b (cmpI S.st b) W1 (Kd.C_below (C_row HS0.out.rt (by omega)) h) (by omega) (by rw [hb9]; exact Kd.C_below hc1 h) (by omega) (compare_f _ _ (by omega) (by omega))
      rw [hl, hb9] at h1
      exact h1
    have HCM := Aside0.mk hcmp
    obtain ⟨cv, ecv⟩ : ∃ cv, cv = cmpI S.st b := ⟨_, rfl⟩
    rw [← ecv] at HCM HLF
    have ECV := Aside0.mk ecv
    clear b1 b2 gb1 gb2 gb3 hcap hcmp ecv hbl
    by_cases hlt : en < lst
    · have D1 : decide (en < lst) = true := decide_eq_true hlt
      have HE := Aside0.mk (show leafF en S = { S with best := some S.st, least := en } by rw [HLF.out, if_pos (.inl hlt)])
      go_enter Try.func53, Try.ntmps53
      go_wp2
      refine start_ (n := 33) (S := fun w' => w'.cell? ⟨gs, 8, none⟩ = some (.slice (some ⟨gb, 0, none⟩) n cap) ∧ w'.cell? ⟨gs, 7, none⟩ = some (.slice (some ⟨gt, 0, none⟩) n n) ∧ w'.cell? ⟨gs, 9, none⟩ = some (.int .i64 lst)) (ds := []) #[false, false, false, false, false, false, false, false, false, false, false, false, false, false, false, false, false, false, false, false, false, false, false, false, false, false, false, false, false, false, false, false, false] (by kernel_rfl) rfl rfl ⟨b8, hcs.2.2.2.1, by rw [EL.out]; exact hcs.2.2.2.2⟩ (fun hHeld => ?_)
      refine with_tabW go1tab go1bits (fun HT_ HW_ => ?_)
      have HK := Aside0.mk (Kept.drew (Kept.refl W (fun k => k = gs ∨ k = gn ∨ k = gj ∨ k = gt)))
      have HBW := Aside0.mk (below_drew1 (Below.refl W.heap.size W))
      generalize W.drew = w1 at HS HK HBW hHeld ⊢
      refine pure_ (i := 0) (N := some 16) (v := ?_) (a' := ?_) (qd 33 1) rfl rfl (any_of HT_.out (by kernel_rfl)) (fun _ _ _ h => h) (Or.inl ⟨by rfl, ?_⟩) ?_ ?_
      rotate_left
      · intro w'
        go_simp
        with_reducible rfl
      rotate_left
      · simp only [Act.put, qa, qb, qc, i64_w, i32_w]
        rfl
      refine pure_ (i := 1) (N := some 17) (v := ?_) (a' := ?_) (qd 33 3) rfl rfl (any_of HT_.out (by kernel_rfl)) (fun _ _ _ h => h) (Or.inl ⟨by rfl, ?_⟩) ?_ ?_
      rotate_left
      · intro w'
        go_simp
        with_reducible rfl
      rotate_left
      · simp only [Act.put, qa, qb, qc, i64_w, i32_w]
        rfl
      refine pure_ (i := 2) (N := some 18) (v := ?_) (a' := ?_) (qd 33 7) rfl rfl (any_of HT_.out (by kernel_rfl)) (fun _ _ _ h => h) (Or.inl ⟨by rfl, ?_⟩) ?_ ?_
      rotate_left
      · intro w'
        go_simp
        with_reducible rfl
      rotate_left
      · simp only [Act.put, qa, qb, qc, i64_w, i32_w]
        rfl
      refine take_ (i := 3) (N := some 19) (v := ?_) (a' := ?_) (qd 33 15) rfl rfl (take_ofW HT_.out HW_.out (by kernel_rfl)) (fun _ _ _ h => h) (Or.inl ⟨by rfl, ?_⟩) hHeld ?_ ?_
      rotate_left
      · rintro w' ⟨s0, s1, s2⟩
        go_simp
        with_reducible rfl
      rotate_left
      · simp only [Act.put, qa, qb, qc, i64_w, i32_w]
        rfl
      refine pure_ (i := 4) (N := some 20) (v := ?_) (a' := ?_) (qd 33 31) rfl rfl (any_of HT_.out (by kernel_rfl)) (fun _ _ _ h => h) (Or.inl ⟨by rfl, ?_⟩) ?_ ?_
      rotate_left
      · intro w'
        go_simp
        with_reducible rfl
      rotate_left
      · simp only [Act.put, qa, qb, qc, i64_w, i32_w]
        rfl
      refine pure_ (i := 5) (N := some 21) (v := ?_) (a' := ?_) (qd 33 63) rfl rfl (any_of HT_.out (by kernel_rfl)) (fun _ _ _ h => h) (Or.inl ⟨by rfl, ?_⟩) ?_ ?_
      rotate_left
      · intro w'
        go_simp
        with_reducible rfl
      rotate_left
      · simp only [Act.put, qa, qb, qc, i64_w, i32_w]
        rfl
      refine pure_ (i := 6) (N := some 22) (v := ?_) (a' := ?_) (qd 33 127) rfl rfl (any_of HT_.out (by kernel_rfl)) (fun _ _ _ h => h) (Or.inl ⟨by rfl, ?_⟩) ?_ ?_
      rotate_left
      · intro w'
        go_simp
        with_reducible rfl
      rotate_left
      · simp only [Act.put, qa, qb, qc, i64_w, i32_w]
        rfl
      refine pure_ (i := 7) (N := some 23) (v := ?_) (a' := ?_) (qd 33 255) rfl rfl (any_of HT_.out (by kernel_rfl)) (fun _ _ _ h => h) (Or.inl ⟨by rfl, ?_⟩) ?_ ?_
      rotate_left
      · intro w'
        go_simp
        with_reducible rfl
      rotate_left
      · simp only [Act.put, qa, qb, qc, i64_w, i32_w]
        rfl
      refine pure_ (i := 8) (N := some 24) (v := ?_) (a' := ?_) (qd 33 511) rfl rfl (any_of HT_.out (by kernel_rfl)) (fun _ _ _ h => h) (Or.inl ⟨by rfl, ?_⟩) ?_ ?_
      rotate_left
      · intro w'
        go_simp
        with_reducible rfl
      rotate_left
      · simp only [Act.put, qa, qb, qc, i64_w, i32_w]
        rfl
      refine pure_ (i := 9) (N := some 25) (v := ?_) (a' := ?_) (qd 33 1023) rfl rfl (any_of HT_.out (by kernel_rfl)) (fun _ _ _ h => h) (Or.inl ⟨by rfl, ?_⟩) ?_ ?_
      rotate_left
      · intro w'
        go_simp
        with_reducible rfl
      rotate_left
      · simp only [Act.put, qa, qb, qc, i64_w, i32_w]
        rfl
      refine take_ (i := 10) (N := some 26) (v := ?_) (a' := ?_) (qd 33 2047) rfl rfl (take_ofW HT_.out HW_.out (by kernel_rfl)) (fun _ _ _ h => h) (Or.inl ⟨by rfl, ?_⟩) hHeld ?_ ?_
      rotate_left
      · rintro w' ⟨s0, s1, s2⟩
        go_simp
        with_reducible rfl
      rotate_left
      · simp only [Act.put, qa, qb, qc, i64_w, i32_w]
        rfl
      refine pure_ (i := 11) (N := some 27) (v := ?_) (a' := ?_) (qd 33 4095) rfl rfl (any_of HT_.out (by kernel_rfl)) (fun _ _ _ h => h) (Or.inl ⟨by rfl, ?_⟩) ?_ ?_
      rotate_left
      · intro w'
        go_simp
        (try rw [D1])
        with_reducible rfl
      rotate_left
      · simp only [Act.put, qa, qb, qc, i64_w, i32_w]
        rfl
      refine pure_ (i := 12) (N := some 28) (v := ?_) (a' := ?_) (qd 33 8191) rfl rfl (any_of HT_.out (by kernel_rfl)) (fun _ _ _ h => h) (Or.inl ⟨by rfl, ?_⟩) ?_ ?_
      rotate_left
      · intro w'
        go_simp
        with_reducible rfl
      rotate_left
      · simp only [Act.put, qa, qb, qc, i64_w, i32_w]
        rfl
      refine pure_ (i := 13) (N := some 29) (v := ?_) (a' := ?_) (qd 33 16383) rfl rfl (any_of HT_.out (by kernel_rfl)) (fun _ _ _ h => h) (Or.inl ⟨by rfl, ?_⟩) ?_ ?_
      rotate_left
      · intro w'
        go_simp
        with_reducible rfl
      rotate_left
      · simp only [Act.put, qa, qb, qc, i64_w, i32_w]
        rfl
      refine pure_ (i := 14) (N := some 30) (v := undef) (a' := ?_) (qd 33 32767) rfl rfl (any_of HT_.out (by kernel_rfl)) (fun _ _ _ h => h) (Or.inr ⟨by rfl, rfl⟩) ?_ ?_
      rotate_left
      · simp only [Act.put, qa, qb, qc, i64_w, i32_w]
        rfl
      refine pure_ (i := 15) (N := some 31) (v := undef) (a' := ?_) (qd 33 65535) rfl rfl (any_of HT_.out (by kernel_rfl)) (fun _ _ _ h => h) (Or.inr ⟨by rfl, rfl⟩) ?_ ?_
      rotate_left
      · simp only [Act.put, qa, qb, qc, i64_w, i32_w]
        rfl
      refine pure_ (i := 16) (N := some 32) (v := undef) (a' := ?_) (qd 33 131071) rfl rfl (any_of HT_.out (by kernel_rfl)) (fun _ _ _ h => h) (Or.inr ⟨by rfl, rfl⟩) ?_ ?_
      rotate_left
      · simp only [Act.put, qa, qb, qc, i64_w, i32_w]
        rfl
      refine pure_ (i := 17) (N := some 33) (v := undef) (a' := ?_) (qd 33 262143) rfl rfl (any_of HT_.out (by kernel_rfl)) (fun _ _ _ h => h) (Or.inr ⟨by rfl, rfl⟩) ?_ ?_
      rotate_left
      · simp only [Act.put, qa, qb, qc, i64_w, i32_w]
        rfl
      refine pure_ (i := 18) (N := some 34) (v := undef) (a' := ?_) (qd 33 524287) rfl rfl (any_of HT_.out (by kernel_rfl)) (fun _ _ _ h => h) (Or.inr ⟨by rfl, rfl⟩) ?_ ?_
      rotate_left
      · simp only [Act.put, qa, qb, qc, i64_w, i32_w]
        rfl
      refine pure_ (i := 19) (N := some 35) (v := undef) (a' := ?_) (qd 33 1048575) rfl rfl (any_of HT_.out (by kernel_rfl)) (fun _ _ _ h => h) (Or.inr ⟨by rfl, rfl⟩) ?_ ?_
      rotate_left
      · simp only [Act.put, qa, qb, qc, i64_w, i32_w]
        rfl
      refine pure_ (i := 20) (N := some 36) (v := undef) (a' := ?_) (qd 33 2097151) rfl rfl (any_of HT_.out (by kernel_rfl)) (fun _ _ _ h => h) (Or.inr ⟨by rfl, rfl⟩) ?_ ?_
      rotate_left
      · simp only [Act.put, qa, qb, qc, i64_w, i32_w]
        rfl
      refine pure_ (i := 21) (N := some 37) (v := undef) (a' := ?_) (qd 33 4194303) rfl rfl (any_of HT_.out (by kernel_rfl)) (fun _ _ _ h => h) (Or.inr ⟨by rfl, rfl⟩) ?_ ?_
      rotate_left
      · simp only [Act.put, qa, qb, qc, i64_w, i32_w]
        rfl
      refine pure_ (i := 22) (N := some 38) (v := undef) (a' := ?_) (qd 33 8388607) rfl rfl (any_of HT_.out (by kernel_rfl)) (fun _ _ _ h => h) (Or.inr ⟨by rfl, rfl⟩) ?_ ?_
      rotate_left
      · simp only [Act.put, qa, qb, qc, i64_w, i32_w]
        rfl
      refine pure_ (i := 23) (N := some 39) (v := undef) (a' := ?_) (qd 33 16777215) rfl rfl (any_of HT_.out (by kernel_rfl)) (fun _ _ _ h => h) (Or.inr ⟨by rfl, rfl⟩) ?_ ?_
      rotate_left
      · simp only [Act.put, qa, qb, qc, i64_w, i32_w]
        rfl
      refine pure_ (i := 24) (N := some 40) (v := undef) (a' := ?_) (qd 33 33554431) rfl rfl (any_of HT_.out (by kernel_rfl)) (fun _ _ _ h => h) (Or.inr ⟨by rfl, rfl⟩) ?_ ?_
      rotate_left
      · simp only [Act.put, qa, qb, qc, i64_w, i32_w]
        rfl
      refine pure_ (i := 25) (N := some 41) (v := undef) (a' := ?_) (qd 33 67108863) rfl rfl (any_of HT_.out (by kernel_rfl)) (fun _ _ _ h => h) (Or.inr ⟨by rfl, rfl⟩) ?_ ?_
      rotate_left
      · simp only [Act.put, qa, qb, qc, i64_w, i32_w]
        rfl
      refine pure_ (i := 26) (N := some 42) (v := undef) (a' := ?_) (qd 33 134217727) rfl rfl (any_of HT_.out (by kernel_rfl)) (fun _ _ _ h => h) (Or.inr ⟨by rfl, rfl⟩) ?_ ?_
      rotate_left
      · simp only [Act.put, qa, qb, qc, i64_w, i32_w]
        rfl
      refine pure_ (i := 27) (N := some 43) (v := undef) (a' := ?_) (qd 33 268435455) rfl rfl (any_of HT_.out (by kernel_rfl)) (fun _ _ _ h => h) (Or.inr ⟨by rfl, rfl⟩) ?_ ?_
      rotate_left
      · simp only [Act.put, qa, qb, qc, i64_w, i32_w]
        rfl
      refine pure_ (i := 28) (N := some 44) (v := undef) (a' := ?_) (qd 33 536870911) rfl rfl (any_of HT_.out (by kernel_rfl)) (fun _ _ _ h => h) (Or.inr ⟨by rfl, rfl⟩) ?_ ?_
      rotate_left
      · simp only [Act.put, qa, qb, qc, i64_w, i32_w]
        rfl
      refine pure_ (i := 29) (N := some 45) (v := undef) (a' := ?_) (qd 33 1073741823) rfl rfl (any_of HT_.out (by kernel_rfl)) (fun _ _ _ h => h) (Or.inr ⟨by rfl, rfl⟩) ?_ ?_
      rotate_left
      · simp only [Act.put, qa, qb, qc, i64_w, i32_w]
        rfl
      refine pure_ (i := 30) (N := some 46) (v := undef) (a' := ?_) (qd 33 2147483647) rfl rfl (any_of HT_.out (by kernel_rfl)) (fun _ _ _ h => h) (Or.inr ⟨by rfl, rfl⟩) ?_ ?_
      rotate_left
      · simp only [Act.put, qa, qb, qc, i64_w, i32_w]
        rfl
      refine pure_ (i := 31) (N := some 47) (v := undef) (a' := ?_) (qd 33 4294967295) rfl rfl (any_of HT_.out (by kernel_rfl)) (fun _ _ _ h => h) (Or.inr ⟨by rfl, rfl⟩) ?_ ?_
      rotate_left
      · simp only [Act.put, qa, qb, qc, i64_w, i32_w]
        rfl
      refine pure_ (i := 32) (N := some 48) (v := ?_) (a' := ?_) (qd 33 8589934591) rfl rfl (any_of HT_.out (by kernel_rfl)) (fun _ _ _ h => h) (Or.inl ⟨by rfl, ?_⟩) ?_ ?_
      rotate_left
      · intro w'
        go_simp
        with_reducible rfl
      rotate_left
      · simp only [Act.put, qa, qb, qc, i64_w, i32_w]
        rfl
      refine done_ (done_of HT_.out (by kernel_rfl)) ?_
      clear b8 hcs hHeld
      have c7 := HS.out.cells.2.2.2.1
      go_wp2_with (first
        | ((with_reducible refine (HCL.out _ HS.out).mono ?_); rintro e w2 ⟨v0, rfl, hr, hb⟩; obtain ⟨A2, m2, c2, rfl⟩ : ∃ A m c, v0 = .slice A m c := (by obtain ⟨A, c, e⟩ := Kd.R_slice hr; exact ⟨A, _, c, e⟩); have HS2 := Aside0.mk (HS.out.below_ hb); have HR2 := Aside0.mk (cloneR HS.out hr); have HB2 := Aside0.mk hb; have f8 := HS2.out.frozen 8; have f9 := HS2.out.frozen 9; obtain ⟨vb2, b21, b22⟩ := HS2.out.bs; have c8 := (blk_cell b21 8).trans rfl; have c9 := (blk_cell b21 9).trans rfl; clear hr hb b21 b22))
      rw [HE.out]
      have HS3 := HS2.out.setBest en HR2.out
      (try simp only [Exit.inBlock, Exit.then])
      refine bodyPost_ret (results_none rfl _ _ _) rfl ⟨rfl, HS3, ?_⟩
      exact Kept.setCell (Kept.setCell (Kept.below HK.out HB2.out) (.inl (.inl rfl)) _) (.inl (.inl rfl)) _
    · have D1 : decide (en < lst) = false := decide_eq_false hlt
      by_cases heq : en = lst
      · by_cases hc0 : cv < 0
        · have HE := Aside0.mk (show leafF en S = { S with best := some S.st, least := en } by rw [HLF.out, if_pos (.inr ⟨heq, hc0⟩)])
          have D2 : (en == lst) = true := beq_iff_eq.2 heq
          clear heq
          go_enter Try.func53, Try.ntmps53
          go_wp2
          refine start_ (n := 33) (S := fun w' => w'.cell? ⟨gs, 8, none⟩ = some (.slice (some ⟨gb, 0, none⟩) n cap) ∧ w'.cell? ⟨gs, 7, none⟩ = some (.slice (some ⟨gt, 0, none⟩) n n) ∧ w'.cell? ⟨gs, 9, none⟩ = some (.int .i64 lst)) (ds := []) #[false, false, false, false, false, false, false, false, false, false, false, false, false, false, false, false, false, false, false, false, false, false, false, false, false, false, false, false, false, false, false, false, false] (by kernel_rfl) rfl rfl ⟨b8, hcs.2.2.2.1, by rw [EL.out]; exact hcs.2.2.2.2⟩ (fun hHeld => ?_)
          refine with_tabW go1tab go1bits (fun HT_ HW_ => ?_)
          have HK := Aside0.mk (Kept.drew (Kept.refl W (fun k => k = gs ∨ k = gn ∨ k = gj ∨ k = gt)))
          have HBW := Aside0.mk (below_drew1 (Below.refl W.heap.size W))
          generalize W.drew = w1 at HS HK HBW hHeld ⊢
          refine pure_ (i := 0) (N := some 16) (v := ?_) (a' := ?_) (qd 33 1) rfl rfl (any_of HT_.out (by kernel_rfl)) (fun _ _ _ h => h) (Or.inl ⟨by rfl, ?_⟩) ?_ ?_
          rotate_left
          · intro w'
            go_simp
            with_reducible rfl
          rotate_left
          · simp only [Act.put, qa, qb, qc, i64_w, i32_w]
            rfl
          refine pure_ (i := 1) (N := some 17) (v := ?_) (a' := ?_) (qd 33 3) rfl rfl (any_of HT_.out (by kernel_rfl)) (fun _ _ _ h => h) (Or.inl ⟨by rfl, ?_⟩) ?_ ?_
          rotate_left
          · intro w'
            go_simp
            with_reducible rfl
          rotate_left
          · simp only [Act.put, qa, qb, qc, i64_w, i32_w]
            rfl
          refine pure_ (i := 2) (N := some 18) (v := ?_) (a' := ?_) (qd 33 7) rfl rfl (any_of HT_.out (by kernel_rfl)) (fun _ _ _ h => h) (Or.inl ⟨by rfl, ?_⟩) ?_ ?_
          rotate_left
          · intro w'
            go_simp
            with_reducible rfl
          rotate_left
          · simp only [Act.put, qa, qb, qc, i64_w, i32_w]
            rfl
          refine take_ (i := 3) (N := some 19) (v := ?_) (a' := ?_) (qd 33 15) rfl rfl (take_ofW HT_.out HW_.out (by kernel_rfl)) (fun _ _ _ h => h) (Or.inl ⟨by rfl, ?_⟩) hHeld ?_ ?_
          rotate_left
          · rintro w' ⟨s0, s1, s2⟩
            go_simp
            with_reducible rfl
          rotate_left
          · simp only [Act.put, qa, qb, qc, i64_w, i32_w]
            rfl
          refine pure_ (i := 4) (N := some 20) (v := ?_) (a' := ?_) (qd 33 31) rfl rfl (any_of HT_.out (by kernel_rfl)) (fun _ _ _ h => h) (Or.inl ⟨by rfl, ?_⟩) ?_ ?_
          rotate_left
          · intro w'
            go_simp
            with_reducible rfl
          rotate_left
          · simp only [Act.put, qa, qb, qc, i64_w, i32_w]
            rfl
          refine pure_ (i := 5) (N := some 21) (v := ?_) (a' := ?_) (qd 33 63) rfl rfl (any_of HT_.out (by kernel_rfl)) (fun _ _ _ h => h) (Or.inl ⟨by rfl, ?_⟩) ?_ ?_
          rotate_left
          · intro w'
            go_simp
            with_reducible rfl
          rotate_left
          · simp only [Act.put, qa, qb, qc, i64_w, i32_w]
            rfl
          refine pure_ (i := 6) (N := some 22) (v := ?_) (a' := ?_) (qd 33 127) rfl rfl (any_of HT_.out (by kernel_rfl)) (fun _ _ _ h => h) (Or.inl ⟨by rfl, ?_⟩) ?_ ?_
          rotate_left
          · intro w'
            go_simp
            with_reducible rfl
          rotate_left
          · simp only [Act.put, qa, qb, qc, i64_w, i32_w]
            rfl
          refine pure_ (i := 7) (N := some 23) (v := ?_) (a' := ?_) (qd 33 255) rfl rfl (any_of HT_.out (by kernel_rfl)) (fun _ _ _ h => h) (Or.inl ⟨by rfl, ?_⟩) ?_ ?_
          rotate_left
          · intro w'
            go_simp
            with_reducible rfl
          rotate_left
          · simp only [Act.put, qa, qb, qc, i64_w, i32_w]
            rfl
          refine pure_ (i := 8) (N := some 24) (v := ?_) (a' := ?_) (qd 33 511) rfl rfl (any_of HT_.out (by kernel_rfl)) (fun _ _ _ h => h) (Or.inl ⟨by rfl, ?_⟩) ?_ ?_
          rotate_left
          · intro w'
            go_simp
            with_reducible rfl
          rotate_left
          · simp only [Act.put, qa, qb, qc, i64_w, i32_w]
            rfl
          refine pure_ (i := 9) (N := some 25) (v := ?_) (a' := ?_) (qd 33 1023) rfl rfl (any_of HT_.out (by kernel_rfl)) (fun _ _ _ h => h) (Or.inl ⟨by rfl, ?_⟩) ?_ ?_
          rotate_left
          · intro w'
            go_simp
            with_reducible rfl
          rotate_left
          · simp only [Act.put, qa, qb, qc, i64_w, i32_w]
            rfl
          refine take_ (i := 10) (N := some 26) (v := ?_) (a' := ?_) (qd 33 2047) rfl rfl (take_ofW HT_.out HW_.out (by kernel_rfl)) (fun _ _ _ h => h) (Or.inl ⟨by rfl, ?_⟩) hHeld ?_ ?_
          rotate_left
          · rintro w' ⟨s0, s1, s2⟩
            go_simp
            with_reducible rfl
          rotate_left
          · simp only [Act.put, qa, qb, qc, i64_w, i32_w]
            rfl
          refine pure_ (i := 11) (N := some 27) (v := ?_) (a' := ?_) (qd 33 4095) rfl rfl (any_of HT_.out (by kernel_rfl)) (fun _ _ _ h => h) (Or.inl ⟨by rfl, ?_⟩) ?_ ?_
          rotate_left
          · intro w'
            go_simp
            (try rw [D1])
            with_reducible rfl
          rotate_left
          · simp only [Act.put, qa, qb, qc, i64_w, i32_w]
            rfl
          refine pure_ (i := 12) (N := some 28) (v := ?_) (a' := ?_) (qd 33 8191) rfl rfl (any_of HT_.out (by kernel_rfl)) (fun _ _ _ h => h) (Or.inl ⟨by rfl, ?_⟩) ?_ ?_
          rotate_left
          · intro w'
            go_simp
            with_reducible rfl
          rotate_left
          · simp only [Act.put, qa, qb, qc, i64_w, i32_w]
            rfl
          refine pure_ (i := 13) (N := some 29) (v := ?_) (a' := ?_) (qd 33 16383) rfl rfl (any_of HT_.out (by kernel_rfl)) (fun _ _ _ h => h) (Or.inl ⟨by rfl, ?_⟩) ?_ ?_
          rotate_left
          · intro w'
            go_simp
            with_reducible rfl
          rotate_left
          · simp only [Act.put, qa, qb, qc, i64_w, i32_w]
            rfl
          refine pure_ (i := 14) (N := some 30) (v := ?_) (a' := ?_) (qd 33 32767) rfl rfl (any_of HT_.out (by kernel_rfl)) (fun _ _ _ h => h) (Or.inl ⟨by rfl, ?_⟩) ?_ ?_
          rotate_left
          · intro w'
            go_simp
            with_reducible rfl
          rotate_left
          · simp only [Act.put, qa, qb, qc, i64_w, i32_w]
            rfl
          refine pure_ (i := 15) (N := some 31) (v := ?_) (a' := ?_) (qd 33 65535) rfl rfl (any_of HT_.out (by kernel_rfl)) (fun _ _ _ h => h) (Or.inl ⟨by rfl, ?_⟩) ?_ ?_
          rotate_left
          · intro w'
            go_simp
            with_reducible rfl
          rotate_left
          · simp only [Act.put, qa, qb, qc, i64_w, i32_w]
            rfl
          refine pure_ (i := 16) (N := some 32) (v := ?_) (a' := ?_) (qd 33 131071) rfl rfl (any_of HT_.out (by kernel_rfl)) (fun _ _ _ h => h) (Or.inl ⟨by rfl, ?_⟩) ?_ ?_
          rotate_left
          · intro w'
            go_simp
            with_reducible rfl
          rotate_left
          · simp only [Act.put, qa, qb, qc, i64_w, i32_w]
            rfl
          refine pure_ (i := 17) (N := some 33) (v := ?_) (a' := ?_) (qd 33 262143) rfl rfl (any_of HT_.out (by kernel_rfl)) (fun _ _ _ h => h) (Or.inl ⟨by rfl, ?_⟩) ?_ ?_
          rotate_left
          · intro w'
            go_simp
            with_reducible rfl
          rotate_left
          · simp only [Act.put, qa, qb, qc, i64_w, i32_w]
            rfl
          refine take_ (i := 18) (N := some 34) (v := ?_) (a' := ?_) (qd 33 524287) rfl rfl (take_ofW HT_.out HW_.out (by kernel_rfl)) (fun _ _ _ h => h) (Or.inl ⟨by rfl, ?_⟩) hHeld ?_ ?_
          rotate_left
          · rintro w' ⟨s0, s1, s2⟩
            go_simp
            with_reducible rfl
          rotate_left
          · simp only [Act.put, qa, qb, qc, i64_w, i32_w]
            rfl
          refine pure_ (i := 19) (N := some 35) (v := ?_) (a' := ?_) (qd 33 1048575) rfl rfl (any_of HT_.out (by kernel_rfl)) (fun _ _ _ h => h) (Or.inl ⟨by rfl, ?_⟩) ?_ ?_
          rotate_left
          · intro w'
            go_simp
            (try rw [D2])
            with_reducible rfl
          rotate_left
          · simp only [Act.put, qa, qb, qc, i64_w, i32_w]
            rfl
          refine pure_ (i := 20) (N := some 36) (v := ?_) (a' := ?_) (qd 33 2097151) rfl rfl (any_of HT_.out (by kernel_rfl)) (fun _ _ _ h => h) (Or.inl ⟨by rfl, ?_⟩) ?_ ?_
          rotate_left
          · intro w'
            go_simp
            with_reducible rfl
          rotate_left
          · simp only [Act.put, qa, qb, qc, i64_w, i32_w]
            rfl
          refine pure_ (i := 21) (N := some 37) (v := ?_) (a' := ?_) (qd 33 4194303) rfl rfl (any_of HT_.out (by kernel_rfl)) (fun _ _ _ h => h) (Or.inl ⟨by rfl, ?_⟩) ?_ ?_
          rotate_left
          · intro w'
            go_simp
            with_reducible rfl
          rotate_left
          · simp only [Act.put, qa, qb, qc, i64_w, i32_w]
            rfl
          refine pure_ (i := 22) (N := some 38) (v := ?_) (a' := ?_) (qd 33 8388607) rfl rfl (any_of HT_.out (by kernel_rfl)) (fun _ _ _ h => h) (Or.inl ⟨by rfl, ?_⟩) ?_ ?_
          rotate_left
          · intro w'
            go_simp
            with_reducible rfl
          rotate_left
          · simp only [Act.put, qa, qb, qc, i64_w, i32_w]
            rfl
          refine pure_ (i := 23) (N := some 39) (v := ?_) (a' := ?_) (qd 33 16777215) rfl rfl (any_of HT_.out (by kernel_rfl)) (fun _ _ _ h => h) (Or.inl ⟨by rfl, ?_⟩) ?_ ?_
          rotate_left
          · intro w'
            go_simp
            with_reducible rfl
          rotate_left
          · simp only [Act.put, qa, qb, qc, i64_w, i32_w]
            rfl
          refine pure_ (i := 25) (N := some 41) (v := ?_) (a' := ?_) (qd 33 50331647) rfl rfl (any_of HT_.out (by kernel_rfl)) (fun _ _ _ h => h) (Or.inl ⟨by rfl, ?_⟩) ?_ ?_
          rotate_left
          · intro w'
            go_simp
            with_reducible rfl
          rotate_left
          · simp only [Act.put, qa, qb, qc, i64_w, i32_w]
            rfl
          refine pure_ (i := 26) (N := some 42) (v := ?_) (a' := ?_) (qd 33 117440511) rfl rfl (any_of HT_.out (by kernel_rfl)) (fun _ _ _ h => h) (Or.inl ⟨by rfl, ?_⟩) ?_ ?_
          rotate_left
          · intro w'
            go_simp
            with_reducible rfl
          rotate_left
          · simp only [Act.put, qa, qb, qc, i64_w, i32_w]
            rfl
          refine pure_ (i := 27) (N := some 43) (v := ?_) (a' := ?_) (qd 33 251658239) rfl rfl (any_of HT_.out (by kernel_rfl)) (fun _ _ _ h => h) (Or.inl ⟨by rfl, ?_⟩) ?_ ?_
          rotate_left
          · intro w'
            go_simp
            with_reducible rfl
          rotate_left
          · simp only [Act.put, qa, qb, qc, i64_w, i32_w]
            rfl
          refine take_ (i := 24) (N := some 40) (v := ?_) (a' := ?_) (qd 33 268435455) rfl rfl (take_ofW HT_.out HW_.out (by kernel_rfl)) (fun _ _ _ h => h) (Or.inl ⟨by rfl, ?_⟩) hHeld ?_ ?_
          rotate_left
          · rintro w' ⟨s0, s1, s2⟩
            go_simp
            with_reducible rfl
          rotate_left
          · simp only [Act.put, qa, qb, qc, i64_w, i32_w]
            rfl
          refine take_ (i := 28) (N := some 44) (v := ?_) (a' := ?_) (qd 33 536870911) rfl rfl (take_ofW HT_.out HW_.out (by kernel_rfl)) (fun _ _ _ h => h) (Or.inl ⟨by rfl, ?_⟩) hHeld ?_ ?_
          rotate_left
          · rintro w' ⟨s0, s1, s2⟩
            go_simp
            with_reducible rfl
          rotate_left
          · simp only [Act.put, qa, qb, qc, i64_w, i32_w]
            rfl
          refine one_ (i := 29) (N := some 45) (qd 33 1073741823) rfl rfl (one_of HT_.out (by kernel_rfl)) (by decide) (fun K hK => ?_)
          with_reducible refine goes_ (f := 46) (fn := Try.f46) (as0 := #[.tmp 40, .tmp 44]) (ts := #[26, 26]) ?q1 ?q2 ?q3 #[.slice (some ⟨gt, 0, none⟩) n n, .slice (some ⟨gb, 0, none⟩) n cap] ?q4 ?q5 ?q6 ?q7 ?q8
          (case q1 => exact Try.func46)
          (case q2 => kernel_rfl)
          (case q3 => kernel_rfl)
          (case q4 => rfl)
          (case q5 => rfl)
          (case q6 => rfl)
          (case q7 => (simp only [List.map_toArray, List.map_cons, List.map_nil]; rfl))
          case q8 =>
          refine (HCM.out w1 HBW.out).mono ?_
          rintro e w2 ⟨rfl, hb⟩
          refine ⟨_, rfl, ?_⟩
          have n1 := Aside0.mk (HS.out.below_ hb.below)
          have n2 := Aside0.mk (Kept.below HK.out hb.below)
          refine hK.out _ _ (by obtain ⟨a1, a2, a3⟩ := hHeld; exact ⟨pw_cell_below hb.below a1, pw_cell_below hb.below a2, pw_cell_below hb.below a3⟩) (fun hHeld => ?_)
          clear hK K hb HS HK
          have HS := n1
          have HK := n2
          clear n1 n2
          refine norm_ (a' := ?_) ?_ ?_
          rotate_left
          · show Act.put _ (some 45) _ = _
            simp only [Act.put, qa, qb, qc, i64_w, i32_w]
            rfl
          refine pure_ (i := 30) (N := some 46) (v := ?_) (a' := ?_) (qd 33 2147483647) rfl rfl (any_of HT_.out (by kernel_rfl)) (fun _ _ _ h => h) (Or.inl ⟨by rfl, ?_⟩) ?_ ?_
          rotate_left
          · intro w'
            go_simp
            with_reducible rfl
          rotate_left
          · simp only [Act.put, qa, qb, qc, i64_w, i32_w]
            rfl
          refine pure_ (i := 31) (N := some 47) (v := ?_) (a' := ?_) (qd 33 4294967295) rfl rfl (any_of HT_.out (by kernel_rfl)) (fun _ _ _ h => h) (Or.inl ⟨by rfl, ?_⟩) ?_ ?_
          rotate_left
          · intro w'
            go_simp
            with_reducible rfl
          rotate_left
          · simp only [Act.put, qa, qb, qc, i64_w, i32_w]
            rfl
          refine pure_ (i := 32) (N := some 48) (v := ?_) (a' := ?_) (qd 33 8589934591) rfl rfl (any_of HT_.out (by kernel_rfl)) (fun _ _ _ h => h) (Or.inl ⟨by rfl, ?_⟩) ?_ ?_
          rotate_left
          · intro w'
            go_simp
            with_reducible rfl
          rotate_left
          · simp only [Act.put, qa, qb, qc, i64_w, i32_w]
            rfl
          refine done_ (done_of HT_.out (by kernel_rfl)) ?_
          clear b8 hcs hHeld
          have c7 := HS.out.cells.2.2.2.1
          go_wp2_with (first
            | ((with_reducible refine (HCL.out _ HS.out).mono ?_); rintro e w2 ⟨v0, rfl, hr, hb⟩; obtain ⟨A2, m2, c2, rfl⟩ : ∃ A m c, v0 = .slice A m c := (by obtain ⟨A, c, e⟩ := Kd.R_slice hr; exact ⟨A, _, c, e⟩); have HS2 := Aside0.mk (HS.out.below_ hb); have HR2 := Aside0.mk (cloneR HS.out hr); have HB2 := Aside0.mk hb; have f8 := HS2.out.frozen 8; have f9 := HS2.out.frozen 9; obtain ⟨vb2, b21, b22⟩ := HS2.out.bs; have c8 := (blk_cell b21 8).trans rfl; have c9 := (blk_cell b21 9).trans rfl; clear hr hb b21 b22))
          rw [HE.out]
          have HS3 := HS2.out.setBest en HR2.out
          (try simp only [Exit.inBlock, Exit.then])
          refine bodyPost_ret (results_none rfl _ _ _) rfl ⟨rfl, HS3, ?_⟩
          exact Kept.setCell (Kept.setCell (Kept.below HK.out HB2.out) (.inl (.inl rfl)) _) (.inl (.inl rfl)) _
        · have HE := Aside0.mk (show leafF en S = S by rw [HLF.out, if_neg (by omega)])
          have D2 : (en == lst) = true := beq_iff_eq.2 heq
          clear heq
          go_enter Try.func53, Try.ntmps53
          go_wp2
          refine start_ (n := 33) (S := fun w' => w'.cell? ⟨gs, 8, none⟩ = some (.slice (some ⟨gb, 0, none⟩) n cap) ∧ w'.cell? ⟨gs, 7, none⟩ = some (.slice (some ⟨gt, 0, none⟩) n n) ∧ w'.cell? ⟨gs, 9, none⟩ = some (.int .i64 lst)) (ds := []) #[false, false, false, false, false, false, false, false, false, false, false, false, false, false, false, false, false, false, false, false, false, false, false, false, false, false, false, false, false, false, false, false, false] (by kernel_rfl) rfl rfl ⟨b8, hcs.2.2.2.1, by rw [EL.out]; exact hcs.2.2.2.2⟩ (fun hHeld => ?_)
          refine with_tabW go1tab go1bits (fun HT_ HW_ => ?_)
          have HK := Aside0.mk (Kept.drew (Kept.refl W (fun k => k = gs ∨ k = gn ∨ k = gj ∨ k = gt)))
          have HBW := Aside0.mk (below_drew1 (Below.refl W.heap.size W))
          generalize W.drew = w1 at HS HK HBW hHeld ⊢
          refine pure_ (i := 0) (N := some 16) (v := ?_) (a' := ?_) (qd 33 1) rfl rfl (any_of HT_.out (by kernel_rfl)) (fun _ _ _ h => h) (Or.inl ⟨by rfl, ?_⟩) ?_ ?_
          rotate_left
          · intro w'
            go_simp
            with_reducible rfl
          rotate_left
          · simp only [Act.put, qa, qb, qc, i64_w, i32_w]
            rfl
          refine pure_ (i := 1) (N := some 17) (v := ?_) (a' := ?_) (qd 33 3) rfl rfl (any_of HT_.out (by kernel_rfl)) (fun _ _ _ h => h) (Or.inl ⟨by rfl, ?_⟩) ?_ ?_
          rotate_left
          · intro w'
            go_simp
            with_reducible rfl
          rotate_left
          · simp only [Act.put, qa, qb, qc, i64_w, i32_w]
            rfl
          refine pure_ (i := 2) (N := some 18) (v := ?_) (a' := ?_) (qd 33 7) rfl rfl (any_of HT_.out (by kernel_rfl)) (fun _ _ _ h => h) (Or.inl ⟨by rfl, ?_⟩) ?_ ?_
          rotate_left
          · intro w'
            go_simp
            with_reducible rfl
          rotate_left
          · simp only [Act.put, qa, qb, qc, i64_w, i32_w]
            rfl
          refine take_ (i := 3) (N := some 19) (v := ?_) (a' := ?_) (qd 33 15) rfl rfl (take_ofW HT_.out HW_.out (by kernel_rfl)) (fun _ _ _ h => h) (Or.inl ⟨by rfl, ?_⟩) hHeld ?_ ?_
          rotate_left
          · rintro w' ⟨s0, s1, s2⟩
            go_simp
            with_reducible rfl
          rotate_left
          · simp only [Act.put, qa, qb, qc, i64_w, i32_w]
            rfl
          refine pure_ (i := 4) (N := some 20) (v := ?_) (a' := ?_) (qd 33 31) rfl rfl (any_of HT_.out (by kernel_rfl)) (fun _ _ _ h => h) (Or.inl ⟨by rfl, ?_⟩) ?_ ?_
          rotate_left
          · intro w'
            go_simp
            with_reducible rfl
          rotate_left
          · simp only [Act.put, qa, qb, qc, i64_w, i32_w]
            rfl
          refine pure_ (i := 5) (N := some 21) (v := ?_) (a' := ?_) (qd 33 63) rfl rfl (any_of HT_.out (by kernel_rfl)) (fun _ _ _ h => h) (Or.inl ⟨by rfl, ?_⟩) ?_ ?_
          rotate_left
          · intro w'
            go_simp
            with_reducible rfl
          rotate_left
          · simp only [Act.put, qa, qb, qc, i64_w, i32_w]
            rfl
          refine pure_ (i := 6) (N := some 22) (v := ?_) (a' := ?_) (qd 33 127) rfl rfl (any_of HT_.out (by kernel_rfl)) (fun _ _ _ h => h) (Or.inl ⟨by rfl, ?_⟩) ?_ ?_
          rotate_left
          · intro w'
            go_simp
            with_reducible rfl
          rotate_left
          · simp only [Act.put, qa, qb, qc, i64_w, i32_w]
            rfl
          refine pure_ (i := 7) (N := some 23) (v := ?_) (a' := ?_) (qd 33 255) rfl rfl (any_of HT_.out (by kernel_rfl)) (fun _ _ _ h => h) (Or.inl ⟨by rfl, ?_⟩) ?_ ?_
          rotate_left
          · intro w'
            go_simp
            with_reducible rfl
          rotate_left
          · simp only [Act.put, qa, qb, qc, i64_w, i32_w]
            rfl
          refine pure_ (i := 8) (N := some 24) (v := ?_) (a' := ?_) (qd 33 511) rfl rfl (any_of HT_.out (by kernel_rfl)) (fun _ _ _ h => h) (Or.inl ⟨by rfl, ?_⟩) ?_ ?_
          rotate_left
          · intro w'
            go_simp
            with_reducible rfl
          rotate_left
          · simp only [Act.put, qa, qb, qc, i64_w, i32_w]
            rfl
          refine pure_ (i := 9) (N := some 25) (v := ?_) (a' := ?_) (qd 33 1023) rfl rfl (any_of HT_.out (by kernel_rfl)) (fun _ _ _ h => h) (Or.inl ⟨by rfl, ?_⟩) ?_ ?_
          rotate_left
          · intro w'
            go_simp
            with_reducible rfl
          rotate_left
          · simp only [Act.put, qa, qb, qc, i64_w, i32_w]
            rfl
          refine take_ (i := 10) (N := some 26) (v := ?_) (a' := ?_) (qd 33 2047) rfl rfl (take_ofW HT_.out HW_.out (by kernel_rfl)) (fun _ _ _ h => h) (Or.inl ⟨by rfl, ?_⟩) hHeld ?_ ?_
          rotate_left
          · rintro w' ⟨s0, s1, s2⟩
            go_simp
            with_reducible rfl
          rotate_left
          · simp only [Act.put, qa, qb, qc, i64_w, i32_w]
            rfl
          refine pure_ (i := 11) (N := some 27) (v := ?_) (a' := ?_) (qd 33 4095) rfl rfl (any_of HT_.out (by kernel_rfl)) (fun _ _ _ h => h) (Or.inl ⟨by rfl, ?_⟩) ?_ ?_
          rotate_left
          · intro w'
            go_simp
            (try rw [D1])
            with_reducible rfl
          rotate_left
          · simp only [Act.put, qa, qb, qc, i64_w, i32_w]
            rfl
          refine pure_ (i := 12) (N := some 28) (v := ?_) (a' := ?_) (qd 33 8191) rfl rfl (any_of HT_.out (by kernel_rfl)) (fun _ _ _ h => h) (Or.inl ⟨by rfl, ?_⟩) ?_ ?_
          rotate_left
          · intro w'
            go_simp
            with_reducible rfl
          rotate_left
          · simp only [Act.put, qa, qb, qc, i64_w, i32_w]
            rfl
          refine pure_ (i := 13) (N := some 29) (v := ?_) (a' := ?_) (qd 33 16383) rfl rfl (any_of HT_.out (by kernel_rfl)) (fun _ _ _ h => h) (Or.inl ⟨by rfl, ?_⟩) ?_ ?_
          rotate_left
          · intro w'
            go_simp
            with_reducible rfl
          rotate_left
          · simp only [Act.put, qa, qb, qc, i64_w, i32_w]
            rfl
          refine pure_ (i := 14) (N := some 30) (v := ?_) (a' := ?_) (qd 33 32767) rfl rfl (any_of HT_.out (by kernel_rfl)) (fun _ _ _ h => h) (Or.inl ⟨by rfl, ?_⟩) ?_ ?_
          rotate_left
          · intro w'
            go_simp
            with_reducible rfl
          rotate_left
          · simp only [Act.put, qa, qb, qc, i64_w, i32_w]
            rfl
          refine pure_ (i := 15) (N := some 31) (v := ?_) (a' := ?_) (qd 33 65535) rfl rfl (any_of HT_.out (by kernel_rfl)) (fun _ _ _ h => h) (Or.inl ⟨by rfl, ?_⟩) ?_ ?_
          rotate_left
          · intro w'
            go_simp
            with_reducible rfl
          rotate_left
          · simp only [Act.put, qa, qb, qc, i64_w, i32_w]
            rfl
          refine pure_ (i := 16) (N := some 32) (v := ?_) (a' := ?_) (qd 33 131071) rfl rfl (any_of HT_.out (by kernel_rfl)) (fun _ _ _ h => h) (Or.inl ⟨by rfl, ?_⟩) ?_ ?_
          rotate_left
          · intro w'
            go_simp
            with_reducible rfl
          rotate_left
          · simp only [Act.put, qa, qb, qc, i64_w, i32_w]
            rfl
          refine pure_ (i := 17) (N := some 33) (v := ?_) (a' := ?_) (qd 33 262143) rfl rfl (any_of HT_.out (by kernel_rfl)) (fun _ _ _ h => h) (Or.inl ⟨by rfl, ?_⟩) ?_ ?_
          rotate_left
          · intro w'
            go_simp
            with_reducible rfl
          rotate_left
          · simp only [Act.put, qa, qb, qc, i64_w, i32_w]
            rfl
          refine take_ (i := 18) (N := some 34) (v := ?_) (a' := ?_) (qd 33 524287) rfl rfl (take_ofW HT_.out HW_.out (by kernel_rfl)) (fun _ _ _ h => h) (Or.inl ⟨by rfl, ?_⟩) hHeld ?_ ?_
          rotate_left
          · rintro w' ⟨s0, s1, s2⟩
            go_simp
            with_reducible rfl
          rotate_left
          · simp only [Act.put, qa, qb, qc, i64_w, i32_w]
            rfl
          refine pure_ (i := 19) (N := some 35) (v := ?_) (a' := ?_) (qd 33 1048575) rfl rfl (any_of HT_.out (by kernel_rfl)) (fun _ _ _ h => h) (Or.inl ⟨by rfl, ?_⟩) ?_ ?_
          rotate_left
          · intro w'
            go_simp
            (try rw [D2])
            with_reducible rfl
          rotate_left
          · simp only [Act.put, qa, qb, qc, i64_w, i32_w]
            rfl
          refine pure_ (i := 20) (N := some 36) (v := ?_) (a' := ?_) (qd 33 2097151) rfl rfl (any_of HT_.out (by kernel_rfl)) (fun _ _ _ h => h) (Or.inl ⟨by rfl, ?_⟩) ?_ ?_
          rotate_left
          · intro w'
            go_simp
            with_reducible rfl
          rotate_left
          · simp only [Act.put, qa, qb, qc, i64_w, i32_w]
            rfl
          refine pure_ (i := 21) (N := some 37) (v := ?_) (a' := ?_) (qd 33 4194303) rfl rfl (any_of HT_.out (by kernel_rfl)) (fun _ _ _ h => h) (Or.inl ⟨by rfl, ?_⟩) ?_ ?_
          rotate_left
          · intro w'
            go_simp
            with_reducible rfl
          rotate_left
          · simp only [Act.put, qa, qb, qc, i64_w, i32_w]
            rfl
          refine pure_ (i := 22) (N := some 38) (v := ?_) (a' := ?_) (qd 33 8388607) rfl rfl (any_of HT_.out (by kernel_rfl)) (fun _ _ _ h => h) (Or.inl ⟨by rfl, ?_⟩) ?_ ?_
          rotate_left
          · intro w'
            go_simp
            with_reducible rfl
          rotate_left
          · simp only [Act.put, qa, qb, qc, i64_w, i32_w]
            rfl
          refine pure_ (i := 23) (N := some 39) (v := ?_) (a' := ?_) (qd 33 16777215) rfl rfl (any_of HT_.out (by kernel_rfl)) (fun _ _ _ h => h) (Or.inl ⟨by rfl, ?_⟩) ?_ ?_
          rotate_left
          · intro w'
            go_simp
            with_reducible rfl
          rotate_left
          · simp only [Act.put, qa, qb, qc, i64_w, i32_w]
            rfl
          refine pure_ (i := 25) (N := some 41) (v := ?_) (a' := ?_) (qd 33 50331647) rfl rfl (any_of HT_.out (by kernel_rfl)) (fun _ _ _ h => h) (Or.inl ⟨by rfl, ?_⟩) ?_ ?_
          rotate_left
          · intro w'
            go_simp
            with_reducible rfl
          rotate_left
          · simp only [Act.put, qa, qb, qc, i64_w, i32_w]
            rfl
          refine pure_ (i := 26) (N := some 42) (v := ?_) (a' := ?_) (qd 33 117440511) rfl rfl (any_of HT_.out (by kernel_rfl)) (fun _ _ _ h => h) (Or.inl ⟨by rfl, ?_⟩) ?_ ?_
          rotate_left
          · intro w'
            go_simp
            with_reducible rfl
          rotate_left
          · simp only [Act.put, qa, qb, qc, i64_w, i32_w]
            rfl
          refine pure_ (i := 27) (N := some 43) (v := ?_) (a' := ?_) (qd 33 251658239) rfl rfl (any_of HT_.out (by kernel_rfl)) (fun _ _ _ h => h) (Or.inl ⟨by rfl, ?_⟩) ?_ ?_
          rotate_left
          · intro w'
            go_simp
            with_reducible rfl
          rotate_left
          · simp only [Act.put, qa, qb, qc, i64_w, i32_w]
            rfl
          refine take_ (i := 24) (N := some 40) (v := ?_) (a' := ?_) (qd 33 268435455) rfl rfl (take_ofW HT_.out HW_.out (by kernel_rfl)) (fun _ _ _ h => h) (Or.inl ⟨by rfl, ?_⟩) hHeld ?_ ?_
          rotate_left
          · rintro w' ⟨s0, s1, s2⟩
            go_simp
            with_reducible rfl
          rotate_left
          · simp only [Act.put, qa, qb, qc, i64_w, i32_w]
            rfl
          refine take_ (i := 28) (N := some 44) (v := ?_) (a' := ?_) (qd 33 536870911) rfl rfl (take_ofW HT_.out HW_.out (by kernel_rfl)) (fun _ _ _ h => h) (Or.inl ⟨by rfl, ?_⟩) hHeld ?_ ?_
          rotate_left
          · rintro w' ⟨s0, s1, s2⟩
            go_simp
            with_reducible rfl
          rotate_left
          · simp only [Act.put, qa, qb, qc, i64_w, i32_w]
            rfl
          refine one_ (i := 29) (N := some 45) (qd 33 1073741823) rfl rfl (one_of HT_.out (by kernel_rfl)) (by decide) (fun K hK => ?_)
          with_reducible refine goes_ (f := 46) (fn := Try.f46) (as0 := #[.tmp 40, .tmp 44]) (ts := #[26, 26]) ?q1 ?q2 ?q3 #[.slice (some ⟨gt, 0, none⟩) n n, .slice (some ⟨gb, 0, none⟩) n cap] ?q4 ?q5 ?q6 ?q7 ?q8
          (case q1 => exact Try.func46)
          (case q2 => kernel_rfl)
          (case q3 => kernel_rfl)
          (case q4 => rfl)
          (case q5 => rfl)
          (case q6 => rfl)
          (case q7 => (simp only [List.map_toArray, List.map_cons, List.map_nil]; rfl))
          case q8 =>
          refine (HCM.out w1 HBW.out).mono ?_
          rintro e w2 ⟨rfl, hb⟩
          refine ⟨_, rfl, ?_⟩
          have n1 := Aside0.mk (HS.out.below_ hb.below)
          have n2 := Aside0.mk (Kept.below HK.out hb.below)
          refine hK.out _ _ (by obtain ⟨a1, a2, a3⟩ := hHeld; exact ⟨pw_cell_below hb.below a1, pw_cell_below hb.below a2, pw_cell_below hb.below a3⟩) (fun hHeld => ?_)
          clear hK K hb HS HK
          have HS := n1
          have HK := n2
          clear n1 n2
          refine norm_ (a' := ?_) ?_ ?_
          rotate_left
          · show Act.put _ (some 45) _ = _
            simp only [Act.put, qa, qb, qc, i64_w, i32_w]
            rfl
          refine pure_ (i := 30) (N := some 46) (v := ?_) (a' := ?_) (qd 33 2147483647) rfl rfl (any_of HT_.out (by kernel_rfl)) (fun _ _ _ h => h) (Or.inl ⟨by rfl, ?_⟩) ?_ ?_
          rotate_left
          · intro w'
            go_simp
            with_reducible rfl
          rotate_left
          · simp only [Act.put, qa, qb, qc, i64_w, i32_w]
            rfl
          refine pure_ (i := 31) (N := some 47) (v := ?_) (a' := ?_) (qd 33 4294967295) rfl rfl (any_of HT_.out (by kernel_rfl)) (fun _ _ _ h => h) (Or.inl ⟨by rfl, ?_⟩) ?_ ?_
          rotate_left
          · intro w'
            go_simp
            with_reducible rfl
          rotate_left
          · simp only [Act.put, qa, qb, qc, i64_w, i32_w]
            rfl
          refine pure_ (i := 32) (N := some 48) (v := ?_) (a' := ?_) (qd 33 8589934591) rfl rfl (any_of HT_.out (by kernel_rfl)) (fun _ _ _ h => h) (Or.inl ⟨by rfl, ?_⟩) ?_ ?_
          rotate_left
          · intro w'
            go_simp
            with_reducible rfl
          rotate_left
          · simp only [Act.put, qa, qb, qc, i64_w, i32_w]
            rfl
          refine done_ (done_of HT_.out (by kernel_rfl)) ?_
          clear b8 hcs hHeld
          go_wp2
          rw [HE.out]
          (try simp only [Exit.inBlock, Exit.then])
          refine bodyPost_ret (results_none rfl _ _ _) rfl ⟨rfl, HS.out, HK.out⟩
      · have HE := Aside0.mk (show leafF en S = S by rw [HLF.out, if_neg (by omega)])
        have D2 : (en == lst) = false := beq_eq_false_iff_ne.2 heq
        clear heq
        go_enter Try.func53, Try.ntmps53
        go_wp2
        refine start_ (n := 33) (S := fun w' => w'.cell? ⟨gs, 8, none⟩ = some (.slice (some ⟨gb, 0, none⟩) n cap) ∧ w'.cell? ⟨gs, 7, none⟩ = some (.slice (some ⟨gt, 0, none⟩) n n) ∧ w'.cell? ⟨gs, 9, none⟩ = some (.int .i64 lst)) (ds := []) #[false, false, false, false, false, false, false, false, false, false, false, false, false, false, false, false, false, false, false, false, false, false, false, false, false, false, false, false, false, false, false, false, false] (by kernel_rfl) rfl rfl ⟨b8, hcs.2.2.2.1, by rw [EL.out]; exact hcs.2.2.2.2⟩ (fun hHeld => ?_)
        refine with_tabW go1tab go1bits (fun HT_ HW_ => ?_)
        have HK := Aside0.mk (Kept.drew (Kept.refl W (fun k => k = gs ∨ k = gn ∨ k = gj ∨ k = gt)))
        have HBW := Aside0.mk (below_drew1 (Below.refl W.heap.size W))
        generalize W.drew = w1 at HS HK HBW hHeld ⊢
        refine pure_ (i := 0) (N := some 16) (v := ?_) (a' := ?_) (qd 33 1) rfl rfl (any_of HT_.out (by kernel_rfl)) (fun _ _ _ h => h) (Or.inl ⟨by rfl, ?_⟩) ?_ ?_
        rotate_left
        · intro w'
          go_simp
          with_reducible rfl
        rotate_left
        · simp only [Act.put, qa, qb, qc, i64_w, i32_w]
          rfl
        refine pure_ (i := 1) (N := some 17) (v := ?_) (a' := ?_) (qd 33 3) rfl rfl (any_of HT_.out (by kernel_rfl)) (fun _ _ _ h => h) (Or.inl ⟨by rfl, ?_⟩) ?_ ?_
        rotate_left
        · intro w'
          go_simp
          with_reducible rfl
        rotate_left
        · simp only [Act.put, qa, qb, qc, i64_w, i32_w]
          rfl
        refine pure_ (i := 2) (N := some 18) (v := ?_) (a' := ?_) (qd 33 7) rfl rfl (any_of HT_.out (by kernel_rfl)) (fun _ _ _ h => h) (Or.inl ⟨by rfl, ?_⟩) ?_ ?_
        rotate_left
        · intro w'
          go_simp
          with_reducible rfl
        rotate_left
        · simp only [Act.put, qa, qb, qc, i64_w, i32_w]
          rfl
        refine take_ (i := 3) (N := some 19) (v := ?_) (a' := ?_) (qd 33 15) rfl rfl (take_ofW HT_.out HW_.out (by kernel_rfl)) (fun _ _ _ h => h) (Or.inl ⟨by rfl, ?_⟩) hHeld ?_ ?_
        rotate_left
        · rintro w' ⟨s0, s1, s2⟩
          go_simp
          with_reducible rfl
        rotate_left
        · simp only [Act.put, qa, qb, qc, i64_w, i32_w]
          rfl
        refine pure_ (i := 4) (N := some 20) (v := ?_) (a' := ?_) (qd 33 31) rfl rfl (any_of HT_.out (by kernel_rfl)) (fun _ _ _ h => h) (Or.inl ⟨by rfl, ?_⟩) ?_ ?_
        rotate_left
        · intro w'
          go_simp
          with_reducible rfl
        rotate_left
        · simp only [Act.put, qa, qb, qc, i64_w, i32_w]
          rfl
        refine pure_ (i := 5) (N := some 21) (v := ?_) (a' := ?_) (qd 33 63) rfl rfl (any_of HT_.out (by kernel_rfl)) (fun _ _ _ h => h) (Or.inl ⟨by rfl, ?_⟩) ?_ ?_
        rotate_left
        · intro w'
          go_simp
          with_reducible rfl
        rotate_left
        · simp only [Act.put, qa, qb, qc, i64_w, i32_w]
          rfl
        refine pure_ (i := 6) (N := some 22) (v := ?_) (a' := ?_) (qd 33 127) rfl rfl (any_of HT_.out (by kernel_rfl)) (fun _ _ _ h => h) (Or.inl ⟨by rfl, ?_⟩) ?_ ?_
        rotate_left
        · intro w'
          go_simp
          with_reducible rfl
        rotate_left
        · simp only [Act.put, qa, qb, qc, i64_w, i32_w]
          rfl
        refine pure_ (i := 7) (N := some 23) (v := ?_) (a' := ?_) (qd 33 255) rfl rfl (any_of HT_.out (by kernel_rfl)) (fun _ _ _ h => h) (Or.inl ⟨by rfl, ?_⟩) ?_ ?_
        rotate_left
        · intro w'
          go_simp
          with_reducible rfl
        rotate_left
        · simp only [Act.put, qa, qb, qc, i64_w, i32_w]
          rfl
        refine pure_ (i := 8) (N := some 24) (v := ?_) (a' := ?_) (qd 33 511) rfl rfl (any_of HT_.out (by kernel_rfl)) (fun _ _ _ h => h) (Or.inl ⟨by rfl, ?_⟩) ?_ ?_
        rotate_left
        · intro w'
          go_simp
          with_reducible rfl
        rotate_left
        · simp only [Act.put, qa, qb, qc, i64_w, i32_w]
          rfl
        refine pure_ (i := 9) (N := some 25) (v := ?_) (a' := ?_) (qd 33 1023) rfl rfl (any_of HT_.out (by kernel_rfl)) (fun _ _ _ h => h) (Or.inl ⟨by rfl, ?_⟩) ?_ ?_
        rotate_left
        · intro w'
          go_simp
          with_reducible rfl
        rotate_left
        · simp only [Act.put, qa, qb, qc, i64_w, i32_w]
          rfl
        refine take_ (i := 10) (N := some 26) (v := ?_) (a' := ?_) (qd 33 2047) rfl rfl (take_ofW HT_.out HW_.out (by kernel_rfl)) (fun _ _ _ h => h) (Or.inl ⟨by rfl, ?_⟩) hHeld ?_ ?_
        rotate_left
        · rintro w' ⟨s0, s1, s2⟩
          go_simp
          with_reducible rfl
        rotate_left
        · simp only [Act.put, qa, qb, qc, i64_w, i32_w]
          rfl
        refine pure_ (i := 11) (N := some 27) (v := ?_) (a' := ?_) (qd 33 4095) rfl rfl (any_of HT_.out (by kernel_rfl)) (fun _ _ _ h => h) (Or.inl ⟨by rfl, ?_⟩) ?_ ?_
        rotate_left
        · intro w'
          go_simp
          (try rw [D1])
          with_reducible rfl
        rotate_left
        · simp only [Act.put, qa, qb, qc, i64_w, i32_w]
          rfl
        refine pure_ (i := 12) (N := some 28) (v := ?_) (a' := ?_) (qd 33 8191) rfl rfl (any_of HT_.out (by kernel_rfl)) (fun _ _ _ h => h) (Or.inl ⟨by rfl, ?_⟩) ?_ ?_
        rotate_left
        · intro w'
          go_simp
          with_reducible rfl
        rotate_left
        · simp only [Act.put, qa, qb, qc, i64_w, i32_w]
          rfl
        refine pure_ (i := 13) (N := some 29) (v := ?_) (a' := ?_) (qd 33 16383) rfl rfl (any_of HT_.out (by kernel_rfl)) (fun _ _ _ h => h) (Or.inl ⟨by rfl, ?_⟩) ?_ ?_
        rotate_left
        · intro w'
          go_simp
          with_reducible rfl
        rotate_left
        · simp only [Act.put, qa, qb, qc, i64_w, i32_w]
          rfl
        refine pure_ (i := 14) (N := some 30) (v := ?_) (a' := ?_) (qd 33 32767) rfl rfl (any_of HT_.out (by kernel_rfl)) (fun _ _ _ h => h) (Or.inl ⟨by rfl, ?_⟩) ?_ ?_
        rotate_left
        · intro w'
          go_simp
          with_reducible rfl
        rotate_left
        · simp only [Act.put, qa, qb, qc, i64_w, i32_w]
          rfl
        refine pure_ (i := 15) (N := some 31) (v := ?_) (a' := ?_) (qd 33 65535) rfl rfl (any_of HT_.out (by kernel_rfl)) (fun _ _ _ h => h) (Or.inl ⟨by rfl, ?_⟩) ?_ ?_
        rotate_left
        · intro w'
          go_simp
          with_reducible rfl
        rotate_left
        · simp only [Act.put, qa, qb, qc, i64_w, i32_w]
          rfl
        refine pure_ (i := 16) (N := some 32) (v := ?_) (a' := ?_) (qd 33 131071) rfl rfl (any_of HT_.out (by kernel_rfl)) (fun _ _ _ h => h) (Or.inl ⟨by rfl, ?_⟩) ?_ ?_
        rotate_left
        · intro w'
          go_simp
          with_reducible rfl
        rotate_left
        · simp only [Act.put, qa, qb, qc, i64_w, i32_w]
          rfl
        refine pure_ (i := 17) (N := some 33) (v := ?_) (a' := ?_) (qd 33 262143) rfl rfl (any_of HT_.out (by kernel_rfl)) (fun _ _ _ h => h) (Or.inl ⟨by rfl, ?_⟩) ?_ ?_
        rotate_left
        · intro w'
          go_simp
          with_reducible rfl
        rotate_left
        · simp only [Act.put, qa, qb, qc, i64_w, i32_w]
          rfl
        refine take_ (i := 18) (N := some 34) (v := ?_) (a' := ?_) (qd 33 524287) rfl rfl (take_ofW HT_.out HW_.out (by kernel_rfl)) (fun _ _ _ h => h) (Or.inl ⟨by rfl, ?_⟩) hHeld ?_ ?_
        rotate_left
        · rintro w' ⟨s0, s1, s2⟩
          go_simp
          with_reducible rfl
        rotate_left
        · simp only [Act.put, qa, qb, qc, i64_w, i32_w]
          rfl
        refine pure_ (i := 19) (N := some 35) (v := ?_) (a' := ?_) (qd 33 1048575) rfl rfl (any_of HT_.out (by kernel_rfl)) (fun _ _ _ h => h) (Or.inl ⟨by rfl, ?_⟩) ?_ ?_
        rotate_left
        · intro w'
          go_simp
          (try rw [D2])
          with_reducible rfl
        rotate_left
        · simp only [Act.put, qa, qb, qc, i64_w, i32_w]
          rfl
        refine pure_ (i := 20) (N := some 36) (v := ?_) (a' := ?_) (qd 33 2097151) rfl rfl (any_of HT_.out (by kernel_rfl)) (fun _ _ _ h => h) (Or.inl ⟨by rfl, ?_⟩) ?_ ?_
        rotate_left
        · intro w'
          go_simp
          with_reducible rfl
        rotate_left
        · simp only [Act.put, qa, qb, qc, i64_w, i32_w]
          rfl
        refine pure_ (i := 21) (N := some 37) (v := undef) (a' := ?_) (qd 33 4194303) rfl rfl (any_of HT_.out (by kernel_rfl)) (fun _ _ _ h => h) (Or.inr ⟨by rfl, rfl⟩) ?_ ?_
        rotate_left
        · simp only [Act.put, qa, qb, qc, i64_w, i32_w]
          rfl
        refine pure_ (i := 22) (N := some 38) (v := undef) (a' := ?_) (qd 33 8388607) rfl rfl (any_of HT_.out (by kernel_rfl)) (fun _ _ _ h => h) (Or.inr ⟨by rfl, rfl⟩) ?_ ?_
        rotate_left
        · simp only [Act.put, qa, qb, qc, i64_w, i32_w]
          rfl
        refine pure_ (i := 23) (N := some 39) (v := undef) (a' := ?_) (qd 33 16777215) rfl rfl (any_of HT_.out (by kernel_rfl)) (fun _ _ _ h => h) (Or.inr ⟨by rfl, rfl⟩) ?_ ?_
        rotate_left
        · simp only [Act.put, qa, qb, qc, i64_w, i32_w]
          rfl
        refine pure_ (i := 24) (N := some 40) (v := undef) (a' := ?_) (qd 33 33554431) rfl rfl (any_of HT_.out (by kernel_rfl)) (fun _ _ _ h => h) (Or.inr ⟨by rfl, rfl⟩) ?_ ?_
        rotate_left
        · simp only [Act.put, qa, qb, qc, i64_w, i32_w]
          rfl
        refine pure_ (i := 25) (N := some 41) (v := undef) (a' := ?_) (qd 33 67108863) rfl rfl (any_of HT_.out (by kernel_rfl)) (fun _ _ _ h => h) (Or.inr ⟨by rfl, rfl⟩) ?_ ?_
        rotate_left
        · simp only [Act.put, qa, qb, qc, i64_w, i32_w]
          rfl
        refine pure_ (i := 26) (N := some 42) (v := undef) (a' := ?_) (qd 33 134217727) rfl rfl (any_of HT_.out (by kernel_rfl)) (fun _ _ _ h => h) (Or.inr ⟨by rfl, rfl⟩) ?_ ?_
        rotate_left
        · simp only [Act.put, qa, qb, qc, i64_w, i32_w]
          rfl
        refine pure_ (i := 27) (N := some 43) (v := undef) (a' := ?_) (qd 33 268435455) rfl rfl (any_of HT_.out (by kernel_rfl)) (fun _ _ _ h => h) (Or.inr ⟨by rfl, rfl⟩) ?_ ?_
        rotate_left
        · simp only [Act.put, qa, qb, qc, i64_w, i32_w]
          rfl
        refine pure_ (i := 28) (N := some 44) (v := undef) (a' := ?_) (qd 33 536870911) rfl rfl (any_of HT_.out (by kernel_rfl)) (fun _ _ _ h => h) (Or.inr ⟨by rfl, rfl⟩) ?_ ?_
        rotate_left
        · simp only [Act.put, qa, qb, qc, i64_w, i32_w]
          rfl
        refine pure_ (i := 29) (N := some 45) (v := undef) (a' := ?_) (qd 33 1073741823) rfl rfl (any_of HT_.out (by kernel_rfl)) (fun _ _ _ h => h) (Or.inr ⟨by rfl, rfl⟩) ?_ ?_
        rotate_left
        · simp only [Act.put, qa, qb, qc, i64_w, i32_w]
          rfl
        refine pure_ (i := 30) (N := some 46) (v := undef) (a' := ?_) (qd 33 2147483647) rfl rfl (any_of HT_.out (by kernel_rfl)) (fun _ _ _ h => h) (Or.inr ⟨by rfl, rfl⟩) ?_ ?_
        rotate_left
        · simp only [Act.put, qa, qb, qc, i64_w, i32_w]
          rfl
        refine pure_ (i := 31) (N := some 47) (v := ?_) (a' := ?_) (qd 33 4294967295) rfl rfl (any_of HT_.out (by kernel_rfl)) (fun _ _ _ h => h) (Or.inl ⟨by rfl, ?_⟩) ?_ ?_
        rotate_left
        · intro w'
          go_simp
          with_reducible rfl
        rotate_left
        · simp only [Act.put, qa, qb, qc, i64_w, i32_w]
          rfl
        refine pure_ (i := 32) (N := some 48) (v := ?_) (a' := ?_) (qd 33 8589934591) rfl rfl (any_of HT_.out (by kernel_rfl)) (fun _ _ _ h => h) (Or.inl ⟨by rfl, ?_⟩) ?_ ?_
        rotate_left
        · intro w'
          go_simp
          with_reducible rfl
        rotate_left
        · simp only [Act.put, qa, qb, qc, i64_w, i32_w]
          rfl
        refine done_ (done_of HT_.out (by kernel_rfl)) ?_
        clear b8 hcs hHeld
        go_wp2
        rw [HE.out]
        (try simp only [Exit.inBlock, Exit.then])
        refine bodyPost_ret (results_none rfl _ _ _) rfl ⟨rfl, HS.out, HK.out⟩
end Go.Proofs.Ytipkhaicjjeieaa.V
