/- Walks of the reference's Solve: the region that makes its first node (5). -/
import Derived.Test.YtipkhaicjjeieaaKSShRg
namespace Go.Proofs.Ytipkhaicjjeieaa.V
set_option linter.unusedSimpArgs false
set_option linter.unusedVariables false
open Go.RowKit Go.Proofs.YtipkhaicjjeieaaW.PrintWords Go.Proofs.YtipkhaicjjeieaaW.PrintLast Go.Proofs.YtipkhaicjjeieaaW.PrintMore
def cellO (o : Option Nat) (k : Nat) : Value := match o with
  | none => undef
  | some g => .slice (some ⟨g, 0, none⟩) k k
def cellP (o : Option Nat) : Value := match o with
  | none => undef
  | some g => .pointer (some ⟨g, 0, none⟩)
def mkl (o3 o6 o7 o10 o12 : Option Nat) : Array Bool := #[true, true, true, o3.isSome, true, true, o6.isSome, o7.isSome, true, true, o10.isSome, false, o12.isSome, false]
def rsOf (a b c d e : Bool) : List Nat := (if a = true then [] else [3]) ++ ((if b = true then [] else [6]) ++ ((if c = true then [] else [7]) ++ ((if d = true then [] else [10]) ++ (if e = true then [] else [12]))))
theorem ready165 (a b c d e : Bool) (h : (a && (b && (c && d))) = false) : Region.ready .any (opsOf Try.f16 5) #[true, true, true, a, true, true, b, c, true, true, d, false, e, false] = rsOf a b c d e := by
  cases a <;> cases b <;> cases c <;> cases d <;> cases e <;> first | cases h; done | kernel_rfl
theorem run_new65 (W : World) (ev : Operand → Value) (o : Oper) (ho : o.op = .alloc 65) : (execOp ev o).run Try.prog W = .ok (.value (.pointer (some ⟨W.heap.size, 0, none⟩))) (W.alloc (Obj.cells #[.slice none 0 0, .slice none 0 0, .slice none 0 0, .slice none 0 0, .slice none 0 0, .slice none 0 0, .int .i64 0] 65)) := by
  unfold execOp
  rw [ho]
  go_simp
def cnt (o : Option Nat) : Nat := if o.isSome = true then 0 else 1
theorem allReady_app {P : Program} {md : Region.Mode} {ops : Array Oper} {Q : Exit → Act → World → Prop} {S : World → Prop} {ds : List Nat} {fuel : Nat} {l : Array Bool} {a : Act} {w : World} {xs ys : List Nat} (h1 : AllReadyL P md ops Q S ds fuel l a w xs) (h2 : AllReadyL P md ops Q S ds fuel l a w ys) : AllReadyL P md ops Q S ds fuel l a w (xs ++ ys) :=
  fun j hj => (List.mem_append.1 hj).elim (h1 j) (h2 j)
structure Mk5 (w0 w : World) (nj n : Nat) (o3 o6 o7 o10 o12 : Option Nat) : Prop where
  below : Below w0.heap.size w0 w
  r3 : ∀ k, o3 = some k → w.heap[k]? = some (.cells (rowI (List.replicate nj 0)) 3 (0, 0))
  r6 : ∀ k, o6 = some k → w.heap[k]? = some (.cells (rowI (List.replicate nj 0)) 3 (0, 0))
  r7 : ∀ k, o7 = some k → w.heap[k]? = some (.cells (rowI (List.replicate 4 0)) 3 (0, 0))
  r10 : ∀ k, o10 = some k → w.heap[k]? = some (.cells (rowI (List.replicate n 0)) 3 (0, 0))
  nb : ∀ k, o12 = some k → w0.heap.size ≤ k ∧ w.heap[k]? = some (.cells #[.slice none 0 0, .slice none 0 0, .slice none 0 0, .slice none 0 0, .slice none 0 0, .slice none 0 0, .int .i64 0] 65 (0, 0))
section
variable {w0 w : World} {nj n : Nat} {o3 o6 o7 o10 o12 : Option Nat}
theorem Mk5.old {X : Option Nat} {l : List Int} (h : ∀ k, X = some k → w.heap[k]? = some (.cells (rowI l) 3 (0, 0))) (o : Obj) : ∀ k, X = some k → (w.alloc o).heap[k]? = some (.cells (rowI l) 3 (0, 0)) := fun k hk => blk_alloc (h k hk) o
theorem Mk5.new (w : World) (l : List Int) : ∀ k, some w.heap.size = some k → (w.alloc (.cells (rowI l) 3)).heap[k]? = some (.cells (rowI l) 3 (0, 0)) := fun k hk => by
  cases hk
  exact blk_new w _
theorem Mk5.mk3 (h : Mk5 w0 w nj n none o6 o7 o10 o12) : Mk5 w0 (w.alloc (.cells (rowI (List.replicate nj 0)) 3)) nj n (some w.heap.size) o6 o7 o10 o12 :=
  ⟨below_alloc h.below _, Mk5.new w _, Mk5.old h.r6 _, Mk5.old h.r7 _, Mk5.old h.r10 _, fun k e => ⟨(h.nb k e).1, blk_alloc (h.nb k e).2 _⟩⟩
theorem Mk5.mk6 (h : Mk5 w0 w nj n o3 none o7 o10 o12) : Mk5 w0 (w.alloc (.cells (rowI (List.replicate nj 0)) 3)) nj n o3 (some w.heap.size) o7 o10 o12 :=
  ⟨below_alloc h.below _, Mk5.old h.r3 _, Mk5.new w _, Mk5.old h.r7 _, Mk5.old h.r10 _, fun k e => ⟨(h.nb k e).1, blk_alloc (h.nb k e).2 _⟩⟩
theorem Mk5.mk7 (h : Mk5 w0 w nj n o3 o6 none o10 o12) : Mk5 w0 (w.alloc (.cells (rowI (List.replicate 4 0)) 3)) nj n o3 o6 (some w.heap.size) o10 o12 :=
  ⟨below_alloc h.below _, Mk5.old h.r3 _, Mk5.old h.r6 _, Mk5.new w _, Mk5.old h.r10 _, fun k e => ⟨(h.nb k e).1, blk_alloc (h.nb k e).2 _⟩⟩
theorem Mk5.mk10 (h : Mk5 w0 w nj n o3 o6 o7 none o12) : Mk5 w0 (w.alloc (.cells (rowI (List.replicate n 0)) 3)) nj n o3 o6 o7 (some w.heap.size) o12 :=
  ⟨below_alloc h.below _, Mk5.old h.r3 _, Mk5.old h.r6 _, Mk5.old h.r7 _, Mk5.new w _, fun k e => ⟨(h.nb k e).1, blk_alloc (h.nb k e).2 _⟩⟩
theorem Mk5.mk12 (h : Mk5 w0 w nj n o3 o6 o7 o10 none) : Mk5 w0 (w.alloc (Obj.cells #[.slice none 0 0, .slice none 0 0, .slice none 0 0, .slice none 0 0, .slice none 0 0, .slice none 0 0, .int .i64 0] 65)) nj n o3 o6 o7 o10 (some w.heap.size) :=
  ⟨below_alloc h.below _, Mk5.old h.r3 _, Mk5.old h.r6 _, Mk5.old h.r7 _, Mk5.old h.r10 _, fun k e => (by cases e; exact ⟨h.below.size, blk_new w _⟩)⟩
end
set_option maxHeartbeats 2000000 in
set_option maxRecDepth 100000 in
theorem mk_key {Q : Exit → Act → World → Prop} {ops : Array Oper} (ho : ops = (opsOf Try.f16 5)) (W : World) (A0 At : Option Addr) (c0 ct nj n : Nat) (hj : nj ≤ 4) (hn : n ≤ 10) (v1 v2 v3 v4 v5 v11 v12 v13 v14 v15 v16 v17 : Value)
    (hE : ∀ g3 g6 g7 g10 o12 W', Mk5 W W' nj n (some g3) (some g6) (some g7) (some g10) o12 → wpAnyLast Try.prog .any ops Q (fun _ => True) [13] (cnt o12 + 2) (mkl (some g3) (some g6) (some g7) (some g10) o12) { tmps := #[.slice A0 nj c0, v1, v2, v3, v4, v5, .slice At n ct, cellP o12, undef, undef, undef, v11, v12, v13, v14, v15, v16, v17, .slice At n ct, .slice A0 nj c0, .int .i64 (nj : Int), cellO (some g3) nj, .slice A0 nj c0, .int .i64 (nj : Int), cellO (some g6) nj, cellO (some g7) 4, .slice At n ct, .int .i64 (n : Int), cellO (some g10) n, undef, undef, undef, undef, undef, undef, undef, undef, undef, undef, undef, undef, undef, undef, undef, undef, undef, undef, undef, undef, undef, undef, undef, undef, undef, undef, undef, undef], defers := [] } W') :
    ∀ (k : Nat) (o3 o6 o7 o10 o12 : Option Nat), cnt o3 + (cnt o6 + (cnt o7 + (cnt o10 + cnt o12))) = k → ∀ W', Mk5 W W' nj n o3 o6 o7 o10 o12 → wpAnyLast Try.prog .any ops Q (fun _ => True) [13] (k + 2) (mkl o3 o6 o7 o10 o12) { tmps := #[.slice A0 nj c0, v1, v2, v3, v4, v5, .slice At n ct, cellP o12, undef, undef, undef, v11, v12, v13, v14, v15, v16, v17, .slice At n ct, .slice A0 nj c0, .int .i64 (nj : Int), cellO o3 nj, .slice A0 nj c0, .int .i64 (nj : Int), cellO o6 nj, cellO o7 4, .slice At n ct, .int .i64 (n : Int), cellO o10 n, undef, undef, undef, undef, undef, undef, undef, undef, undef, undef, undef, undef, undef, undef, undef, undef, undef, undef, undef, undef, undef, undef, undef, undef, undef, undef, undef, undef], defers := [] } W' := by
  subst ho
  intro k
  induction k with
  | zero =>
    intro o3 o6 o7 o10 o12 hc W' hm
    cases o3 with
    | none => simp [cnt] at hc
    | some g3 =>
    cases o6 with
    | none => simp [cnt] at hc
    | some g6 =>
    cases o7 with
    | none => simp [cnt] at hc
    | some g7 =>
    cases o10 with
    | none => simp [cnt] at hc
    | some g10 =>
    cases o12 with
    | none => simp [cnt] at hc
    | some bn => exact hE g3 g6 g7 g10 (some bn) W' hm
  | succ k ih =>
    intro o3 o6 o7 o10 o12 hc W' hm
    by_cases h4 : (o3.isSome && (o6.isSome && (o7.isSome && o10.isSome))) = true
    · cases o3 with
      | none => cases h4
      | some g3 =>
      cases o6 with
      | none => cases h4
      | some g6 =>
      cases o7 with
      | none => cases h4
      | some g7 =>
      cases o10 with
      | none => cases h4
      | some g10 =>
      have he := hE g3 g6 g7 g10 o12 W' hm
      have e : cnt o12 = k + 1 := by simpa [cnt] using hc
      rw [e] at he
      exact he
    have hne : (o3.isSome && (o6.isSome && (o7.isSome && o10.isSome))) = false := by simpa using h4
    have hrs : rsOf o3.isSome o6.isSome o7.isSome o10.isSome o12.isSome ≠ [] := by
      revert hne
      cases o3.isSome <;> cases o6.isSome <;> cases o7.isSome <;> cases o10.isSome <;> cases o12.isSome <;> decide
    refine wpAnyLast_ready (fuel := k + 2) (ready165 _ _ _ _ _ hne) hrs ?_
    unfold rsOf
    refine allReady_app ?_ (allReady_app ?_ (allReady_app ?_ (allReady_app ?_ ?_)))
    · cases o3 with
      | some g => exact AllReadyL.nil
      | none =>
        refine AllReadyL.cons (i := 3) rfl (by decide) (fun K hK => ?_) AllReadyL.nil
        refine value_ (by rfl) rfl (run_makeI _ nj (by omega) _ _ (.tmp 20) (.tmp 20) rfl rfl rfl) ?_
        refine hK _ _ trivial (fun _ => ?_)
        have h := ih (some W'.heap.size) o6 o7 o10 o12 (by simp only [cnt, Option.isSome_some, Option.isSome_none, if_true, Bool.false_eq_true, if_false] at hc ⊢; omega) _ hm.mk3
        exact h
    · cases o6 with
      | some g => exact AllReadyL.nil
      | none =>
        refine AllReadyL.cons (i := 6) rfl (by decide) (fun K hK => ?_) AllReadyL.nil
        refine value_ (by rfl) rfl (run_makeI _ nj (by omega) _ _ (.tmp 23) (.tmp 23) rfl rfl rfl) ?_
        refine hK _ _ trivial (fun _ => ?_)
        have h := ih o3 (some W'.heap.size) o7 o10 o12 (by simp only [cnt, Option.isSome_some, Option.isSome_none, if_true, Bool.false_eq_true, if_false] at hc ⊢; omega) _ hm.mk6
        exact h
    · cases o7 with
      | some g => exact AllReadyL.nil
      | none =>
        refine AllReadyL.cons (i := 7) rfl (by decide) (fun K hK => ?_) AllReadyL.nil
        refine value_ (by rfl) rfl (run_makeI _ 4 (by omega) _ _ (.const (.int .i64 4)) (.const (.int .i64 4)) rfl rfl rfl) ?_
        refine hK _ _ trivial (fun _ => ?_)
        have h := ih o3 o6 (some W'.heap.size) o10 o12 (by simp only [cnt, Option.isSome_some, Option.isSome_none, if_true, Bool.false_eq_true, if_false] at hc ⊢; omega) _ hm.mk7
        exact h
    · cases o10 with
      | some g => exact AllReadyL.nil
      | none =>
        refine AllReadyL.cons (i := 10) rfl (by decide) (fun K hK => ?_) AllReadyL.nil
        refine value_ (by rfl) rfl (run_makeI _ n (by omega) _ _ (.tmp 27) (.tmp 27) rfl rfl rfl) ?_
        refine hK _ _ trivial (fun _ => ?_)
        have h := ih o3 o6 o7 (some W'.heap.size) o12 (by simp only [cnt, Option.isSome_some, Option.isSome_none, if_true, Bool.false_eq_true, if_false] at hc ⊢; omega) _ hm.mk10
        exact h
    · cases o12 with
      | some g => exact AllReadyL.nil
      | none =>
        refine AllReadyL.cons (i := 12) rfl (by decide) (fun K hK => ?_) AllReadyL.nil
        refine value_ (by rfl) rfl (run_new65 _ _ _ rfl) ?_
        refine hK _ _ trivial (fun _ => ?_)
        have h := ih o3 o6 o7 o10 (some W'.heap.size) (by simp only [cnt, Option.isSome_some, Option.isSome_none, if_true, Bool.false_eq_true, if_false] at hc ⊢; omega) _ hm.mk12
        exact h
def mk5T : Bool × List (List Nat × List Nat) := (true, [([], []), ([], []), ([1], [1]), ([2, 2], [2]), ([], []), ([4], [4]), ([5, 5], [5]), ([], []), ([], []), ([8], [8]), ([9, 9], [9]), ([0, 3, 6, 7, 10], [0, 3, 6, 7, 10]), ([], []), ([12, 11, 0, 1, 2, 3, 4, 5, 6, 7, 8, 9, 10, 11, 12], [11, 12])])
def mk5B : List Nat := [0, 0, 2, 6, 0, 16, 48, 0, 0, 256, 768, 2047, 0, 8191]
theorem mk5tab : rtab .any (opsOf Try.f16 5) = mk5T := by kernel_rfl
theorem mk5bits : waitsOk mk5T.2 mk5B = true := by kernel_rfl
set_option maxHeartbeats 2000000 in
set_option maxRecDepth 100000 in
theorem rs_mk {Q : Exit → Act → World → Prop} (hp : QuietP Q) (W : World) (A0 At : Option Addr) (c0 ct nj n : Nat) (hj : nj ≤ 4) (hn : n ≤ 10) (v1 v2 v3 v4 v5 v11 v12 v13 v14 v15 v16 v17 : Value)
    (hQ : ∀ g3 g6 g7 g10 bn W', Mk5 W W' nj n (some g3) (some g6) (some g7) (some g10) (some bn) → Below W.heap.size W (W'.setRow bn #[.slice At n ct, .slice none 0 0, .slice (some ⟨g3, 0, none⟩) nj nj, .slice (some ⟨g6, 0, none⟩) nj nj, .slice (some ⟨g7, 0, none⟩) 4 4, .slice (some ⟨g10, 0, none⟩) n n, .int .i64 0]) → Q .normal { tmps := #[.slice A0 nj c0, v1, v2, v3, v4, v5, .slice At n ct, .pointer (some ⟨bn, 0, none⟩), undef, undef, undef, v11, v12, v13, v14, v15, v16, v17, .slice At n ct, .slice A0 nj c0, .int .i64 (nj : Int), .slice (some ⟨g3, 0, none⟩) nj nj, .slice A0 nj c0, .int .i64 (nj : Int), .slice (some ⟨g6, 0, none⟩) nj nj, .slice (some ⟨g7, 0, none⟩) 4 4, .slice At n ct, .int .i64 (n : Int), .slice (some ⟨g10, 0, none⟩) n n, .agg #[.slice At n ct, .slice none 0 0, .slice (some ⟨g3, 0, none⟩) nj nj, .slice (some ⟨g6, 0, none⟩) nj nj, .slice (some ⟨g7, 0, none⟩) 4 4, .slice (some ⟨g10, 0, none⟩) n n, .int .i64 0], undef, undef, undef, undef, undef, undef, undef, undef, undef, undef, undef, undef, undef, undef, undef, undef, undef, undef, undef, undef, undef, undef, undef, undef, undef, undef, undef], defers := [] } (W'.setRow bn #[.slice At n ct, .slice none 0 0, .slice (some ⟨g3, 0, none⟩) nj nj, .slice (some ⟨g6, 0, none⟩) nj nj, .slice (some ⟨g7, 0, none⟩) 4 4, .slice (some ⟨g10, 0, none⟩) n n, .int .i64 0])) : (cR Try.f16 5).wp Try.prog Q { tmps := #[.slice A0 nj c0, v1, v2, v3, v4, v5, .slice At n ct, undef, undef, undef, undef, v11, v12, v13, v14, v15, v16, v17, undef, undef, undef, undef, undef, undef, undef, undef, undef, undef, undef, undef, undef, undef, undef, undef, undef, undef, undef, undef, undef, undef, undef, undef, undef, undef, undef, undef, undef, undef, undef, undef, undef, undef, undef, undef, undef, undef, undef], defers := [] } W := by
  conv => arg 2; whnf
  have HQ := Aside0.mk hQ
  clear hQ
  have M0 : Mk5 W W.drew nj n none none none none none := ⟨below_drew1 (Below.refl _ _), fun k h => (by cases h), fun k h => (by cases h), fun k h => (by cases h), fun k h => (by cases h), fun k h => (by cases h)⟩
  refine start_ (n := 14) (S := fun w' => True) (ds := [13]) #[false, false, false, false, false, false, false, false, false, false, false, false, false, false] (by kernel_rfl) rfl rfl trivial (fun hHeld => ?_)
  refine with_tabW mk5tab mk5bits (fun HT_ HW_ => ?_)
  refine pure_ (i := 0) (N := some 18) (v := ?_) (a' := ?_) (qd 14 1) rfl rfl (any_of HT_.out (by kernel_rfl)) (fun c a1 w1 h => hp c _ _ _ (by rfl) h) (Or.inl ⟨by rfl, ?_⟩) ?_ ?_
  rotate_left
  · intro w'
    go_simp
    with_reducible rfl
  rotate_left
  · simp only [Act.put, qa, qb, qc, i64_w, i32_w]
    rfl
  refine pure_ (i := 1) (N := some 19) (v := ?_) (a' := ?_) (qd 14 3) rfl rfl (any_of HT_.out (by kernel_rfl)) (fun c a1 w1 h => hp c _ _ _ (by rfl) h) (Or.inl ⟨by rfl, ?_⟩) ?_ ?_
  rotate_left
  · intro w'
    go_simp
    with_reducible rfl
  rotate_left
  · simp only [Act.put, qa, qb, qc, i64_w, i32_w]
    rfl
  refine pure_ (i := 2) (N := some 20) (v := ?_) (a' := ?_) (qd 14 7) rfl rfl (any_of HT_.out (by kernel_rfl)) (fun c a1 w1 h => hp c _ _ _ (by rfl) h) (Or.inl ⟨by rfl, ?_⟩) ?_ ?_
  rotate_left
  · intro w'
    go_simp
    with_reducible rfl
  rotate_left
  · simp only [Act.put, qa, qb, qc, i64_w, i32_w]
    rfl
  refine pure_ (i := 4) (N := some 22) (v := ?_) (a' := ?_) (qd 14 23) rfl rfl (any_of HT_.out (by kernel_rfl)) (fun c a1 w1 h => hp c _ _ _ (by rfl) h) (Or.inl ⟨by rfl, ?_⟩) ?_ ?_
  rotate_left
  · intro w'
    go_simp
    with_reducible rfl
  rotate_left
  · simp only [Act.put, qa, qb, qc, i64_w, i32_w]
    rfl
  refine pure_ (i := 5) (N := some 23) (v := ?_) (a' := ?_) (qd 14 55) rfl rfl (any_of HT_.out (by kernel_rfl)) (fun c a1 w1 h => hp c _ _ _ (by rfl) h) (Or.inl ⟨by rfl, ?_⟩) ?_ ?_
  rotate_left
  · intro w'
    go_simp
    with_reducible rfl
  rotate_left
  · simp only [Act.put, qa, qb, qc, i64_w, i32_w]
    rfl
  refine pure_ (i := 8) (N := some 26) (v := ?_) (a' := ?_) (qd 14 311) rfl rfl (any_of HT_.out (by kernel_rfl)) (fun c a1 w1 h => hp c _ _ _ (by rfl) h) (Or.inl ⟨by rfl, ?_⟩) ?_ ?_
  rotate_left
  · intro w'
    go_simp
    with_reducible rfl
  rotate_left
  · simp only [Act.put, qa, qb, qc, i64_w, i32_w]
    rfl
  refine pure_ (i := 9) (N := some 27) (v := ?_) (a' := ?_) (qd 14 823) rfl rfl (any_of HT_.out (by kernel_rfl)) (fun c a1 w1 h => hp c _ _ _ (by rfl) h) (Or.inl ⟨by rfl, ?_⟩) ?_ ?_
  rotate_left
  · intro w'
    go_simp
    with_reducible rfl
  rotate_left
  · simp only [Act.put, qa, qb, qc, i64_w, i32_w]
    rfl
  refine mk_key (by kernel_rfl) W A0 At c0 ct nj n hj hn v1 v2 v3 v4 v5 v11 v12 v13 v14 v15 v16 v17 ?_ 5 none none none none none rfl W.drew M0
  clear hHeld M0
  intro g3 g6 g7 g10 o12 W' hm
  unfold mkl
  simp only [cellO, Option.isSome_some]
  cases o12 with
  | none =>
    simp only [cellP, cnt, Option.isSome_none, Bool.false_eq_true, if_false]
    refine pure_ (i := 11) (N := some 29) (v := ?_) (a' := ?_) (qd 14 4095) rfl rfl (any_of HT_.out (by kernel_rfl)) (fun c a1 w1 h => hp c _ _ _ (by rfl) h) (Or.inl ⟨by rfl, ?_⟩) ?_ ?_
    rotate_left
    · intro w'
      go_simp
      with_reducible rfl
    rotate_left
    · simp only [Act.put, qa, qb, qc, i64_w, i32_w]
      rfl
    refine one_ (i := 12) (N := some 7) (qd 14 8191) rfl rfl (one_of HT_.out (by kernel_rfl)) (by decide) (fun K hK => ?_)
    refine value_ (by rfl) rfl (run_new65 _ _ _ rfl) ?_
    refine hK.out _ _ trivial (fun _ => ?_)
    clear hK K
    have hm2 := hm.mk12
    obtain ⟨bn, ebn⟩ : ∃ bn, bn = W'.heap.size := ⟨_, rfl⟩
    rw [← ebn] at hm2 ⊢
    generalize W'.alloc (Obj.cells #[.slice none 0 0, .slice none 0 0, .slice none 0 0, .slice none 0 0, .slice none 0 0, .slice none 0 0, .int .i64 0] 65) = W2 at hm2 ⊢
    refine norm_ (a' := ?_) ?_ ?_
    rotate_left
    · show Act.put _ (some 7) _ = _
      simp only [Act.put, qa, qb, qc, i64_w, i32_w]
      rfl
    refine last_ (i := 13) (N := none) (qd 14 16383) rfl rfl (one_of HT_.out (by kernel_rfl)) (by decide) (fun K hK => ?_)
    with_reducible refine row_ ?hw ?hN 65 (.tmp 7) (.tmp 29) ?ho bn #[.slice At n ct, .slice none 0 0, .slice (some ⟨g3, 0, none⟩) nj nj, .slice (some ⟨g6, 0, none⟩) nj nj, .slice (some ⟨g7, 0, none⟩) 4 4, .slice (some ⟨g10, 0, none⟩) n n, .int .i64 0] ?hx ?hy 65 #[.slice none 0 0, .slice none 0 0, .slice none 0 0, .slice none 0 0, .slice none 0 0, .slice none 0 0, .int .i64 0] (hm2.nb _ rfl).2 ?hi ?hold ?h1 ?_
    (case hw => rfl)
    (case hN => rfl)
    (case ho => rfl)
    (case hx => rfl)
    (case hy => rfl)
    (case hi => exact info65z)
    (case hold => rfl)
    (case h1 => simp [Value.oneCell'])
    refine hK.out _ _ ?_
    clear hK K
    refine done_ (done_of HT_.out (by kernel_rfl)) ?_
    exact HQ.out g3 g6 g7 g10 bn W2 hm2 (below_setRow hm2.below (hm2.nb _ rfl).1 _)
  | some bn =>
    simp only [cellP, cnt, Option.isSome_some, if_true]
    refine pure_ (i := 11) (N := some 29) (v := ?_) (a' := ?_) (qd 14 8191) rfl rfl (any_of HT_.out (by kernel_rfl)) (fun c a1 w1 h => hp c _ _ _ (by rfl) h) (Or.inl ⟨by rfl, ?_⟩) ?_ ?_
    rotate_left
    · intro w'
      go_simp
      with_reducible rfl
    rotate_left
    · simp only [Act.put, qa, qb, qc, i64_w, i32_w]
      rfl
    refine last_ (i := 13) (N := none) (qd 14 16383) rfl rfl (one_of HT_.out (by kernel_rfl)) (by decide) (fun K hK => ?_)
    with_reducible refine row_ ?hw ?hN 65 (.tmp 7) (.tmp 29) ?ho bn #[.slice At n ct, .slice none 0 0, .slice (some ⟨g3, 0, none⟩) nj nj, .slice (some ⟨g6, 0, none⟩) nj nj, .slice (some ⟨g7, 0, none⟩) 4 4, .slice (some ⟨g10, 0, none⟩) n n, .int .i64 0] ?hx ?hy 65 #[.slice none 0 0, .slice none 0 0, .slice none 0 0, .slice none 0 0, .slice none 0 0, .slice none 0 0, .int .i64 0] (hm.nb _ rfl).2 ?hi ?hold ?h1 ?_
    (case hw => rfl)
    (case hN => rfl)
    (case ho => rfl)
    (case hx => rfl)
    (case hy => rfl)
    (case hi => exact info65z)
    (case hold => rfl)
    (case h1 => simp [Value.oneCell'])
    refine hK.out _ _ ?_
    clear hK K
    refine done_ (done_of HT_.out (by kernel_rfl)) ?_
    exact HQ.out g3 g6 g7 g10 bn W' hm (below_setRow hm.below (hm.nb _ rfl).1 _)
end Go.Proofs.Ytipkhaicjjeieaa.V
