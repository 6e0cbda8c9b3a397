/- What the statements' own helpers compute (few, same, rows, within, square, product), in the words of the plain algebra. Each lemma's bounds stand in it. -/
import Derived.Test.YthjmfbmffchicaaKSRefB
import Derived.Test.YthjmfbmffchicaaKSf8
import Derived.Test.YthjmfbmffchicaaKSf6
namespace Go.Proofs.Ythjmfbmffchicaa.Pure
open Go.RowKit Go.Proofs.Ythjmfbmffchicaa.V Go.Proofs.YthjmfbmffchicaaW.PrintWords Go.Proofs.YthjmfbmffchicaaW.PrintLast Go.Proofs.YthjmfbmffchicaaW.PrintMore
open Go.Proofs.Ythjmfbmffchicaa.Mp
theorem few_l0 (A : List (List Int)) : ∀ d i : Nat, i + d = 20 → ∃ b, Ev (fun k => l5few.l0 k A (i : Int)) b ∧ (b = true → A.length ≤ 20 ∧ ∀ j, i ≤ j → j < A.length → (A.getD j []).length ≤ 20) := by
  intro d
  induction d with
  | zero =>
    intro i hi
    by_cases h : i < A.length
    · refine ⟨false, ev_now (fun k => ?_), fun h => by cases h⟩
      simp only [l5few.l0]
      rw [if_pos (by omega), if_pos (by omega)]
    · refine ⟨true, ev_now (fun k => ?_), fun _ => ⟨by omega, fun j h1 h2 => by omega⟩⟩
      simp only [l5few.l0]
      rw [if_neg (by omega)]
  | succ d ih =>
    intro i hi
    by_cases h : i < A.length
    · by_cases hr : (A.getD i []).length ≤ 20
      · obtain ⟨b, hb, hbt⟩ := ih (i + 1) (by omega)
        refine ⟨b, Ev.step (f := fun k => l5few.l0 k A ((i + 1 : Nat) : Int)) (fun k => ?_) hb, fun e => ⟨(hbt e).1, fun j h1 h2 => ?_⟩⟩
        · simp only [l5few.l0]
          rw [if_pos (by omega), if_neg (by omega), if_pos (by omega), rdL, if_neg (by omega), wr1 i (by omega)]
        · by_cases e2 : j = i
          · subst e2; exact hr
          · exact (hbt e).2 j (by omega) h2
      · refine ⟨false, ev_now (fun k => ?_), fun h => by cases h⟩
        simp only [l5few.l0]
        rw [if_pos (by omega), if_neg (by omega), if_pos (by omega), rdL, if_pos (by omega)]
    · refine ⟨true, ev_now (fun k => ?_), fun _ => ⟨by omega, fun j h1 h2 => by omega⟩⟩
      simp only [l5few.l0]
      rw [if_neg (by omega)]
theorem few_f (A : List (List Int)) : ∃ b, Ev (fun k => l5few.f k A) b ∧ (b = true → A.length ≤ 20 ∧ ∀ j, j < A.length → (A.getD j []).length ≤ 20) := by
  obtain ⟨b, hb, h⟩ := few_l0 A 20 0 (by omega)
  exact ⟨b, hb, fun e => ⟨(h e).1, fun j hj => (h e).2 j (by omega) hj⟩⟩
theorem same_l0 (x : List Int) (hx : x.length ≤ 9223372036854775807) : ∀ d i, i + d = x.length → Ev (fun k => l5same.l0 k x x (i : Int)) true := by
  intro d
  induction d with
  | zero =>
    intro i hi
    refine ev_now (fun k => ?_)
    simp only [l5same.l0]
    rw [if_neg (by omega)]
  | succ d ih =>
    intro i hi
    refine Ev.step (f := fun k => l5same.l0 k x x ((i + 1 : Nat) : Int)) (fun k => ?_) (ih (i + 1) (by omega))
    simp only [l5same.l0]
    rw [if_pos (by omega), if_pos (by omega), if_pos (by omega), if_pos trivial, wr1 i (by omega)]
theorem same_f (x : List Int) (hx : x.length ≤ 9223372036854775807) : Ev (fun k => l5same.f k x x) true := by
  unfold l5same.f
  exact Ev.congr (fun k => if_pos rfl) (same_l0 x hx x.length 0 (by omega))
theorem rows_l0 (A : List (List Int)) (hA : A.length ≤ 9223372036854775807) (hr : Rows A) : ∀ d i, i + d = A.length → Ev (fun k => l5rows.l0 k A A (i : Int)) true := by
  intro d
  induction d with
  | zero =>
    intro i hi
    refine ev_now (fun k => ?_)
    simp only [l5rows.l0]
    rw [if_neg (by omega)]
  | succ d ih =>
    intro i hi
    refine Ev.step (f := fun k => (l5same.f k (A.getD i []) (A.getD i [])).bind fun t => if t = true then l5rows.l0 k A A ((i + 1 : Nat) : Int) else some false) (fun k => ?_) (Ev.bind (same_f (A.getD i []) (hr i (by omega))) (Ev.congr (fun k => if_pos rfl) (ih (i + 1) (by omega))))
    simp only [l5rows.l0]
    rw [if_pos (by omega), if_pos (by omega), if_pos (by omega), rdL, wr1 i (by omega)]
theorem rows_f (A : List (List Int)) (hA : A.length ≤ 9223372036854775807) (hr : Rows A) : Ev (fun k => l5rows.f k A A) true := by
  unfold l5rows.f
  exact Ev.congr (fun k => if_pos rfl) (rows_l0 A hA hr A.length 0 (by omega))
theorem rows_mat (n : Nat) (hn : n ≤ 1000) (f : Nat → Nat → Int) : Rows (mat n f) := fun i hi => by
  rw [mat_length] at hi
  rw [mat_get f hi, vec_length]; omega
section
variable {n : Nat} {A : List (List Int)}
theorem square_l0 (hn : n ≤ 1000) (hA : IsMat n A) : ∀ d i, i + d = n → Ev (fun k => l5square.l0 k A (n : Int) (i : Int)) true := by
  intro d
  induction d with
  | zero =>
    intro i hi
    refine ev_now (fun k => ?_)
    simp only [l5square.l0]
    rw [hA.1, if_neg (by omega)]
    simp
  | succ d ih =>
    intro i hi
    refine Ev.step (f := fun k => l5square.l0 k A (n : Int) ((i + 1 : Nat) : Int)) (fun k => ?_) (ih (i + 1) (by omega))
    simp only [l5square.l0]
    rw [hA.1, if_pos (by omega), if_pos (by omega), rdL, hA.2 i (by omega), if_pos rfl, wr1 i (by omega)]
theorem square_f (hn : n ≤ 1000) (hA : IsMat n A) : Ev (fun k => l5square.f k A (n : Int)) true := square_l0 hn hA n 0 (by omega)
end
theorem plus_f {M N a b : Int} (ha : Bd M a) (hb : Bd N b) (h : M + N < 1152921504606846976) (hM : 0 ≤ M) (hN : 0 ≤ N) : l5plus.f a b = some (pl a b) := by
  unfold l5plus.f pl NEV
  split
  · rfl
  · split
    · rfl
    · unfold Bd NEV at ha hb
      rw [wr (by omega) (by omega)]
section
variable {n : Nat} {M N : Int} {A B : List (List Int)}
theorem vec_succ (f : Nat → Int) (j : Nat) : vec j f ++ [f j] = vec (j + 1) f := by simp [vec, List.range_succ]
theorem rowsof_succ (n : Nat) (f : Nat → Nat → Int) (i : Nat) : ((List.range i).map fun a => vec n (f a)) ++ [vec n (f i)] = (List.range (i + 1)).map fun a => vec n (f a) := by simp [List.range_succ]
theorem product_l2 (hn : n ≤ 1000) (hA : IsMat n A) (hB : IsMat n B) (ha : BdM n n M (ent A)) (hb : BdM n n N (ent B)) (hMN : M + N < 1152921504606846976) (hM : 0 ≤ M) (hN : 0 ≤ N) (i j : Nat) (hi : i < n) (hj : j < n) (out : List (List Int)) (r : List (List Int))
    (hr : Ev (fun k => l5product.l1 k A B out (i : Int) (vec (j + 1) (mulf n (ent A) (ent B) i)) ((j + 1 : Nat) : Int)) r) :
    ∀ d q, q + d = n → Ev (fun k => l5product.l2 k A B out (i : Int) (vec j (mulf n (ent A) (ent B) i)) (j : Int) (sup (fun k => pl (ent A i k) (ent B k j)) q) (q : Int)) r := by
  intro d
  induction d with
  | zero =>
    intro q hq
    obtain rfl : q = n := by omega
    refine Ev.step (f := fun k => l5product.l1 k A B out (i : Int) (vec (j + 1) (mulf q (ent A) (ent B) i)) ((j + 1 : Nat) : Int)) (fun k => ?_) hr
    simp only [l5product.l2]
    rw [hA.1, if_neg (by omega), vec_length, if_pos (by omega), wr1 j (by omega), ← vec_succ]
    rfl
  | succ d ih =>
    intro q hq
    refine Ev.step (f := fun k => l5product.l2 k A B out (i : Int) (vec j (mulf n (ent A) (ent B) i)) (j : Int) (sup (fun k => pl (ent A i k) (ent B k j)) (q + 1)) ((q + 1 : Nat) : Int)) (fun k => ?_) (ih (q + 1) (by omega))
    simp only [l5product.l2]
    rw [hA.1, if_pos (by omega), if_pos (by omega), if_pos (by omega), if_pos (by omega), rdL, hA.2 i hi, if_pos (by omega), hB.1, if_pos (by omega), if_pos (by omega), rdL, hB.2 q (by omega), if_pos (by omega), rdI, rdI]
    have h := plus_f (ha i q hi (by omega)) (hb q j (by omega) hj) hMN hM hN
    unfold ent at h
    rw [h]
    simp only [Option.bind_some]
    rw [wr1 q (by omega), mx_max]
    rfl
theorem product_l1 (hn : n ≤ 1000) (hA : IsMat n A) (hB : IsMat n B) (ha : BdM n n M (ent A)) (hb : BdM n n N (ent B)) (hMN : M + N < 1152921504606846976) (hM : 0 ≤ M) (hN : 0 ≤ N) (i : Nat) (hi : i < n) (r : List (List Int))
    (hr : Ev (fun k => l5product.l0 k A B ((List.range (i + 1)).map fun a => vec n (mulf n (ent A) (ent B) a)) ((i + 1 : Nat) : Int)) r) :
    ∀ d j, j + d = n → Ev (fun k => l5product.l1 k A B ((List.range i).map fun a => vec n (mulf n (ent A) (ent B) a)) (i : Int) (vec j (mulf n (ent A) (ent B) i)) (j : Int)) r := by
  intro d
  induction d with
  | zero =>
    intro j hj
    obtain rfl : j = n := by omega
    refine Ev.step (f := fun k => l5product.l0 k A B ((List.range (i + 1)).map fun a => vec j (mulf j (ent A) (ent B) a)) ((i + 1 : Nat) : Int)) (fun k => ?_) hr
    simp only [l5product.l1]
    rw [hA.1, if_neg (by omega), List.length_map, List.length_range, if_pos (by omega), wr1 i (by omega), rowsof_succ]
  | succ d ih =>
    intro j hj
    refine Ev.step (f := fun k => l5product.l2 k A B ((List.range i).map fun a => vec n (mulf n (ent A) (ent B) a)) (i : Int) (vec j (mulf n (ent A) (ent B) i)) (j : Int) (sup (fun k => pl (ent A i k) (ent B k j)) 0) ((0 : Nat) : Int)) (fun k => ?_) (product_l2 hn hA hB ha hb hMN hM hN i j hi (by omega) _ r (ih (j + 1) (by omega)) n 0 (by omega))
    simp only [l5product.l1]
    rw [hA.1, if_pos (by omega)]
    rfl
theorem product_l0 (hn : n ≤ 1000) (hA : IsMat n A) (hB : IsMat n B) (ha : BdM n n M (ent A)) (hb : BdM n n N (ent B)) (hMN : M + N < 1152921504606846976) (hM : 0 ≤ M) (hN : 0 ≤ N) :
    ∀ d i, i + d = n → Ev (fun k => l5product.l0 k A B ((List.range i).map fun a => vec n (mulf n (ent A) (ent B) a)) (i : Int)) (mat n (mulf n (ent A) (ent B))) := by
  intro d
  induction d with
  | zero =>
    intro i hi
    obtain rfl : i = n := by omega
    refine ev_now (fun k => ?_)
    simp only [l5product.l0]
    rw [hA.1, if_neg (by omega)]
    rfl
  | succ d ih =>
    intro i hi
    refine Ev.step (f := fun k => l5product.l1 k A B ((List.range i).map fun a => vec n (mulf n (ent A) (ent B) a)) (i : Int) (vec 0 (mulf n (ent A) (ent B) i)) ((0 : Nat) : Int)) (fun k => ?_) (product_l1 hn hA hB ha hb hMN hM hN i (by omega) _ (ih (i + 1) (by omega)) n 0 (by omega))
    simp only [l5product.l0]
    rw [hA.1, if_pos (by omega)]
    rfl
theorem product_f (hn : n ≤ 1000) (hA : IsMat n A) (hB : IsMat n B) (ha : BdM n n M (ent A)) (hb : BdM n n N (ent B)) (hMN : M + N < 1152921504606846976) (hM : 0 ≤ M) (hN : 0 ≤ N) :
    Ev (fun k => l5product.f k A B) (mat n (mulf n (ent A) (ent B))) := product_l0 hn hA hB ha hb hMN hM hN n 0 (by omega)
end
theorem product_mat {n : Nat} (hn : n ≤ 1000) {M N : Int} {a b : Nat → Nat → Int} (ha : BdM n n M a) (hb : BdM n n N b) (hMN : M + N < 1152921504606846976) (hM : 0 ≤ M) (hN : 0 ≤ N) :
    Ev (fun k => l5product.f k (mat n a) (mat n b)) (mat n (mulf n a b)) := by
  have e : mat n (mulf n (ent (mat n a)) (ent (mat n b))) = mat n (mulf n a b) :=
    mat_congr fun i j hi hj => mul_congr (fun k hk => ent_mat a hi hk) (fun k hk => ent_mat b hk hj)
  rw [← e]
  exact product_f hn (isMat_mat n a) (isMat_mat n b) (fun i j hi hj => by rw [ent_mat a hi hj]; exact ha i j hi hj) (fun i j hi hj => by rw [ent_mat b hi hj]; exact hb i j hi hj) hMN hM hN
end Go.Proofs.Ythjmfbmffchicaa.Pure
