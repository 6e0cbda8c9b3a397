/- What the specification's functions compute: matrix, product, identity, power, run. Conditions stand in each theorem: at most six rows, entries as an argument's. -/
import Derived.Test.YthjmfbmffchicaaKPf3
import Derived.Test.YthjmfbmffchicaaKPf4
import Derived.Test.YthjmfbmffchicaaKPRefB
import Derived.Test.YthjmfbmffchicaaKPRefC
namespace Go.Proofs.Ythjmfbmffchicaa.Pure
open Go.RowKit Go.Proofs.Ythjmfbmffchicaa.V Go.Proofs.YthjmfbmffchicaaW.PrintWords Go.Proofs.YthjmfbmffchicaaW.PrintLast
open Go.Proofs.Ythjmfbmffchicaa.Mp
theorem Product_eq : ∀ k, (∀ a b c d, r5Product.l0 k a b c d = l5product.l0 k a b c d) ∧ (∀ a b c d e f, r5Product.l1 k a b c d e f = l5product.l1 k a b c d e f) ∧ (∀ a b c d e f g h, r5Product.l2 k a b c d e f g h = l5product.l2 k a b c d e f g h)
  | 0 => ⟨fun _ _ _ _ => by simp only [r5Product.l0, l5product.l0], fun _ _ _ _ _ _ => by simp only [r5Product.l1, l5product.l1], fun _ _ _ _ _ _ _ _ => by simp only [r5Product.l2, l5product.l2]⟩
  | k + 1 => by
    obtain ⟨i0, i1, i2⟩ := Product_eq k
    have hp : ∀ a b, r5plus.f a b = l5plus.f a b := fun _ _ => rfl
    refine ⟨fun a b c d => ?_, fun a b c d e f => ?_, fun a b c d e f g h => ?_⟩
    · simp only [r5Product.l0, l5product.l0, i1]
    · simp only [r5Product.l1, l5product.l1, i0, i2]
    · simp only [r5Product.l2, l5product.l2, i1, i2, hp]
theorem Product_mat {n : Nat} (hn : n ≤ 1000) {M N : Int} {a b : Nat → Nat → Int} (ha : BdM n n M a) (hb : BdM n n N b) (hMN : M + N < 1152921504606846976) (hM : 0 ≤ M) (hN : 0 ≤ N) :
    Ev (fun k => r5Product.f k (mat n a) (mat n b)) (mat n (mulf n a b)) :=
  Ev.congr (fun k => (Product_eq k).1 _ _ _ _) (product_mat hn ha hb hMN hM hN)
def rowp (i n j : Nat) : List Int := vec n (fun b => if b < j then onef i b else 0)
theorem rowp_set (i n j : Nat) (e : i ≠ j) : (rowp i n j).set j NEV = rowp i n (j + 1) := by
  refine range_map_set n _ _ j _ (fun _ => ?_) (fun b _ hb => ?_)
  · rw [if_pos (by omega)]; unfold onef; rw [if_neg e]
  · by_cases h : b < j
    · rw [if_pos h, if_pos (by omega)]
    · rw [if_neg h, if_neg (by omega)]
theorem rowp_skip (i n : Nat) : rowp i n i = rowp i n (i + 1) := vec_congr fun b _ => by
  by_cases h : b < i
  · rw [if_pos h, if_pos (by omega)]
  · rw [if_neg h]
    by_cases e : b = i
    · rw [if_pos (by omega)]; unfold onef; rw [if_pos e.symm]
    · rw [if_neg (by omega)]
theorem rowp_zero (i n : Nat) : List.replicate n 0 = rowp i n 0 := by
  unfold rowp vec
  rw [show (fun b : Nat => if b < 0 then onef i b else 0) = fun _ => (0 : Int) from funext fun b => if_neg (by omega), List.map_const', List.length_range]
theorem rowp_all (i n : Nat) : rowp i n n = vec n (onef i) := vec_congr fun _ hb => if_pos hb
theorem One_l1 (n : Nat) (hn : n ≤ 1000) (i : Nat) (hi : i < n) (r : List (List Int))
    (hr : Ev (fun k => r5One.l0 k (n : Int) ((List.range (i + 1)).map fun a => vec n (onef a)) ((i + 1 : Nat) : Int)) r) :
    ∀ d j, j + d = n → Ev (fun k => r5One.l1 k (n : Int) ((List.range i).map fun a => vec n (onef a)) (i : Int) (rowp i n j) (j : Int)) r := by
  intro d
  induction d with
  | zero =>
    intro j hj
    refine Ev.step (f := fun k => r5One.l0 k (n : Int) ((List.range (i + 1)).map fun a => vec n (onef a)) ((i + 1 : Nat) : Int)) (fun k => ?_) hr
    simp only [r5One.l1]
    rw [if_neg (by omega), wr1 i (by omega), show j = n by omega, rowp_all, if_pos (by rw [List.length_map, List.length_range]; omega), rowsof_succ]
  | succ d ih =>
    intro j hj
    refine Ev.step (f := fun k => r5One.l1 k (n : Int) ((List.range i).map fun a => vec n (onef a)) (i : Int) (rowp i n (j + 1)) ((j + 1 : Nat) : Int)) (fun k => ?_) (ih (j + 1) (by omega))
    simp only [r5One.l1]
    rw [if_pos (by omega), wr1 j (by omega)]
    by_cases e : i = j
    · subst e
      rw [if_pos rfl, rowp_skip]
    · rw [if_neg (by omega), if_pos (by omega), show (rowp i n j).length = n from vec_length _ _, if_pos (by omega), toN, show (-1152921504606846976 : Int) = NEV from rfl, rowp_set i n j e]
theorem One_l0 (n : Nat) (hn : n ≤ 1000) : ∀ d i, i + d = n → Ev (fun k => r5One.l0 k (n : Int) ((List.range i).map fun a => vec n (onef a)) (i : Int)) (mat n onef) := by
  intro d
  induction d with
  | zero =>
    intro i hi
    obtain rfl : i = n := by omega
    refine ev_now (fun k => ?_)
    simp only [r5One.l0]
    rw [if_neg (by omega)]
    rfl
  | succ d ih =>
    intro i hi
    refine Ev.step (f := fun k => r5One.l1 k (n : Int) ((List.range i).map fun a => vec n (onef a)) (i : Int) (rowp i n 0) ((0 : Nat) : Int)) (fun k => ?_) (One_l1 n hn i (by omega) _ (ih (i + 1) (by omega)) n 0 (by omega))
    simp only [r5One.l0]
    rw [if_pos (by omega), if_pos (by omega), toN, if_pos (by omega), rowp_zero i]
    rfl
theorem One_f (n : Nat) (hn : n ≤ 1000) : Ev (fun k => r5One.f k (n : Int)) (mat n onef) := One_l0 n hn n 0 (by omega)
def From (r : List Int) (j : Nat) : Prop := ∀ q, j ≤ q → q < r.length → oddB (-1000) 1000 (r.getD q 0) = false
theorem Matrix_l1 (A : List (List Int)) (n : Nat) (hn : n ≤ 6) (hA : A.length = n) (i : Nat) (hi : i < n) (hr : (A.getD i []).length = n) (b : Bool)
    (hb : Ev (fun k => r5Matrix.l0 k A (n : Int) ((i + 1 : Nat) : Int)) b) : ∀ d j, j + d = n →
    (From (A.getD i []) j ∧ Ev (fun k => r5Matrix.l1 k A (n : Int) (i : Int) (j : Int)) b) ∨ (¬ From (A.getD i []) j ∧ Ev (fun k => r5Matrix.l1 k A (n : Int) (i : Int) (j : Int)) false) := by
  intro d
  induction d with
  | zero =>
    intro j hj
    refine .inl ⟨fun q h1 h2 => by omega, Ev.step (fun k => ?_) hb⟩
    simp only [r5Matrix.l1]
    rw [if_neg (by omega), wr1 i (by omega)]
  | succ d ih =>
    intro j hj
    have step : ∀ k, r5Matrix.l1 (k + 1) A (n : Int) (i : Int) (j : Int) = if oddB (-1000) 1000 ((A.getD i []).getD j 0) = true then some false else r5Matrix.l1 k A (n : Int) (i : Int) ((j + 1 : Nat) : Int) := by
      intro k
      simp only [r5Matrix.l1]
      rw [if_pos (by omega), if_pos (by omega), if_pos (by omega), if_pos (by omega), rdL, rdI, if_pos (by omega), wr1 j (by omega)]
      unfold oddB
      rw [show (-1152921504606846976 : Int) = NEV from rfl]
      by_cases e : (A.getD i []).getD j 0 = NEV
      · rw [if_pos e, if_neg (by rw [decide_eq_true_iff]; exact fun h => h.1 e)]
      · rw [if_neg e]
        by_cases e1 : (A.getD i []).getD j 0 < -1000
        · rw [if_pos e1, if_pos (by rw [decide_eq_true_iff]; exact ⟨e, .inl e1⟩)]
        · rw [if_neg e1]
          by_cases e2 : (A.getD i []).getD j 0 > 1000
          · rw [if_pos e2, if_pos (by rw [decide_eq_true_iff]; exact ⟨e, .inr e2⟩)]
          · rw [if_neg e2, if_neg (by rw [decide_eq_true_iff]; exact fun h => h.2.elim e1 e2)]
    by_cases ho : oddB (-1000) 1000 ((A.getD i []).getD j 0) = true
    · refine .inr ⟨fun hf => ?_, Ev.step (f := fun _ => some false) (fun k => by rw [step, if_pos ho]) (Ev.now _)⟩
      have := hf j (by omega) (by omega)
      rw [ho] at this; cases this
    · rcases ih (j + 1) (by omega) with ⟨h1, h2⟩ | ⟨h1, h2⟩
      · refine .inl ⟨fun q hq hq2 => ?_, Ev.step (fun k => by rw [step, if_neg ho]) h2⟩
        by_cases e : q = j
        · subst e; exact Bool.eq_false_iff.2 ho
        · exact h1 q (by omega) hq2
      · exact .inr ⟨fun hf => h1 fun q hq hq2 => hf q (by omega) hq2, Ev.step (fun k => by rw [step, if_neg ho]) h2⟩
theorem Matrix_l0 (A : List (List Int)) (n : Nat) (hn : n ≤ 6) (hA : A.length = n) : ∀ d i, i + d = n →
    (RowsOk A i ∧ Ev (fun k => r5Matrix.l0 k A (n : Int) (i : Int)) true) ∨ (¬ RowsOk A i ∧ Ev (fun k => r5Matrix.l0 k A (n : Int) (i : Int)) false) := by
  intro d
  induction d with
  | zero =>
    intro i hi
    refine .inl ⟨fun j h1 h2 => by omega, ev_now (fun k => ?_)⟩
    simp only [r5Matrix.l0]
    rw [if_neg (by omega)]
  | succ d ih =>
    intro i hi
    by_cases hr : (A.getD i []).length = n
    · have go : ∀ b, Ev (fun k => r5Matrix.l1 k A (n : Int) (i : Int) ((0 : Nat) : Int)) b → Ev (fun k => r5Matrix.l0 k A (n : Int) (i : Int)) b := fun b h => Ev.step (fun k => by
        simp only [r5Matrix.l0]
        rw [if_pos (by omega), if_pos (by omega), if_pos (by omega), rdL, if_pos (by omega)]
        rfl) h
      rcases ih (i + 1) (by omega) with ⟨h1, h2⟩ | ⟨h1, h2⟩
      · rcases Matrix_l1 A n hn hA i (by omega) hr _ h2 n 0 (by omega) with ⟨g1, g2⟩ | ⟨g1, g2⟩
        · refine .inl ⟨fun j hj hj2 => ?_, go _ g2⟩
          by_cases e : j = i
          · subst e; exact ⟨by omega, fun q hq => g1 q (by omega) hq⟩
          · exact h1 j (by omega) hj2
        · exact .inr ⟨fun hh => g1 fun q _ hq => (hh i (by omega) (by omega)).2 q hq, go _ g2⟩
      · rcases Matrix_l1 A n hn hA i (by omega) hr _ h2 n 0 (by omega) with ⟨g1, g2⟩ | ⟨g1, g2⟩
        · exact .inr ⟨fun hh => h1 fun j hj hj2 => hh j (by omega) hj2, go _ g2⟩
        · exact .inr ⟨fun hh => h1 fun j hj hj2 => hh j (by omega) hj2, go _ g2⟩
    · refine .inr ⟨fun hh => hr (by rw [(hh i (by omega) (by omega)).1, hA]), ev_now (fun k => ?_)⟩
      simp only [r5Matrix.l0]
      rw [if_pos (by omega), if_pos (by omega), if_pos (by omega), rdL, if_neg (by omega)]
theorem Matrix_f (A : List (List Int)) : ((∃ n, Arg n A) ∧ Ev (fun k => r5Matrix.f k A) true) ∨ ((¬ ∃ n, Arg n A) ∧ Ev (fun k => r5Matrix.f k A) false) := by
  have no : Ev (fun k => r5Matrix.j0 k A (A.length : Int) true) false := ev_now fun k => by simp only [r5Matrix.j0]; exact if_pos trivial
  by_cases h1 : 1 ≤ A.length
  · by_cases h6 : A.length ≤ 6
    · have go : ∀ b, Ev (fun k => r5Matrix.l0 k A (A.length : Int) ((0 : Nat) : Int)) b → Ev (fun k => r5Matrix.f k A) b := fun b h => by
        unfold r5Matrix.f
        refine Ev.congr (f := fun k => r5Matrix.j0 k A (A.length : Int) false) (fun k => ?_) (Ev.step (fun k => ?_) h)
        · rw [if_neg (by omega), decide_eq_false (by omega)]
        · simp only [r5Matrix.j0]; rw [if_neg (by decide)]; rfl
      rcases Matrix_l0 A A.length h6 rfl A.length 0 (by omega) with ⟨g1, g2⟩ | ⟨g1, g2⟩
      · exact .inl ⟨(arg_iff A).2 ⟨h1, h6, g1⟩, go _ g2⟩
      · exact .inr ⟨fun h => g1 ((arg_iff A).1 h).2.2, go _ g2⟩
    · refine .inr ⟨fun h => h6 ((arg_iff A).1 h).2.1, Ev.congr (fun k => ?_) no⟩
      unfold r5Matrix.f
      rw [if_neg (by omega), decide_eq_true (by omega)]
  · refine .inr ⟨fun h => h1 ((arg_iff A).1 h).1, Ev.congr (fun k => ?_) no⟩
    unfold r5Matrix.f
    rw [if_pos (by omega)]
theorem RMultiply_ok {n : Nat} {A B : List (List Int)} (hA : Arg n A) (hB : Arg n B) : Ev (fun k => r5Multiply.f k A B) (mat n (mulf n (ent A) (ent B)), 0) := by
  have h6 := hA.six
  unfold r5Multiply.f
  refine Ev.bind ((Matrix_f A).resolve_right (fun h => h.1 ⟨n, hA⟩)).2 (Ev.congr (fun k => if_pos rfl) (Ev.bind ((Matrix_f B).resolve_right (fun h => h.1 ⟨n, hB⟩)).2 (Ev.congr (fun k => if_pos rfl) (Ev.congr (fun k => if_pos (by rw [hA.is.1, hB.is.1])) (Ev.bind ?_ (Ev.now _))))))
  have := Product_mat (n := n) (by omega) hA.bd hB.bd (by omega) (by omega) (by omega)
  rwa [mat_ext hA.is, mat_ext hB.is] at this
theorem RMultiply_no {A B : List (List Int)} (h : ¬ ∃ n, Arg n A ∧ Arg n B) : Ev (fun k => r5Multiply.f k A B) ([], 2) := by
  unfold r5Multiply.f
  rcases Matrix_f A with ⟨⟨n, hA⟩, ea⟩ | ⟨_, ea⟩
  · refine Ev.bind ea (Ev.congr (fun k => if_pos rfl) ?_)
    rcases Matrix_f B with ⟨⟨m, hB⟩, eb⟩ | ⟨_, eb⟩
    · refine Ev.bind eb (Ev.congr (fun k => if_pos rfl) (ev_some fun k => if_neg fun e => h ⟨n, hA, ?_⟩))
      have e1 := hA.is.1
      have e2 := hB.is.1
      obtain rfl : m = n := by omega
      exact hB
    · exact Ev.bind eb (ev_some fun k => if_neg (by decide))
  · exact Ev.bind ea (ev_some fun k => if_neg (by decide))
theorem raised_f {n : Nat} {A : List (List Int)} (hA : Arg n A) : ∀ N m : Nat, m ≤ N → m ≤ 1048576 → Ev (fun k => r5raised.f k A (m : Int)) (mat n (powf n (ent A) m)) := by
  have h6 := hA.six
  intro N
  induction N with
  | zero =>
    intro m hm _
    obtain rfl : m = 0 := by omega
    refine Ev.step (f := fun k => (r5One.f k (n : Int)).bind fun t => some t) (fun k => ?_) (Ev.bind (One_f n (by omega)) (Ev.now _))
    simp only [r5raised.f]
    rw [if_pos (show ((0 : Nat) : Int) = 0 from rfl), hA.is.1]
  | succ N ih =>
    intro m hm hm2
    by_cases h0 : m = 0
    · exact ih m (by omega) hm2
    have e2 : wrap64 (Int.tdiv (m : Int) 2) = ((m / 2 : Nat) : Int) := by rw [tdiv2, wr (by omega) (by omega)]
    have hp := BdM.pow hA.bd (m / 2)
    have e4 : mat n (mulf n (powf n (ent A) (m / 2)) (powf n (ent A) (m / 2))) = mat n (powf n (ent A) (m / 2 + m / 2)) := mat_pow_mul hA.bd (by omega) _ _ (by omega)
    have q1 := Product_mat (n := n) (by omega) hp hp (by omega) (by omega) (by omega)
    rw [e4] at q1
    have hp2 := BdM.pow hA.bd (m / 2 + m / 2)
    by_cases ho : m % 2 = 1
    · have q2 := Product_mat (n := n) (by omega) hp2 hA.bd (by omega) (by omega) (by omega)
      rw [mat_ext hA.is] at q2
      have e5 : mat n (mulf n (powf n (ent A) (m / 2 + m / 2)) (ent A)) = mat n (powf n (ent A) m) := by
        have e6 := mat_pow_mul hA.bd (by omega) (m / 2 + m / 2) 1 (by omega)
        rw [show m / 2 + m / 2 + 1 = m by omega] at e6
        rw [← e6]
        refine mat_congr fun i j hi hj => mul_congr (fun _ _ => rfl) fun q hq => ?_
        have e7 := congrArg (fun X => ent X q j) (pow_one hA)
        simp only [ent_mat _ hq hj] at e7
        exact e7.symm
      rw [e5] at q2
      refine Ev.step (f := fun k => (r5raised.f k A ((m / 2 : Nat) : Int)).bind fun t => (r5Product.f k t t).bind fun u => (r5Product.f k u A).bind fun v => some v) (fun k => ?_) (Ev.bind (ih (m / 2) (by omega) (by omega)) (Ev.bind q1 (Ev.bind q2 (Ev.now _))))
      simp only [r5raised.f]
      rw [if_neg (by omega), e2, tmod2]
      simp only [if_pos (by omega : ((m % 2 : Nat) : Int) = 1)]
    · rw [show m / 2 + m / 2 = m by omega] at q1
      refine Ev.step (f := fun k => (r5raised.f k A ((m / 2 : Nat) : Int)).bind fun t => (r5Product.f k t t).bind fun u => some u) (fun k => ?_) (Ev.bind (ih (m / 2) (by omega) (by omega)) (Ev.bind q1 (Ev.now _)))
      simp only [r5raised.f]
      rw [if_neg (by omega), e2, tmod2]
      simp only [if_neg (by omega : ¬ ((m % 2 : Nat) : Int) = 1)]
theorem RPower_ok {n : Nat} {A : List (List Int)} (hA : Arg n A) (m : Nat) (hm : m ≤ 1048576) : Ev (fun k => r5Power.f k A (m : Int)) (mat n (powf n (ent A) m), 0) := by
  unfold r5Power.f
  exact Ev.bind ((Matrix_f A).resolve_right (fun h => h.1 ⟨n, hA⟩)).2 (Ev.congr (fun k => if_pos rfl) (Ev.congr (fun k => if_neg (by omega)) (Ev.congr (fun k => if_neg (by omega)) (Ev.bind (raised_f hA m m (by omega) hm) (Ev.now _)))))
theorem RPower_no {A : List (List Int)} (m : Int) (h : (¬ ∃ n, Arg n A) ∨ m < 0 ∨ 1048576 < m) : Ev (fun k => r5Power.f k A m) ([], 2) := by
  unfold r5Power.f
  rcases Matrix_f A with ⟨hA, ea⟩ | ⟨_, ea⟩
  · refine Ev.bind ea (Ev.congr (fun k => if_pos rfl) ?_)
    by_cases h0 : m < 0
    · exact ev_some fun k => if_pos h0
    · exact Ev.congr (fun k => if_neg h0) (ev_some fun k => if_pos (by rcases h with h | h | h <;> first | exact absurd hA h | omega))
  · exact Ev.bind ea (ev_some fun k => if_neg (by decide))
def OnIn (lo hi : Int) (l : List Int) (j : Nat) : Prop := ∀ q, j ≤ q → q < l.length → oddB lo hi (l.getD q 0) = false
theorem odd_if (lo hi x : Int) {α : Type} (u v : α) : (if x = (-1152921504606846976) then v else (if x < lo then u else (if x > hi then u else v))) = if oddB lo hi x = true then u else v := by
  unfold oddB
  rw [show (-1152921504606846976 : Int) = NEV from rfl]
  by_cases e : x = NEV
  · rw [if_pos e, if_neg (by rw [decide_eq_true_iff]; exact fun h => h.1 e)]
  · rw [if_neg e]
    by_cases e1 : x < lo
    · rw [if_pos e1, if_pos (by rw [decide_eq_true_iff]; exact ⟨e, .inl e1⟩)]
    · rw [if_neg e1]
      by_cases e2 : x > hi
      · rw [if_pos e2, if_pos (by rw [decide_eq_true_iff]; exact ⟨e, .inr e2⟩)]
      · rw [if_neg e2, if_neg (by rw [decide_eq_true_iff]; exact fun h => h.2.elim e1 e2)]
theorem Run_l3 (x y : List Int) (n : Nat) (hn : n ≤ 1000) (hx : x.length = n) (hy : y.length = n) : ∀ d j, j + d = n →
    (OnIn (-1125899906842624) 1125899906842624 y j ∧ Ev (fun k => r5Run.l3 k x y (j : Int)) (y, 0)) ∨ (¬ OnIn (-1125899906842624) 1125899906842624 y j ∧ Ev (fun k => r5Run.l3 k x y (j : Int)) ([], 4)) := by
  intro d
  induction d with
  | zero =>
    intro j hj
    refine .inl ⟨fun q h1 h2 => by omega, ev_now (fun k => ?_)⟩
    simp only [r5Run.l3]
    rw [if_neg (by omega)]
  | succ d ih =>
    intro j hj
    have step : ∀ k, r5Run.l3 (k + 1) x y (j : Int) = if oddB (-1125899906842624) 1125899906842624 (y.getD j 0) = true then some ([], 4) else r5Run.l3 k x y ((j + 1 : Nat) : Int) := by
      intro k
      simp only [r5Run.l3]
      rw [if_pos (by omega), if_pos (by omega), if_pos (by omega), rdI, wr1 j (by omega), odd_if]
    by_cases ho : oddB (-1125899906842624) 1125899906842624 (y.getD j 0) = true
    · refine .inr ⟨fun hf => ?_, Ev.step (f := fun _ => some ([], 4)) (fun k => by rw [step, if_pos ho]) (Ev.now _)⟩
      have := hf j (by omega) (by omega)
      rw [ho] at this; cases this
    · rcases ih (j + 1) (by omega) with ⟨h1, h2⟩ | ⟨h1, h2⟩
      · refine .inl ⟨fun q hq hq2 => ?_, Ev.step (fun k => by rw [step, if_neg ho]) h2⟩
        by_cases e : q = j
        · subst e; exact Bool.eq_false_iff.2 ho
        · exact h1 q (by omega) hq2
      · exact .inr ⟨fun hf => h1 fun q hq hq2 => hf q (by omega) hq2, Ev.step (fun k => by rw [step, if_neg ho]) h2⟩
theorem Run_l0 (A : List (List Int)) (x : List Int) (m : Int) (n : Nat) (hn : n ≤ 1000) (hx : x.length = n) (v : List Int × Int)
    (hv : Ev (fun k => (r5raised.f k A m).bind fun t => r5Run.l1 k x t ([] : List Int) 0) v) : ∀ d j, j + d = n →
    (OnIn (-1125899906842624) 562949953421312 x j ∧ Ev (fun k => r5Run.l0 k A x m (j : Int)) v) ∨ (¬ OnIn (-1125899906842624) 562949953421312 x j ∧ Ev (fun k => r5Run.l0 k A x m (j : Int)) ([], 2)) := by
  intro d
  induction d with
  | zero =>
    intro j hj
    refine .inl ⟨fun q h1 h2 => by omega, Ev.step (fun k => ?_) hv⟩
    simp only [r5Run.l0]
    rw [if_neg (by omega)]
  | succ d ih =>
    intro j hj
    have step : ∀ k, r5Run.l0 (k + 1) A x m (j : Int) = if oddB (-1125899906842624) 562949953421312 (x.getD j 0) = true then some ([], 2) else r5Run.l0 k A x m ((j + 1 : Nat) : Int) := by
      intro k
      simp only [r5Run.l0]
      rw [if_pos (by omega), if_pos (by omega), rdI, wr1 j (by omega), odd_if]
    by_cases ho : oddB (-1125899906842624) 562949953421312 (x.getD j 0) = true
    · refine .inr ⟨fun hf => ?_, Ev.step (f := fun _ => some ([], 2)) (fun k => by rw [step, if_pos ho]) (Ev.now _)⟩
      have := hf j (by omega) (by omega)
      rw [ho] at this; cases this
    · rcases ih (j + 1) (by omega) with ⟨h1, h2⟩ | ⟨h1, h2⟩
      · refine .inl ⟨fun q hq hq2 => ?_, Ev.step (fun k => by rw [step, if_neg ho]) h2⟩
        by_cases e : q = j
        · subst e; exact Bool.eq_false_iff.2 ho
        · exact h1 q (by omega) hq2
      · exact .inr ⟨fun hf => h1 fun q hq hq2 => hf q (by omega) hq2, Ev.step (fun k => by rw [step, if_neg ho]) h2⟩
theorem bad_first {lo hi : Int} {x : List Int} (h : ¬ OnIn lo hi x 0) : ∃ j, j < x.length ∧ oddB lo hi (x.getD j 0) = true ∧ ∀ q, q < j → oddB lo hi (x.getD q 0) = false := by
  have ex : ∃ j, j < x.length ∧ oddB lo hi (x.getD j 0) = true := Classical.byContradiction fun hn => h fun q _ hq => by
    cases e : oddB lo hi (x.getD q 0) with
    | false => rfl
    | true => exact absurd ⟨q, hq, e⟩ hn
  have best : ∀ N j, j ≤ N → j < x.length → oddB lo hi (x.getD j 0) = true → ∃ j, j < x.length ∧ oddB lo hi (x.getD j 0) = true ∧ ∀ q, q < j → oddB lo hi (x.getD q 0) = false := by
    intro N
    induction N with
    | zero => intro j hj h1 h2; exact ⟨j, h1, h2, fun q hq => by omega⟩
    | succ N ih =>
      intro j hj h1 h2
      by_cases e : ∃ q, q < j ∧ oddB lo hi (x.getD q 0) = true
      · obtain ⟨q, hq, h3⟩ := e
        exact ih q (by omega) (by omega) h3
      · refine ⟨j, h1, h2, fun q hq => ?_⟩
        cases e2 : oddB lo hi (x.getD q 0) with
        | false => rfl
        | true => exact absurd ⟨q, hq, e2⟩ e
  obtain ⟨j, h1, h2⟩ := ex
  exact best j j (by omega) h1 h2
theorem Run_l0_no (A : List (List Int)) (x : List Int) (m : Int) (n : Nat) (hn : n ≤ 1000) (hx : x.length = n) (b : Nat) (hb : b < n) (h1 : oddB (-1125899906842624) 562949953421312 (x.getD b 0) = true) (h2 : ∀ q, q < b → oddB (-1125899906842624) 562949953421312 (x.getD q 0) = false) : ∀ d j, j + d = b →
    Ev (fun k => r5Run.l0 k A x m (j : Int)) ([], 2) := by
  have step : ∀ j, j < n → ∀ k, r5Run.l0 (k + 1) A x m (j : Int) = if oddB (-1125899906842624) 562949953421312 (x.getD j 0) = true then some ([], 2) else r5Run.l0 k A x m ((j + 1 : Nat) : Int) := by
    intro j hj k
    simp only [r5Run.l0]
    rw [if_pos (by omega), if_pos (by omega), rdI, wr1 j (by omega), odd_if]
  intro d
  induction d with
  | zero =>
    intro j hj
    obtain rfl : j = b := by omega
    exact ev_now fun k => by rw [step j hb, if_pos h1]
  | succ d ih =>
    intro j hj
    exact Ev.step (fun k => by rw [step j (by omega), if_neg (by rw [h2 j (by omega)]; decide)]) (ih (j + 1) (by omega))
theorem Run_l2 {n : Nat} {P : List (List Int)} {x : List Int} {M N : Int} (hn : n ≤ 1000) (hP : IsMat n P) (hx : x.length = n) (hp : BdM n n M (ent P)) (hb : ∀ j, j < n → Bd N (x.getD j 0)) (hMN : M + N < 1152921504606846976) (hM : 0 ≤ M) (hN : 0 ≤ N)
    (i : Nat) (hi : i < n) (r : List Int × Int) (hr : Ev (fun k => r5Run.l1 k x P (vec (i + 1) (onf n (ent P) fun q => x.getD q 0)) ((i + 1 : Nat) : Int)) r) : ∀ d j, j + d = n →
    Ev (fun k => r5Run.l2 k x P (vec i (onf n (ent P) fun q => x.getD q 0)) (i : Int) (sup (fun q => pl (ent P i q) (x.getD q 0)) j) (j : Int)) r := by
  intro d
  induction d with
  | zero =>
    intro j hj
    obtain rfl : j = n := by omega
    refine Ev.step (fun k => ?_) hr
    simp only [r5Run.l2]
    rw [if_neg (by omega), if_pos (by rw [vec_length]; omega), wr1 i (by omega), ← vec_succ]
    rfl
  | succ d ih =>
    intro j hj
    refine Ev.step (fun k => ?_) (ih (j + 1) (by omega))
    simp only [r5Run.l2]
    rw [if_pos (by omega), if_pos (by omega), if_pos (by rw [hP.1]; omega), if_pos (by omega), rdL, rdI, rdI, if_pos (by rw [hP.2 i hi]; omega), wr1 j (by omega)]
    have hpf : r5plus.f ((P.getD i []).getD j 0) (x.getD j 0) = some (pl (ent P i j) (x.getD j 0)) := plus_f (hp i j hi (by omega)) (hb j (by omega)) hMN hM hN
    rw [hpf]
    simp only [Option.bind_some, mx_max]
    rfl
theorem Run_l1 {n : Nat} {P : List (List Int)} {x : List Int} {M N : Int} (hn : n ≤ 1000) (hP : IsMat n P) (hx : x.length = n) (hp : BdM n n M (ent P)) (hb : ∀ j, j < n → Bd N (x.getD j 0)) (hMN : M + N < 1152921504606846976) (hM : 0 ≤ M) (hN : 0 ≤ N)
    (r : List Int × Int) (hr : Ev (fun k => r5Run.l3 k x (vec n (onf n (ent P) fun q => x.getD q 0)) ((0 : Nat) : Int)) r) : ∀ d i, i + d = n →
    Ev (fun k => r5Run.l1 k x P (vec i (onf n (ent P) fun q => x.getD q 0)) (i : Int)) r := by
  intro d
  induction d with
  | zero =>
    intro i hi
    obtain rfl : i = n := by omega
    refine Ev.step (fun k => ?_) hr
    simp only [r5Run.l1]
    rw [if_neg (by omega)]
    rfl
  | succ d ih =>
    intro i hi
    refine Ev.step (fun k => ?_) (Run_l2 hn hP hx hp hb hMN hM hN i (by omega) r (ih (i + 1) (by omega)) n 0 (by omega))
    simp only [r5Run.l1]
    rw [if_pos (by omega)]
    rfl
theorem RRun_ok {n : Nat} {A : List (List Int)} (hA : Arg n A) (m : Nat) (hm : m ≤ 1048576) {x : List Int} (hx : Start n x) :
    (AllIn (-1125899906842624) 1125899906842624 (End n (ent A) m x) ∧ Ev (fun k => r5Run.f k A x (m : Int)) (End n (ent A) m x, 0)) ∨ (¬ AllIn (-1125899906842624) 1125899906842624 (End n (ent A) m x) ∧ Ev (fun k => r5Run.f k A x (m : Int)) ([], 4)) := by
  have h6 := hA.six
  have hl : (End n (ent A) m x).length = n := vec_length _ _
  have hpw := BdM.pow hA.bd m
  have main : ∀ v, Ev (fun k => r5Run.l3 k x (End n (ent A) m x) ((0 : Nat) : Int)) v → Ev (fun k => r5Run.f k A x (m : Int)) v := by
    intro v hv
    have e0 : vec n (onf n (ent (mat n (powf n (ent A) m))) fun q => x.getD q 0) = End n (ent A) m x := vec_congr fun i hi => sup_congr fun q hq => by rw [ent_mat _ hi hq]
    have e1 := Run_l1 (n := n) (P := mat n (powf n (ent A) m)) (x := x) (M := 1000 * (m : Nat)) (N := 1125899906842624) (by omega) (isMat_mat n _) hx.1 (fun i j hi hj => by rw [ent_mat _ hi hj]; exact hpw i j hi hj) hx.bd (by omega) (by omega) (by omega) v (by rw [e0]; exact hv) n 0 (by omega)
    have e2 := ((Run_l0 A x (m : Int) n (by omega) hx.1 v (Ev.bind (raised_f hA m m (by omega) hm) e1) n 0 (by omega)).resolve_right (fun h => h.1 fun q _ hq => hx.2 q hq)).2
    unfold r5Run.f
    refine Ev.bind ((Matrix_f A).resolve_right (fun h => h.1 ⟨n, hA⟩)).2 (Ev.congr (fun k => if_pos rfl) (Ev.congr (fun k => if_neg (by omega)) (Ev.congr (fun k => if_neg (by omega)) (Ev.step (fun k => ?_) e2))))
    simp only [r5Run.j0]
    rw [if_neg (by rw [hx.1, hA.is.1]; simp)]
    rfl
  rcases Run_l3 x (End n (ent A) m x) n (by omega) hx.1 hl n 0 (by omega) with ⟨h, he⟩ | ⟨h, he⟩
  · exact .inl ⟨fun q hq => h q (by omega) hq, main _ he⟩
  · exact .inr ⟨fun hh => h fun q _ hq => hh q hq, main _ he⟩
theorem RRun_no {A : List (List Int)} (m : Int) (x : List Int) (h : ¬ (∃ n, Arg n A ∧ Start n x) ∨ m < 0 ∨ 1048576 < m) : Ev (fun k => r5Run.f k A x m) ([], 2) := by
  have no : Ev (fun k => r5Run.j0 k A x m true) ([], 2) := ev_now fun k => by simp only [r5Run.j0]; exact if_pos trivial
  unfold r5Run.f
  rcases Matrix_f A with ⟨⟨n, hA⟩, ea⟩ | ⟨_, ea⟩
  · refine Ev.bind ea (Ev.congr (fun k => if_pos rfl) ?_)
    by_cases h0 : m < 0
    · exact Ev.congr (fun k => if_pos h0) no
    by_cases h1 : m > 1048576
    · exact Ev.congr (fun k => if_neg h0) (Ev.congr (fun k => if_pos h1) no)
    refine Ev.congr (fun k => if_neg h0) (Ev.congr (fun k => if_neg h1) ?_)
    by_cases hl : x.length = n
    · have h6 := hA.six
      obtain ⟨M, rfl⟩ := Int.eq_ofNat_of_zero_le (by omega : 0 ≤ m)
      have hns : ¬ OnIn (-1125899906842624) 562949953421312 x 0 := fun hh => by
        rcases h with h | h | h
        · exact h ⟨n, hA, hl, fun q hq => hh q (by omega) hq⟩
        · omega
        · omega
      have e2 : Ev (fun k => r5Run.l0 k A x (M : Int) ((0 : Nat) : Int)) ([], 2) := by
        obtain ⟨j, hj, hb⟩ := bad_first hns
        exact Run_l0_no A x (M : Int) n (by omega) hl j (by omega) hb.1 hb.2 j 0 (by omega)
      refine Ev.step (fun k => ?_) e2
      simp only [r5Run.j0]
      rw [if_neg (by rw [hl, hA.is.1]; simp)]
      rfl
    · refine Ev.congr (fun k => ?_) no
      rw [show ((x.length : Int) != (A.length : Int)) = true by rw [hA.is.1, bne_iff_ne]; omega]
  · exact Ev.bind ea (Ev.congr (fun k => if_neg (by decide)) no)
end Go.Proofs.Ythjmfbmffchicaa.Pure
