/- The plain statement of the law LineAlgebra: whatever the lists and numbers, the printed law's function comes to true. No condition but that the numbers are of their kinds. -/
import Derived.Test.YthjmfbmffchicaaKAf4
import Derived.Test.YthjmfbmffchicaaKARefC
import Derived.Test.YthjmfbmffchicaaKAAlive
import Derived.OpenShut
namespace Go.Proofs.Ythjmfbmffchicaa.Pure
open Go.RowKit Go.Proofs.Ythjmfbmffchicaa.V Go.Proofs.YthjmfbmffchicaaW.PrintWords Go.Proofs.YthjmfbmffchicaaW.PrintLast
open Go.Proofs.Ythjmfbmffchicaa.Mp
theorem alive_now : Ev (fun k => (tinplatelaw05_alive.f k).bind fun t => some t) true := Ev.bind alive_ev (Ev.now true)
theorem end_end {n : Nat} {A : List (List Int)} (hA : Arg n A) (m j : Nat) (hm : m ≤ 1000) (hj : j ≤ 1000) {x : List Int} (hx : Start n x) :
    End n (ent A) j (End n (ent A) m x) = End n (ent A) (m + j) x := by
  refine vec_congr fun i hi => ?_
  have hp := BdM.pow hA.bd
  have e1 : onf n (powf n (ent A) j) (fun q => (End n (ent A) m x).getD q 0) i = mulf n (powf n (ent A) j) (mulf n (powf n (ent A) m) (fun q _ => x.getD q 0)) i 0 :=
    sup_congr fun q hq => by
      show pl _ ((vec n _).getD q 0) = _
      rw [vec_get _ hq]
      rfl
  have hb : BdM n 1 1125899906842624 (fun q _ => x.getD q 0) := fun q _ hq _ => hx.bd q hq
  rw [e1, ← mul_assoc (hp j) (hp m) hb (by omega) (by omega) (by omega) (by omega) hi (by omega)]
  refine sup_congr fun q hq => ?_
  show pl (mulf n (powf n (ent A) j) (powf n (ent A) m) i q) (x.getD q 0) = pl (powf n (ent A) (m + j) i q) (x.getD q 0)
  rw [← pow_add hA.bd (by omega) j m (by omega) hi hq, Nat.add_comm]
theorem j4 {A : List (List Int)} (ra : Rows A) {n : Nat} (hA : Arg n A) {x : List Int} (hx : x.length ≤ 9223372036854775807) (m j : Nat) (hm : m ≤ 1000) (hj : j ≤ 1000) :
    Ev (fun k => tinplatelaw05_LineAlgebra.j4 k A x (m : Int) (j : Int) false) true := by
  have h6 := hA.six
  refine Ev.step (f := fun k => (line_Run.f k A x (m : Int)).bind fun b => if b.2 = 0 then ((line_Run.f k A b.1 (j : Int)).bind fun c => (line_Run.f k A x ((m + j : Nat) : Int)).bind fun d => if c.2 = 0 then (if d.2 = 0 then ((tinplatelaw05_same.f k c.1 d.1).bind fun t => if t = true then ((tinplatelaw05_alive.f k).bind fun t => some t) else some false) else ((tinplatelaw05_alive.f k).bind fun t => some t)) else ((tinplatelaw05_alive.f k).bind fun t => some t)) else ((tinplatelaw05_alive.f k).bind fun t => some t)) (fun k => ?_) ?_
  · simp only [tinplatelaw05_LineAlgebra.j4]
    rw [if_neg (by decide), wr (by omega) (by omega), show ((m : Int) + (j : Int)) = ((m + j : Nat) : Int) by omega]
  by_cases hs : Start n x
  · rcases Run_ok hA ra m (by omega) hs with ⟨_, e1⟩ | ⟨_, e1⟩
    · refine Ev.bind e1 (Ev.congr (fun k => if_pos rfl) ?_)
      have hyl : (End n (ent A) m x).length = n := vec_length _ _
      rcases Run_ok hA ra (m + j) (by omega) hs with ⟨_, e3⟩ | ⟨_, e3⟩
      · by_cases hy : Start n (End n (ent A) m x)
        · rcases Run_ok hA ra j (by omega) hy with ⟨_, e2⟩ | ⟨_, e2⟩
          · refine Ev.bind e2 (Ev.bind e3 (Ev.congr (fun k => if_pos rfl) (Ev.congr (fun k => if_pos rfl) ?_)))
            show Ev (fun k => (tinplatelaw05_same.f k (End n (ent A) j (End n (ent A) m x)) (End n (ent A) (m + j) x)).bind _) true
            rw [end_end hA m j hm hj hs]
            have hl : (End n (ent A) (m + j) x).length = n := vec_length _ _
            exact Ev.bind (same_f _ (by omega)) (Ev.congr (fun k => if_pos rfl) alive_now)
          · exact Ev.bind e2 (Ev.bind e3 (Ev.congr (fun k => if_neg (by decide)) alive_now))
        · exact Ev.bind (Run_no ra j (End n (ent A) m x) (by omega) (.inl fun ⟨n', h1, h2⟩ => hy (by have e1 := h1.is.1; have e2 := hA.is.1; obtain rfl : n' = n := (by omega); exact h2))) (Ev.bind e3 (Ev.congr (fun k => if_neg (by decide)) alive_now))
      · by_cases hy : Start n (End n (ent A) m x)
        · rcases Run_ok hA ra j (by omega) hy with ⟨_, e2⟩ | ⟨_, e2⟩
          · exact Ev.bind e2 (Ev.bind e3 (Ev.congr (fun k => if_pos rfl) (Ev.congr (fun k => if_neg (by decide)) alive_now)))
          · exact Ev.bind e2 (Ev.bind e3 (Ev.congr (fun k => if_neg (by decide)) alive_now))
        · exact Ev.bind (Run_no ra j (End n (ent A) m x) (by omega) (.inl fun ⟨n', h1, h2⟩ => hy (by have e1 := h1.is.1; have e2 := hA.is.1; obtain rfl : n' = n := (by omega); exact h2))) (Ev.bind e3 (Ev.congr (fun k => if_neg (by decide)) alive_now))
    · exact Ev.bind e1 (Ev.congr (fun k => if_neg (by decide)) alive_now)
  · refine Ev.bind (Run_no ra m x hx (.inl fun ⟨n', h1, h2⟩ => hs (by have e1 := h1.is.1; have e2 := hA.is.1; obtain rfl : n' = n := (by omega); exact h2))) (Ev.congr (fun k => if_neg (by decide)) alive_now)
theorem j2 {A : List (List Int)} (ra : Rows A) {x : List Int} (hx : x.length ≤ 9223372036854775807) (a4 a5 : Int) (h4 : 0 ≤ a4) (_h4' : a4 ≤ 65535) (h5 : 0 ≤ a5) (_h5' : a5 ≤ 65535) :
    Ev (fun k => tinplatelaw05_LineAlgebra.j2 k A x a4 a5) true := by
  obtain ⟨m, hm, hm'⟩ : ∃ m : Nat, wrap64 (Int.tmod a4 1000) = (m : Int) ∧ m ≤ 999 := ⟨(a4 % 1000).toNat, by rw [Int.tmod_eq_emod_of_nonneg h4, wr (by omega) (by omega)]; omega, by omega⟩
  obtain ⟨j, hj, hj'⟩ : ∃ m : Nat, wrap64 (Int.tmod a5 1000) = (m : Int) ∧ m ≤ 999 := ⟨(a5 % 1000).toNat, by rw [Int.tmod_eq_emod_of_nonneg h5, wr (by omega) (by omega)]; omega, by omega⟩
  have hmj : wrap64 ((m : Int) + (j : Int)) = ((m + j : Nat) : Int) := by rw [wr (by omega) (by omega)]; omega
  refine Ev.step (f := fun k => (line_Power.f k A (m : Int)).bind fun p => (line_Power.f k A (j : Int)).bind fun q => (line_Power.f k A ((m + j : Nat) : Int)).bind fun w => if p.2 = q.2 then tinplatelaw05_LineAlgebra.j3 k A x p.1 p.2 q.1 (m : Int) (j : Int) w.1 (q.2 != w.2) else tinplatelaw05_LineAlgebra.j3 k A x p.1 p.2 q.1 (m : Int) (j : Int) w.1 true) (fun k => ?_) ?_
  · simp only [tinplatelaw05_LineAlgebra.j2]
    rw [hm, hj, hmj]
  by_cases hA : ∃ n, Arg n A
  · obtain ⟨n, hA⟩ := hA
    have h6 := hA.six
    refine Ev.bind (Power_ok hA ra m (by omega)) (Ev.bind (Power_ok hA ra j (by omega)) (Ev.bind (Power_ok hA ra (m + j) (by omega)) (Ev.congr (fun k => if_pos rfl) ?_)))
    refine Ev.step (f := fun k => (tinplatelaw05_square.f k (mat n (powf n (ent A) m)) (n : Int)).bind fun t => if t = true then ((tinplatelaw05_square.f k (mat n (powf n (ent A) j)) (n : Int)).bind fun t => if t = true then ((tinplatelaw05_product.f k (mat n (powf n (ent A) m)) (mat n (powf n (ent A) j))).bind fun u => (tinplatelaw05_rows.f k (mat n (powf n (ent A) (m + j))) u).bind fun v => tinplatelaw05_LineAlgebra.j4 k A x (m : Int) (j : Int) (!v)) else tinplatelaw05_LineAlgebra.j4 k A x (m : Int) (j : Int) true) else tinplatelaw05_LineAlgebra.j4 k A x (m : Int) (j : Int) true) (fun k => ?_) ?_
    · simp only [tinplatelaw05_LineAlgebra.j3]
      rw [if_neg (by decide), hA.is.1]
      rfl
    refine Ev.bind (square_f (by omega) (isMat_mat n _)) (Ev.congr (fun k => if_pos rfl) (Ev.bind (square_f (by omega) (isMat_mat n _)) (Ev.congr (fun k => if_pos rfl) ?_)))
    refine Ev.bind (product_mat (by omega) (BdM.pow hA.bd m) (BdM.pow hA.bd j) (by omega) (by omega) (by omega)) ?_
    rw [mat_pow_mul hA.bd (by omega) m j (by omega)]
    refine Ev.bind (rows_f _ (by rw [mat_length]; omega) (rows_mat n (by omega) _)) ?_
    exact j4 ra hA hx m j (by omega) (by omega)
  · refine Ev.bind (Power_no ra m (.inl hA)) (Ev.bind (Power_no ra j (.inl hA)) (Ev.bind (Power_no ra _ (.inl hA)) (Ev.congr (fun k => if_pos rfl) ?_)))
    refine Ev.step (f := fun k => (tinplatelaw05_alive.f k).bind fun t => some t) (fun k => ?_) alive_now
    simp only [tinplatelaw05_LineAlgebra.j3]
    rw [if_neg (by decide), if_neg (by decide)]
theorem j1 {A C P Q : List (List Int)} (ra : Rows A) {x : List Int} (hx : x.length ≤ 9223372036854775807) (a4 a5 : Int) (h4 : 0 ≤ a4) (h4' : a4 ≤ 65535) (h5 : 0 ≤ a5) (h5' : a5 ≤ 65535) :
    Ev (fun k => tinplatelaw05_LineAlgebra.j1 k A C x a4 a5 P Q false) true := by
  refine Ev.step (f := fun k => tinplatelaw05_LineAlgebra.j2 k A x a4 a5) (fun k => ?_) (j2 ra hx a4 a5 h4 h4' h5 h5')
  simp only [tinplatelaw05_LineAlgebra.j1]
  rw [if_neg (by decide)]
theorem arg_mat {n : Nat} (h1 : 1 ≤ n) (h6 : n ≤ 6) {f : Nat → Nat → Int} (hb : BdM n n 1000 (ent (mat n f))) : Arg n (mat n f) := ⟨isMat_mat n f, h1, h6, hb⟩
theorem LineAlgebra : ∀ (l0 : List (List Int)) (l1 : List (List Int)) (l2 : List (List Int)) (l3 : List Int) (a4 : Int) (a5 : Int), l0.length ≤ 9223372036854775807 → (∀ r ∈ l0, r.length ≤ maxLen ∧ ∀ x ∈ r, (Lit.int .i64 x).wf = true) → l1.length ≤ 9223372036854775807 → (∀ r ∈ l1, r.length ≤ maxLen ∧ ∀ x ∈ r, (Lit.int .i64 x).wf = true) → l2.length ≤ 9223372036854775807 → (∀ r ∈ l2, r.length ≤ maxLen ∧ ∀ x ∈ r, (Lit.int .i64 x).wf = true) → l3.length ≤ 9223372036854775807 → (∀ x ∈ l3, (Lit.int .i64 x).wf = true) → (Lit.int .u16 a4).wf = true → (Lit.int .u16 a5).wf = true → ∃ k, tinplatelaw05_LineAlgebra.f k l0 l1 l2 l3 a4 a5 = some true := by
  intro A B C x a4 a5 hA1 hA2 hB1 hB2 hC1 hC2 hx hx2 w4 w5
  have b4 : 0 ≤ a4 ∧ a4 ≤ 65535 := bounds_u16 w4
  have b5 : 0 ≤ a5 ∧ a5 ≤ 65535 := bounds_u16 w5
  have rows : ∀ {l : List (List Int)}, (∀ r ∈ l, r.length ≤ maxLen ∧ ∀ x ∈ r, (Lit.int .i64 x).wf = true) → Rows l := by
    intro l h i hi
    have e : l.getD i [] = l[i] := by simp [List.getD_eq_getElem?_getD, List.getElem?_eq_getElem hi]
    rw [e]
    have := (h l[i] (List.getElem_mem hi)).1
    unfold maxLen at this
    omega
  have ra := rows hA2
  have rb := rows hB2
  have rc := rows hC2
  apply Ev.rounds
  have out : Ev (fun k => tinplatelaw05_LineAlgebra.j0 k A B C x a4 a5 true) true := by
    refine Ev.step (f := fun k => (tinplatelaw05_alive.f k).bind fun t => some t) (fun k => ?_) alive_now
    simp only [tinplatelaw05_LineAlgebra.j0]
    rw [if_pos trivial]
  unfold tinplatelaw05_LineAlgebra.f
  obtain ⟨fa, ea, _⟩ := few_f A
  refine Ev.bind ea ?_
  cases fa with
  | false => exact Ev.congr (fun k => if_neg (by decide)) out
  | true =>
  refine Ev.congr (fun k => if_pos rfl) ?_
  obtain ⟨fb, eb, _⟩ := few_f B
  refine Ev.bind eb ?_
  cases fb with
  | false => exact Ev.congr (fun k => if_neg (by decide)) out
  | true =>
  refine Ev.congr (fun k => if_pos rfl) ?_
  obtain ⟨fc, ec, _⟩ := few_f C
  refine Ev.bind ec ?_
  cases fc with
  | false => exact Ev.congr (fun k => if_neg (by decide)) out
  | true =>
  refine Ev.congr (fun k => if_pos rfl) ?_
  by_cases h20 : (x.length : Int) > 20
  · rw [decide_eq_true h20]; exact out
  rw [decide_eq_false h20]
  have fin : ∀ P Q, Ev (fun k => tinplatelaw05_LineAlgebra.j1 k A C x a4 a5 P Q false) true := fun P Q => j1 ra hx a4 a5 b4.1 b4.2 b5.1 b5.2
  refine Ev.step (f := fun k => (line_Multiply.f k A B).bind fun p => (line_Multiply.f k B C).bind fun q => if p.2 = 0 then (if q.2 = 0 then ((tinplatelaw05_within.f k p.1).bind fun t => if t = true then ((tinplatelaw05_within.f k q.1).bind fun u => tinplatelaw05_LineAlgebra.j1 k A C x a4 a5 p.1 q.1 u) else tinplatelaw05_LineAlgebra.j1 k A C x a4 a5 p.1 q.1 false) else tinplatelaw05_LineAlgebra.j1 k A C x a4 a5 p.1 q.1 false) else tinplatelaw05_LineAlgebra.j1 k A C x a4 a5 p.1 q.1 false) (fun k => ?_) ?_
  · simp only [tinplatelaw05_LineAlgebra.j0]
    rw [if_neg (by decide)]
  by_cases hAB : ∃ n, Arg n A ∧ Arg n B
  · obtain ⟨n, hA, hB⟩ := hAB
    have h6 := hA.six
    refine Ev.bind (Multiply_ok hA hB ra rb) ?_
    by_cases hBC : ∃ n, Arg n B ∧ Arg n C
    · obtain ⟨n', hB', hC⟩ := hBC
      obtain rfl : n' = n := by have e1 := hB.is.1; have e2 := hB'.is.1; omega
      refine Ev.bind (Multiply_ok hB hC rb rc) (Ev.congr (fun k => if_pos rfl) (Ev.congr (fun k => if_pos rfl) ?_))
      obtain ⟨wp, ep, hp⟩ := within_f (n := n') (A := mat n' (mulf n' (ent A) (ent B))) (by omega) (isMat_mat n' _)
      refine Ev.bind ep ?_
      cases wp with
      | false => exact Ev.congr (fun k => if_neg (by decide)) (fin _ _)
      | true =>
      refine Ev.congr (fun k => if_pos rfl) ?_
      obtain ⟨wq, eq, hq⟩ := within_f (n := n') (A := mat n' (mulf n' (ent B) (ent C))) (by omega) (isMat_mat n' _)
      refine Ev.bind eq ?_
      cases wq with
      | false => exact fin _ _
      | true =>
      have aP := arg_mat hA.one h6 (hp rfl)
      have aQ := arg_mat hA.one h6 (hq rfl)
      refine Ev.step (f := fun k => (line_Multiply.f k (mat n' (mulf n' (ent A) (ent B))) C).bind fun p => (line_Multiply.f k A (mat n' (mulf n' (ent B) (ent C)))).bind fun q => if p.2 = 0 then (if q.2 = 0 then ((tinplatelaw05_rows.f k p.1 q.1).bind fun t => if t = true then tinplatelaw05_LineAlgebra.j2 k A x a4 a5 else some false) else some false) else some false) (fun k => ?_) ?_
      · simp only [tinplatelaw05_LineAlgebra.j1]
        rw [if_pos (by decide)]
      refine Ev.bind (Multiply_ok aP hC (arg_rows aP) rc) (Ev.bind (Multiply_ok hA aQ ra (arg_rows aQ)) (Ev.congr (fun k => if_pos rfl) (Ev.congr (fun k => if_pos rfl) ?_)))
      have e : mat n' (mulf n' (ent (mat n' (mulf n' (ent A) (ent B)))) (ent C)) = mat n' (mulf n' (ent A) (ent (mat n' (mulf n' (ent B) (ent C))))) := by
        refine mat_congr fun i j hi hj => ?_
        rw [mul_congr (fun k hk => ent_mat _ hi hk) (fun _ _ => rfl), mul_congr (a := ent A) (b := ent (mat n' (mulf n' (ent B) (ent C)))) (fun _ _ => rfl) (fun k hk => ent_mat _ hk hj)]
        exact mul_assoc hA.bd hB.bd hC.bd (by omega) (by omega) (by omega) (by omega) hi hj
      show Ev (fun k => (tinplatelaw05_rows.f k (mat n' (mulf n' (ent (mat n' (mulf n' (ent A) (ent B)))) (ent C))) (mat n' (mulf n' (ent A) (ent (mat n' (mulf n' (ent B) (ent C))))))).bind _) true
      rw [e]
      exact Ev.bind (rows_f _ (by rw [mat_length]; omega) (rows_mat n' (by omega) _)) (Ev.congr (fun k => if_pos rfl) (j2 ra hx a4 a5 b4.1 b4.2 b5.1 b5.2))
    · exact Ev.bind (Multiply_no hBC rb rc) (Ev.congr (fun k => if_pos rfl) (Ev.congr (fun k => if_neg (by decide)) (fin _ _)))
  · refine Ev.bind (Multiply_no hAB ra rb) ?_
    by_cases hBC : ∃ n, Arg n B ∧ Arg n C
    · obtain ⟨n', hB', hC⟩ := hBC
      exact Ev.bind (Multiply_ok hB' hC rb rc) (Ev.congr (fun k => if_neg (by decide)) (fin _ _))
    · exact Ev.bind (Multiply_no hBC rb rc) (Ev.congr (fun k => if_neg (by decide)) (fin _ _))
end Go.Proofs.Ythjmfbmffchicaa.Pure
