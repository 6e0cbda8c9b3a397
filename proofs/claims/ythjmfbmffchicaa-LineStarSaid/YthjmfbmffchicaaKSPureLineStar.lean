/- The plain statement of the law LineStar: whatever the lists, the printed law's function comes to true. No condition but that the numbers are of their kinds. -/
import Derived.Test.YthjmfbmffchicaaKSf7
import Derived.Test.YthjmfbmffchicaaKSRefC
import Derived.Test.YthjmfbmffchicaaKSRefE
import Derived.Test.YthjmfbmffchicaaKSRefF
import Derived.Test.YthjmfbmffchicaaKSAlive
import Derived.OpenShut
namespace Go.Proofs.Ythjmfbmffchicaa.Mp
section
variable {n : Nat} {M : Int} {a : Nat → Nat → Int}
theorem star_bd (ha : BdM n n M a) (hM : 0 ≤ M) (h2 : M * (2 ^ n : Nat) < 100000000000000000) : BdM n n 100000000000000000 (fwk a n) := fun i j hi hj => (fwk_bd ha hM n (by omega) i j hi hj).mono (by omega)
theorem star_idem (ha : BdM n n M a) (hM : 0 ≤ M) (hs : M * (n : Nat) < 1152921504606846976) (hp : NoPos n a) (h2 : M * (2 ^ n : Nat) < 100000000000000000) (i j : Nat) (hi : i < n) (hj : j < n) : mulf n (fwk a n) (fwk a n) i j = fwk a n i j := by
  have B := star_bd ha hM h2
  have h0 := (B i j hi hj).ge (by omega)
  refine Int.le_antisymm (sup_le h0 fun k hk => fwk_tr ha hM hs hp h2 n (by omega) k hk i j hi hj) ?_
  have h1 : pl (fwk a n i i) (fwk a n i j) ≤ mulf n (fwk a n) (fwk a n) i j := le_sup (h := fun k => pl (fwk a n i k) (fwk a n k j)) hi
  rw [fwk_diag ha hM hs hp (by omega) hi] at h1
  have h2 : pl 0 (fwk a n i j) = fwk a n i j := by
    unfold pl
    rw [if_neg (by decide)]
    split <;> omega
  rw [h2] at h1
  exact h1
theorem arc_star (i j : Nat) : a i j ≤ fwk a n i j := Int.le_trans (by unfold fw0; omega) (fwk_mono a i j n)
theorem star_step (ha : BdM n n M a) (hM : 0 ≤ M) (hs : M * (n : Nat) < 1152921504606846976) (hp : NoPos n a) (h2 : M * (2 ^ n : Nat) < 100000000000000000) (hM2 : M < 100000000000000000) (i k j : Nat) (hi : i < n) (hk : k < n) (hj : j < n) : pl (a i k) (fwk a n k j) ≤ fwk a n i j := by
  have B := star_bd ha hM h2
  exact Int.le_trans (pl_mono ((ha i k hi hk).mono (Int.le_of_lt hM2)) (B i k hi hk) (B k j hk hj) (B k j hk hj) (by omega) (arc_star i k) (Int.le_refl _)) (fwk_tr ha hM hs hp h2 n (by omega) k hk i j hi hj)
theorem walk_star (ha : BdM n n M a) (hM : 0 ≤ M) (hs : M * (n : Nat) < 1152921504606846976) (hp : NoPos n a) (h2 : M * (2 ^ n : Nat) < 100000000000000000) (hM2 : M < 100000000000000000) {v : Nat → Nat} : ∀ L, Wk n a v L → fwk a n (v L) (v 0) ≠ NEV ∧ wt a v L ≤ fwk a n (v L) (v 0) := by
  intro L
  induction L with
  | zero =>
    intro h
    rw [fwk_diag ha hM hs hp (by omega) (h.lt 0 (by omega))]
    exact ⟨by decide, Int.le_refl _⟩
  | succ L ih =>
    intro h
    have i1 := ih (h.left (by omega))
    have hstep := star_step ha hM hs hp h2 hM2 (v (L + 1)) (v L) (v 0) (h.lt _ (by omega)) (h.lt _ (by omega)) (h.lt _ (by omega))
    have harc := h.arc L (by omega)
    have b1 := ha (v (L + 1)) (v L) (h.lt _ (by omega)) (h.lt _ (by omega))
    have b2 := star_bd ha hM h2 (v L) (v 0) (h.lt _ (by omega)) (h.lt _ (by omega))
    have b3 := star_bd ha hM h2 (v (L + 1)) (v 0) (h.lt _ (by omega)) (h.lt _ (by omega))
    rw [show pl (a (v (L + 1)) (v L)) (fwk a n (v L) (v 0)) = a (v (L + 1)) (v L) + fwk a n (v L) (v 0) by unfold pl; rw [if_neg harc, if_neg i1.1]] at hstep
    have n1 : (NEV : Int) = -1152921504606846976 := rfl
    have c1 := b1.resolve_left harc
    have c2 := b2.resolve_left i1.1
    refine ⟨fun e => ?_, ?_⟩
    · rw [e] at hstep; omega
    · show wt a v L + a (v (L + 1)) (v L) ≤ _
      have := i1.2
      omega
theorem star_last (ha : BdM n n M a) (hM : 0 ≤ M) (hs : M * (n : Nat) < 1152921504606846976) (hp : NoPos n a) (h2 : M * (2 ^ n : Nat) < 100000000000000000) (hM2 : M < 100000000000000000) (i j : Nat) (hi : i < n) (hj : j < n) (hij : i ≠ j) : mulf n a (fwk a n) i j = fwk a n i j := by
  have B := star_bd ha hM h2
  have h0 := (B i j hi hj).ge (by omega)
  refine Int.le_antisymm (sup_le h0 fun k hk => star_step ha hM hs hp h2 hM2 i k j hi hk hj) ?_
  rcases fwk_att (a := a) n (by omega) i j hi hj with e | ⟨L, v, hv, v0, vL, vw⟩
  · rw [e]; exact sup_nev _ _
  · cases L with
    | zero => exact absurd (vL.symm.trans v0) hij
    | succ L =>
      have hk := hv.lt L (by omega)
      have w := walk_star ha hM hs hp h2 hM2 L (hv.left (by omega))
      have harc := hv.arc L (by omega)
      have h1 : pl (a i (v L)) (fwk a n (v L) j) ≤ mulf n a (fwk a n) i j := le_sup (h := fun k => pl (a i k) (fwk a n k j)) hk
      rw [vL] at harc
      rw [v0] at w
      rw [show pl (a i (v L)) (fwk a n (v L) j) = a i (v L) + fwk a n (v L) j by unfold pl; rw [if_neg harc, if_neg w.1]] at h1
      have e : wt a v L + a i (v L) = fwk a n i j := by rw [← vw, ← vL]; rfl
      have := w.2
      omega
theorem star_same (ha : BdM n n M a) (hM : 0 ≤ M) (hs : M * (n : Nat) < 1152921504606846976) (hp : NoPos n a) (h2 : M * (2 ^ n : Nat) < 100000000000000000) (hM2 : M < 100000000000000000) (i : Nat) (hi : i < n) : max (mulf n a (fwk a n) i i) 0 = fwk a n i i := by
  have d := fwk_diag ha hM hs hp (k := n) (by omega) hi
  have : mulf n a (fwk a n) i i ≤ 0 := by
    rw [← d]
    exact sup_le (by rw [d]; decide) fun k hk => star_step ha hM hs hp h2 hM2 i k i hi hk hi
  omega
end
end Go.Proofs.Ythjmfbmffchicaa.Mp
namespace Go.Proofs.Ythjmfbmffchicaa.Pure
open Go.RowKit Go.Proofs.Ythjmfbmffchicaa.V Go.Proofs.YthjmfbmffchicaaW.PrintWords Go.Proofs.YthjmfbmffchicaaW.PrintLast
open Go.Proofs.Ythjmfbmffchicaa.Mp
theorem alive_star : Ev (fun k => (l5alive.f k).bind fun t => some t) true := Ev.bind alive_ev (Ev.now true)
section
variable {n : Nat} {A S P : List (List Int)}
theorem LineStar_l1 (hn : n ≤ 6) (hl : A.length = n) (hS : IsMat n S) (hP : IsMat n P) (h1 : ∀ i j, i < n → j < n → i ≠ j → ent S i j = ent P i j) (h2 : ∀ i, i < n → ent S i i = max (ent P i i) 0) (i : Nat) (hi : i < n)
    (hr : Ev (fun k => l5LineStar.l0 k A S P ((i + 1 : Nat) : Int)) true) : ∀ d j, j + d = n → Ev (fun k => l5LineStar.l1 k A S P (i : Int) (j : Int)) true := by
  intro d
  induction d with
  | zero =>
    intro j hj
    refine Ev.step (fun k => ?_) hr
    simp only [l5LineStar.l1]
    rw [if_neg (by omega), wr1 i (by omega)]
  | succ d ih =>
    intro j hj
    have e1 := hP.1
    have e2 := hP.2 i hi
    have e3 := hS.1
    have e4 := hS.2 i hi
    refine Ev.step (fun k => ?_) (ih (j + 1) (by omega))
    simp only [l5LineStar.l1]
    rw [if_pos (by omega), if_pos (by omega), if_pos (by omega), if_pos (by omega), rdL, rdL, rdI, rdI, if_pos (by omega), wr1 j (by omega)]
    by_cases e : i = j
    · subst e
      rw [if_pos rfl, if_pos (by omega), if_pos (by omega), mx_max]
      exact if_pos (h2 i hi)
    · rw [if_neg (by omega), if_pos (by omega), if_pos (by omega)]
      exact if_pos (h1 i j hi (by omega) e)
theorem LineStar_l0 (hn : n ≤ 6) (hl : A.length = n) (hS : IsMat n S) (hP : IsMat n P) (h1 : ∀ i j, i < n → j < n → i ≠ j → ent S i j = ent P i j) (h2 : ∀ i, i < n → ent S i i = max (ent P i i) 0) : ∀ d i, i + d = n →
    Ev (fun k => l5LineStar.l0 k A S P (i : Int)) true := by
  intro d
  induction d with
  | zero =>
    intro i hi
    refine Ev.step (fun k => ?_) alive_star
    simp only [l5LineStar.l0]
    rw [if_neg (by omega)]
  | succ d ih =>
    intro i hi
    refine Ev.step (fun k => ?_) (LineStar_l1 hn hl hS hP h1 h2 i (by omega) (ih (i + 1) (by omega)) n 0 (by omega))
    simp only [l5LineStar.l0]
    rw [if_pos (by omega)]
    rfl
end
theorem two_pow {n : Nat} (h : n ≤ 6) : ((2 ^ n : Nat) : Int) ≤ 64 := by
  have : 2 ^ n ≤ 2 ^ 6 := Nat.pow_le_pow_right (by omega) h
  omega
theorem star_j1 {n : Nat} {A : List (List Int)} (hA : Arg n A) (hp : NoPos n (ent A)) : Ev (fun k => l5LineStar.j1 k A (mat n (fwk (ent A) n)) 0 false) true := by
  have h6 := hA.six
  have t6 := two_pow h6
  have hs : (1000 : Int) * (n : Nat) < 1152921504606846976 := by omega
  have h2 : (1000 : Int) * (2 ^ n : Nat) < 100000000000000000 := by omega
  have B := star_bd hA.bd (by omega) h2
  have p1 := product_mat (n := n) (by omega) B B (by omega) (by omega) (by omega)
  rw [mat_congr fun i j hi hj => star_idem hA.bd (by omega) hs hp h2 i j hi hj] at p1
  have p2 := product_mat (n := n) (by omega) hA.bd B (by omega) (by omega) (by omega)
  rw [mat_ext hA.is] at p2
  have ml : (mat n (fwk (ent A) n)).length = n := mat_length _ _
  have tail : Ev (fun k => l5LineStar.j2 k A (mat n (fwk (ent A) n)) false) true := by
    refine Ev.step (f := fun k => (l5product.f k A (mat n (fwk (ent A) n))).bind fun t => l5LineStar.l0 k A (mat n (fwk (ent A) n)) t ((0 : Nat) : Int)) (fun k => ?_) (Ev.bind p2 (LineStar_l0 h6 hA.is.1 (isMat_mat n _) (isMat_mat n _) (fun i j hi hj e => ?_) (fun i hi => ?_) n 0 (by omega)))
    · simp only [l5LineStar.j2]
      rw [if_neg (by decide)]
      rfl
    · rw [ent_mat _ hi hj, ent_mat _ hi hj, star_last hA.bd (by omega) hs hp h2 (by omega) i j hi hj e]
    · rw [ent_mat _ hi hi, ent_mat _ hi hi, star_same hA.bd (by omega) hs hp h2 (by omega) i hi]
  refine Ev.step (f := fun k => (l5square.f k (mat n (fwk (ent A) n)) (n : Int)).bind fun t => if t = true then ((l5product.f k (mat n (fwk (ent A) n)) (mat n (fwk (ent A) n))).bind fun u => (l5rows.f k u (mat n (fwk (ent A) n))).bind fun v => l5LineStar.j2 k A (mat n (fwk (ent A) n)) (!v)) else l5LineStar.j2 k A (mat n (fwk (ent A) n)) true) (fun k => ?_)
    (Ev.bind (square_f (by omega) (isMat_mat n _)) (Ev.congr (fun k => if_pos rfl) (Ev.bind p1 (Ev.bind (rows_f _ (by omega) (rows_mat n (by omega) _)) tail))))
  simp only [l5LineStar.j1]
  rw [if_neg (by decide), if_pos trivial, hA.is.1]
theorem nopos_of {n : Nat} {a : Nat → Nat → Int} {num den : Int} {f : Bool} (h : Best n a (Seen n (n + 1) 0) num den f) (hf : f = true → num ≤ 0) : NoPos n a := by
  intro k i hk hkn hi
  have hs : Seen n (n + 1) 0 k i := ⟨hk, hi, .inl (by omega)⟩
  rcases h with ⟨_, h⟩ | ⟨e, h⟩
  · rw [h k i hs]; decide
  · by_cases hne : powf n a k i i = NEV
    · rw [hne]; decide
    · have h1 := h.top k i hs hne
      have h2 := Int.mul_le_mul_of_nonneg_right (hf e) (by omega : (0 : Int) ≤ (k : Nat))
      rw [Int.zero_mul] at h2
      refine Int.le_of_mul_le_mul_right (a := den) ?_ h.den0
      rw [Int.zero_mul]; omega
theorem LineStar : ∀ (l0 : List (List Int)), l0.length ≤ 9223372036854775807 → (∀ r ∈ l0, r.length ≤ maxLen ∧ ∀ x ∈ r, (Lit.int .i64 x).wf = true) → ∃ k, l5LineStar.f k l0 = some true := by
  intro A hA1 hA2
  have ra : Rows A := by
    intro i hi
    have e : A.getD i [] = A[i] := by simp [List.getD_eq_getElem?_getD, List.getElem?_eq_getElem hi]
    rw [e]
    have := (hA2 A[i] (List.getElem_mem hi)).1
    unfold maxLen at this
    omega
  apply Ev.rounds
  unfold l5LineStar.f
  obtain ⟨fa, ea, _⟩ := few_f A
  refine Ev.bind ea ?_
  cases fa with
  | false => exact Ev.congr (fun k => if_neg (by decide)) alive_star
  | true =>
  refine Ev.congr (fun k => if_pos rfl) ?_
  rcases of_f A ra with ⟨⟨n, hA⟩, eo⟩ | ⟨_, eo⟩
  · obtain ⟨⟨num, den, f⟩, ep, hb⟩ := pace_f hA
    have h6 := hA.six
    have t6 := two_pow h6
    have close : (f = true → num ≤ 0) → Ev (fun k => lgclosed.f k A) (mat n (fwk (ent A) n)) := fun hf =>
      closed_f (by omega) hA.is hA.bd (by omega) (by omega) (by omega) (nopos_of hb hf)
    cases f with
    | false =>
      have e1 : Ev (fun k => line_Star.f k A) (mat n (fwk (ent A) n), 0) := by
        unfold line_Star.f
        exact Ev.bind eo (Ev.congr (fun k => if_pos rfl) (Ev.bind ep (Ev.congr (fun k => if_neg (by simp)) (Ev.bind (close (fun h => by cases h)) (Ev.now _)))))
      have e2 : Ev (fun k => line_Speed.f k A) (0, 0, 10) := by
        unfold line_Speed.f
        exact Ev.bind eo (Ev.congr (fun k => if_pos rfl) (Ev.bind ep (ev_some fun k => if_neg (by simp))))
      refine Ev.bind e1 (Ev.bind e2 (Ev.congr (fun k => if_neg (show ¬ (0 : Int) = 2 by decide)) (Ev.step (fun k => ?_) (star_j1 hA (nopos_of hb (fun h => by cases h))))))
      simp only [l5LineStar.j0]
      rw [if_neg (by decide), if_neg (by decide)]
      rfl
    | true =>
      have e2 : Ev (fun k => line_Speed.f k A) (num, den, 0) := by
        unfold line_Speed.f
        exact Ev.bind eo (Ev.congr (fun k => if_pos rfl) (Ev.bind ep (ev_some fun k => if_pos rfl)))
      by_cases hn : num > 0
      · have e1 : Ev (fun k => line_Star.f k A) ([], 11) := by
          unfold line_Star.f
          exact Ev.bind eo (Ev.congr (fun k => if_pos rfl) (Ev.bind ep (Ev.congr (fun k => if_pos rfl) (ev_some fun k => if_pos hn))))
        have tail : Ev (fun k => l5LineStar.j1 k A [] 11 false) true := by
          refine Ev.step (fun k => ?_) alive_star
          simp only [l5LineStar.j1]
          rw [if_neg (by decide), if_neg (by decide), if_pos trivial, if_pos (by simp)]
        refine Ev.bind e1 (Ev.bind e2 (Ev.congr (fun k => if_neg (by decide)) (Ev.step (fun k => ?_) tail)))
        simp only [l5LineStar.j0]
        rw [if_neg (by decide), if_pos trivial, decide_eq_true hn]
        rfl
      · have e1 : Ev (fun k => line_Star.f k A) (mat n (fwk (ent A) n), 0) := by
          unfold line_Star.f
          exact Ev.bind eo (Ev.congr (fun k => if_pos rfl) (Ev.bind ep (Ev.congr (fun k => if_pos rfl) (Ev.congr (fun k => if_neg hn) (Ev.bind (close fun _ => by omega) (Ev.now _))))))
        refine Ev.bind e1 (Ev.bind e2 (Ev.congr (fun k => if_neg (show ¬ (0 : Int) = 2 by decide)) (Ev.step (fun k => ?_) (star_j1 hA (nopos_of hb fun _ => by omega)))))
        simp only [l5LineStar.j0]
        rw [if_neg (by decide), if_pos trivial, decide_eq_false hn]
        rfl
  · have e1 : Ev (fun k => line_Star.f k A) ([], 2) := by
      unfold line_Star.f
      exact Ev.bind eo (ev_some fun k => if_neg (by decide))
    have e2 : Ev (fun k => line_Speed.f k A) (0, 0, 2) := by
      unfold line_Speed.f
      exact Ev.bind eo (ev_some fun k => if_neg (by decide))
    refine Ev.bind e1 (Ev.bind e2 (Ev.congr (fun k => if_pos rfl) (Ev.step (fun k => ?_) alive_star)))
    simp only [l5LineStar.j0]
    rw [if_pos trivial, if_pos trivial]
end Go.Proofs.Ythjmfbmffchicaa.Pure
