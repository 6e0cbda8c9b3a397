/- Plain laws of the greatest sums of all walks, if no closed walk's sum is above 0: product with itself, with the matrix, and sums of walks. Each lemma's bounds stand in it. -/
import Derived.Test.YthjmfbmffchicaaKRWalk
namespace Go.Proofs.Ythjmfbmffchicaa.Mp
section
variable {n : Nat} {M : Int} {a : Nat → Nat → Int}
theorem star_bd (ha : BdM n n M a) (hM : 0 ≤ M) (h2 : M * (2 ^ n : Nat) < 100000000000000000) : BdM n n 100000000000000000 (fwk a n) := fun i j hi hj => (fwk_bd ha hM n (by omega) i j hi hj).mono (by omega)
theorem arc_star (i j : Nat) : a i j ≤ fwk a n i j := Int.le_trans (by unfold fw0; omega) (fwk_mono a i j n)
theorem star_step (ha : BdM n n M a) (hM : 0 ≤ M) (hs : M * (n : Nat) < 1152921504606846976) (hp : NoPos n a) (h2 : M * (2 ^ n : Nat) < 100000000000000000) (hM2 : M < 100000000000000000) (i k j : Nat) (hi : i < n) (hk : k < n) (hj : j < n) : pl (a i k) (fwk a n k j) ≤ fwk a n i j := by
  have B := star_bd ha hM h2
  exact Int.le_trans (pl_mono ((ha i k hi hk).mono (Int.le_of_lt hM2)) (B i k hi hk) (B k j hk hj) (B k j hk hj) (by omega) (arc_star i k) (Int.le_refl _)) (fwk_tr ha hM hs hp h2 n (by omega) k hk i j hi hj)
theorem walk_star (ha : BdM n n M a) (hM : 0 ≤ M) (hs : M * (n : Nat) < 1152921504606846976) (hp : NoPos n a) (h2 : M * (2 ^ n : Nat) < 100000000000000000) (hM2 : M < 100000000000000000) {v : Nat → Nat} : ∀ L, Wk n a v L → fwk a n (v L) (v 0) ≠ NEV ∧ wt a v L ≤ fwk a n (v L) (v 0) := by
  intro L
  induction L with
  | zero =>
    intro h
    rw [fwk_diag ha hM hs hp (by omega) (h.lt 0 (by omega))]
    exact ⟨by decide, Int.le_refl _⟩
  | succ L ih =>
    intro h
    have i1 := ih (h.left (by omega))
    have hstep := star_step ha hM hs hp h2 hM2 (v (L + 1)) (v L) (v 0) (h.lt _ (by omega)) (h.lt _ (by omega)) (h.lt _ (by omega))
    have harc := h.arc L (by omega)
    have b1 := ha (v (L + 1)) (v L) (h.lt _ (by omega)) (h.lt _ (by omega))
    have b2 := star_bd ha hM h2 (v L) (v 0) (h.lt _ (by omega)) (h.lt _ (by omega))
    have b3 := star_bd ha hM h2 (v (L + 1)) (v 0) (h.lt _ (by omega)) (h.lt _ (by omega))
    rw [show pl (a (v (L + 1)) (v L)) (fwk a n (v L) (v 0)) = a (v (L + 1)) (v L) + fwk a n (v L) (v 0) by unfold pl; rw [if_neg harc, if_neg i1.1]] at hstep
    have n1 : (NEV : Int) = -1152921504606846976 := rfl
    have c1 := b1.resolve_left harc
    have c2 := b2.resolve_left i1.1
    refine ⟨fun e => ?_, ?_⟩
    · rw [e] at hstep; omega
    · show wt a v L + a (v (L + 1)) (v L) ≤ _
      have := i1.2
      omega
end
end Go.Proofs.Ythjmfbmffchicaa.Mp
