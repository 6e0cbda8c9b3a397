/- The line's Eigen as a whole: an error, or a column of the slack's closure at a critical vertex, less its least entry. Bounds stand in each theorem. -/
import Derived.Test.YthjmfbmffchicaaKRRefJ
namespace Go.Proofs.Ythjmfbmffchicaa.Pure
open Go.RowKit Go.Proofs.Ythjmfbmffchicaa.V Go.Proofs.YthjmfbmffchicaaW.PrintWords Go.Proofs.YthjmfbmffchicaaW.PrintLast Go.Proofs.YthjmfbmffchicaaW.PrintMore
open Go.Proofs.Ythjmfbmffchicaa.Mp
theorem pow6 {n : Nat} (h : n ≤ 6) : ((2 ^ n : Nat) : Int) ≤ 64 := by
  have : 2 ^ n ≤ 2 ^ 6 := Nat.pow_le_pow_right (by omega) h
  omega
theorem crit_ex {n : Nat} {a : Nat → Nat → Int} {num den : Int} (hn : n ≤ 6) (ha : BdM n n 1000 a) (ht : Top n a (Seen n (n + 1) 0) num den) :
    ∃ i j, i < n ∧ j < n ∧ crit (slackf num den a) (fwk (slackf num den a) n) i j = true := by
  have t6 := pow6 hn
  have hs := slack_bd ha ht
  have hp := slack_nopos hn ha ht
  obtain ⟨k, i, hS, hne, he⟩ := ht.att
  have hi := hS.2.1
  have hk := hS.1
  obtain ⟨v, hv, v0, vL, vw⟩ := pow_att k i i hi hi hne
  have hw : wt (slackf num den a) v k = 0 := by
    rw [slack_wt hv, vw, Int.mul_comm den]
    omega
  have hv' := slack_wk' ha ht hv
  obtain ⟨q, rfl⟩ : ∃ q, k = q + 1 := ⟨k - 1, by omega⟩
  have hj := hv.lt q (by omega)
  have w := walk_star hs (by omega) (by omega) hp (by omega) (by omega) q (hv'.left (by omega))
  have harc := hv'.arc q (by omega)
  have hst := star_step hs (by omega) (by omega) hp (by omega) (by omega) i (v q) i hi hj hi
  rw [fwk_diag hs (by omega) (by omega) hp (by omega) hi] at hst
  rw [vL] at harc
  rw [v0] at w
  have hsum : wt (slackf num den a) v q + slackf num den a i (v q) = 0 := by rw [← hw, ← vL]; rfl
  have hpl : pl (slackf num den a i (v q)) (fwk (slackf num den a) n (v q) i) = slackf num den a i (v q) + fwk (slackf num den a) n (v q) i := by
    unfold pl; rw [if_neg harc, if_neg w.1]
  refine ⟨i, v q, hi, hj, ?_⟩
  unfold crit
  rw [hpl] at hst ⊢
  have := w.2
  rw [beq_iff_eq]
  omega
theorem critL_head {n : Nat} {s d : Nat → Nat → Int} (h : ∃ i j, i < n ∧ j < n ∧ crit s d i j = true) : ∃ c : Nat, c < n ∧ (∃ j, j < n ∧ crit s d c j = true) ∧ 0 < (critL n s d n).length ∧ rd (critL n s d n) 0 = (c : Int) := by
  have hmem : ∀ x, x ∈ (List.range n).filter (critV n s d) → x < n ∧ ∃ j, j < n ∧ crit s d x j = true := by
    intro x hx
    rw [List.mem_filter] at hx
    obtain ⟨h1, h2⟩ := hx
    unfold critV at h2
    rw [List.any_eq_true] at h2
    obtain ⟨j, h3, h4⟩ := h2
    exact ⟨List.mem_range.1 h1, j, List.mem_range.1 h3, h4⟩
  obtain ⟨i, j, hi, hj, hc⟩ := h
  have hin : i ∈ (List.range n).filter (critV n s d) := by
    rw [List.mem_filter]
    refine ⟨List.mem_range.2 hi, ?_⟩
    unfold critV
    rw [List.any_eq_true]
    exact ⟨j, List.mem_range.2 hj, hc⟩
  unfold critL
  cases hl : (List.range n).filter (critV n s d) with
  | nil => rw [hl] at hin; cases hin
  | cons x xs =>
    have := hmem x (by rw [hl]; exact List.mem_cons_self)
    exact ⟨x, this.1, this.2, by simp, rfl⟩
end Go.Proofs.Ythjmfbmffchicaa.Pure
