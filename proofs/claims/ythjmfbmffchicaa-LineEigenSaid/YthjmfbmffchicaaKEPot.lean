/- Plain laws of a vector that solves the equation of the slack: sums of walks are held by its differences. Each lemma's bounds stand in it. -/
import Derived.Test.YthjmfbmffchicaaKEStar
namespace Go.Proofs.Ythjmfbmffchicaa.Mp
structure Eig (n : Nat) (s : Nat → Nat → Int) (v : Nat → Int) : Prop where
  le : ∀ i k, i < n → k < n → s i k ≠ NEV → s i k + v k ≤ v i
  at_ : ∀ i, i < n → ∃ k, k < n ∧ s i k ≠ NEV ∧ s i k + v k = v i
theorem Eig.walk_le {n : Nat} {s : Nat → Nat → Int} {v : Nat → Int} (h : Eig n s v) {u : Nat → Nat} : ∀ {L : Nat}, Wk n s u L → wt s u L + v (u 0) ≤ v (u L) := by
  intro L
  induction L with
  | zero => intro _; show 0 + v (u 0) ≤ v (u 0); omega
  | succ L ih =>
    intro hw
    have h1 := ih (hw.left (by omega))
    have h2 := h.le (u (L + 1)) (u L) (hw.lt _ (by omega)) (hw.lt _ (by omega)) (hw.arc L (by omega))
    show wt s u L + s (u (L + 1)) (u L) + v (u 0) ≤ v (u (L + 1))
    omega
theorem Eig.walk_at {n : Nat} {s : Nat → Nat → Int} {v : Nat → Int} (h : Eig n s v) : ∀ (L i : Nat), i < n → ∃ u, Wk n s u L ∧ u L = i ∧ wt s u L + v (u 0) = v i := by
  intro L
  induction L with
  | zero =>
    intro i hi
    exact ⟨fun _ => i, ⟨fun _ _ => hi, fun t ht => by omega⟩, rfl, by show 0 + v i = v i; omega⟩
  | succ L ih =>
    intro i hi
    obtain ⟨k, hk, hne, he⟩ := h.at_ i hi
    obtain ⟨u, hu, uL, uw⟩ := ih k hk
    refine ⟨fun t => if t ≤ L then u t else i, ⟨fun t ht => ?_, fun t ht => ?_⟩, if_neg (by omega), ?_⟩
    · by_cases e : t ≤ L
      · simp only [e, if_true]; exact hu.lt t e
      · simp only [e, if_false]; exact hi
    · by_cases e : t + 1 ≤ L
      · simp only [e, if_true]; rw [if_pos (by omega)]; exact hu.arc t (by omega)
      · obtain rfl : t = L := by omega
        simp only [e, if_false]; rw [if_pos (by omega), uL]; exact hne
    · have e1 : wt s (fun t => if t ≤ L then u t else i) L = wt s u L := wt_congr fun t ht => if_pos ht
      show wt s (fun t => if t ≤ L then u t else i) L + s (if L + 1 ≤ L then u (L + 1) else i) (if L ≤ L then u L else i) + v (if 0 ≤ L then u 0 else i) = v i
      rw [e1, if_neg (by omega), if_pos (by omega), if_pos (by omega), uL]
      omega
section
variable {n : Nat} {M : Int} {a : Nat → Nat → Int}
theorem eig_col (ha : BdM n n M a) (hM : 0 ≤ M) (hs : M * (n : Nat) < 1152921504606846976) (hp : NoPos n a) (h2 : M * (2 ^ n : Nat) < 100000000000000000) (hM2 : M < 100000000000000000) {c : Nat} (hc : c < n) (hcr : ∃ j, j < n ∧ pl (a c j) (fwk a n j c) = 0)
    (hf : ∀ i, i < n → fwk a n i c ≠ NEV) (m : Int) : Eig n a (fun i => fwk a n i c - m) := by
  have B := star_bd ha hM h2
  constructor
  · intro i k hi hk hne
    have h1 := star_step ha hM hs hp h2 hM2 i k c hi hk hc
    unfold pl at h1
    rw [if_neg hne, if_neg (hf k hk)] at h1
    show a i k + (fwk a n k c - m) ≤ fwk a n i c - m
    omega
  · intro i hi
    have out : ∀ k, k < n → pl (a i k) (fwk a n k c) = fwk a n i c → ∃ k, k < n ∧ a i k ≠ NEV ∧ a i k + (fwk a n k c - m) = fwk a n i c - m := by
      intro k hk e
      have h1 : a i k ≠ NEV := fun e1 => hf i hi (by rw [← e, e1, pl_nev_left])
      unfold pl at e
      rw [if_neg h1, if_neg (hf k hk)] at e
      exact ⟨k, hk, h1, by omega⟩
    by_cases e : i = c
    · subst e
      obtain ⟨j, hj, he⟩ := hcr
      exact out j hj (by rw [he, fwk_diag ha hM hs hp (by omega) hi])
    · rcases sup_mem (fun k => pl (a i k) (fwk a n k c)) n with h | ⟨k, hk, h⟩
      · exact absurd ((star_last ha hM hs hp h2 hM2 i c hi hc e).symm.trans h) (hf i hi)
      · exact out k hk (h.symm.trans (star_last ha hM hs hp h2 hM2 i c hi hc e))
end
end Go.Proofs.Ythjmfbmffchicaa.Mp
