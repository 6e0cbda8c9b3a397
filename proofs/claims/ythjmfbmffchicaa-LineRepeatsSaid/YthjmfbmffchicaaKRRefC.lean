/- What the statements' own helpers compute (few, same, rows, within, square, product), in the words of the plain algebra. Each lemma's bounds stand in it. -/
import Derived.Test.YthjmfbmffchicaaKRRefB
import Derived.Test.YthjmfbmffchicaaKRf7
import Derived.Test.YthjmfbmffchicaaKRf5
namespace Go.Proofs.Ythjmfbmffchicaa.Pure
open Go.RowKit Go.Proofs.Ythjmfbmffchicaa.V Go.Proofs.YthjmfbmffchicaaW.PrintWords Go.Proofs.YthjmfbmffchicaaW.PrintLast Go.Proofs.YthjmfbmffchicaaW.PrintMore
open Go.Proofs.Ythjmfbmffchicaa.Mp
theorem few_l0 (A : List (List Int)) : ∀ d i : Nat, i + d = 20 → ∃ b, Ev (fun k => l5few.l0 k A (i : Int)) b ∧ (b = true → A.length ≤ 20 ∧ ∀ j, i ≤ j → j < A.length → (A.getD j []).length ≤ 20) := by
  intro d
  induction d with
  | zero =>
    intro i hi
    by_cases h : i < A.length
    · refine ⟨false, ev_now (fun k => ?_), fun h => by cases h⟩
      simp only [l5few.l0]
      rw [if_pos (by omega), if_pos (by omega)]
    · refine ⟨true, ev_now (fun k => ?_), fun _ => ⟨by omega, fun j h1 h2 => by omega⟩⟩
      simp only [l5few.l0]
      rw [if_neg (by omega)]
  | succ d ih =>
    intro i hi
    by_cases h : i < A.length
    · by_cases hr : (A.getD i []).length ≤ 20
      · obtain ⟨b, hb, hbt⟩ := ih (i + 1) (by omega)
        refine ⟨b, Ev.step (f := fun k => l5few.l0 k A ((i + 1 : Nat) : Int)) (fun k => ?_) hb, fun e => ⟨(hbt e).1, fun j h1 h2 => ?_⟩⟩
        · simp only [l5few.l0]
          rw [if_pos (by omega), if_neg (by omega), if_pos (by omega), rdL, if_neg (by omega), wr1 i (by omega)]
        · by_cases e2 : j = i
          · subst e2; exact hr
          · exact (hbt e).2 j (by omega) h2
      · refine ⟨false, ev_now (fun k => ?_), fun h => by cases h⟩
        simp only [l5few.l0]
        rw [if_pos (by omega), if_neg (by omega), if_pos (by omega), rdL, if_pos (by omega)]
    · refine ⟨true, ev_now (fun k => ?_), fun _ => ⟨by omega, fun j h1 h2 => by omega⟩⟩
      simp only [l5few.l0]
      rw [if_neg (by omega)]
theorem few_f (A : List (List Int)) : ∃ b, Ev (fun k => l5few.f k A) b ∧ (b = true → A.length ≤ 20 ∧ ∀ j, j < A.length → (A.getD j []).length ≤ 20) := by
  obtain ⟨b, hb, h⟩ := few_l0 A 20 0 (by omega)
  exact ⟨b, hb, fun e => ⟨(h e).1, fun j hj => (h e).2 j (by omega) hj⟩⟩
section
variable {n : Nat} {A : List (List Int)}
theorem square_l0 (hn : n ≤ 1000) (hA : IsMat n A) : ∀ d i, i + d = n → Ev (fun k => l5square.l0 k A (n : Int) (i : Int)) true := by
  intro d
  induction d with
  | zero =>
    intro i hi
    refine ev_now (fun k => ?_)
    simp only [l5square.l0]
    rw [hA.1, if_neg (by omega)]
    simp
  | succ d ih =>
    intro i hi
    refine Ev.step (f := fun k => l5square.l0 k A (n : Int) ((i + 1 : Nat) : Int)) (fun k => ?_) (ih (i + 1) (by omega))
    simp only [l5square.l0]
    rw [hA.1, if_pos (by omega), if_pos (by omega), rdL, hA.2 i (by omega), if_pos rfl, wr1 i (by omega)]
theorem square_f (hn : n ≤ 1000) (hA : IsMat n A) : Ev (fun k => l5square.f k A (n : Int)) true := square_l0 hn hA n 0 (by omega)
end
theorem plus_f {M N a b : Int} (ha : Bd M a) (hb : Bd N b) (h : M + N < 1152921504606846976) (hM : 0 ≤ M) (hN : 0 ≤ N) : l5plus.f a b = some (pl a b) := by
  unfold l5plus.f pl NEV
  split
  · rfl
  · split
    · rfl
    · unfold Bd NEV at ha hb
      rw [wr (by omega) (by omega)]
section
variable {n : Nat} {M N : Int} {A B : List (List Int)}
end
end Go.Proofs.Ythjmfbmffchicaa.Pure
