/- Whether every vertex can be reached from every other one, as the line's functions find it. Bounds stand in each theorem. -/
import Derived.Test.YthjmfbmffchicaaKRf3
import Derived.Test.YthjmfbmffchicaaKRRefG
import Derived.Test.YthjmfbmffchicaaKRStar
namespace Go.Proofs.Ythjmfbmffchicaa.Pure
open Go.RowKit Go.Proofs.Ythjmfbmffchicaa.V Go.Proofs.YthjmfbmffchicaaW.PrintWords Go.Proofs.YthjmfbmffchicaaW.PrintLast Go.Proofs.YthjmfbmffchicaaW.PrintMore
open Go.Proofs.Ythjmfbmffchicaa.Mp
theorem Contains_f (l : List Int) (hl : l.length ≤ 1000) (x : Int) : ∃ b, Ev (fun k => slices_Contains_int_int.f k l x) b ∧ (b = true ↔ ∃ j, j < l.length ∧ l.getD j 0 = x) := by
  obtain ⟨v, hv, hi⟩ := index_ev (fun k a b c => slices_Index_int_int.l0 k a x b c) (fun y => some (decide (x = y))) (fun y => decide (x = y)) (fun _ => rfl) (fun k x0 x7 x8 => by
    simp only [slices_Index_int_int.l0, Option.bind_some, decide_eq_true_eq]) l (by omega) l.length 0 (by omega)
  refine ⟨decide (v ≥ 0), Ev.bind hv (Ev.now _), ?_⟩
  rw [decide_eq_true_eq, ge_iff_le, hi]
  constructor
  · rintro ⟨j, _, h2, h3⟩; exact ⟨j, h2, (of_decide_eq_true h3).symm⟩
  · rintro ⟨j, h2, h3⟩; exact ⟨j, by omega, h2, decide_eq_true h3.symm⟩
theorem connIndex_l0 (A : List (List Int)) (n : Nat) (hn : n ≤ 1000) (hA : IsMat n A) : ∀ d i, i + d = n →
    ∃ v : Int, Ev (fun k => sifconnected_1.l0 k A (n : Int) (i : Int)) v ∧ (0 ≤ v ↔ ∃ p q, i ≤ p ∧ p < n ∧ q < n ∧ ent A p q = NEV) := by
  have hl := hA.1
  intro d
  induction d with
  | zero =>
    intro i hi
    refine ⟨-1, ev_now fun k => ?_, ⟨fun h => by omega, fun ⟨p, q, h1, h2, _⟩ => by omega⟩⟩
    simp only [sifconnected_1.l0]
    rw [if_neg (by omega)]
  | succ d ih =>
    intro i hi
    have hr := hA.2 i (by omega)
    obtain ⟨b, hb, hbi⟩ := Contains_f (A.getD i []) (by omega) (-1152921504606846976)
    have e : Ev (fun k => lgconnected_1.f k (A.getD i [])) b := by
      unfold lgconnected_1.f line_never_int.f
      simp only [Option.bind_some]
      exact Ev.bind hb (Ev.now _)
    have step : ∀ k, sifconnected_1.l0 (k + 1) A (n : Int) (i : Int) = (lgconnected_1.f k (A.getD i [])).bind fun t => if t = true then some (i : Int) else sifconnected_1.l0 k A (n : Int) ((i + 1 : Nat) : Int) := fun k => by
      simp only [sifconnected_1.l0]
      rw [if_pos (by omega), if_pos (by omega), if_pos (by omega), rdL, wr1 i (by omega)]
    by_cases h : b = true
    · obtain ⟨q, h1, h2⟩ := hbi.1 h
      exact ⟨i, Ev.step step (Ev.bind e (ev_some fun k => if_pos h)), ⟨fun _ => ⟨i, q, by omega, by omega, by omega, h2⟩, fun _ => by omega⟩⟩
    · obtain ⟨v, hv, hvi⟩ := ih (i + 1) (by omega)
      refine ⟨v, Ev.step step (Ev.bind e (Ev.congr (fun k => if_neg h) hv)), ?_⟩
      rw [hvi]
      constructor
      · rintro ⟨p, q, h1, h2⟩; exact ⟨p, q, by omega, h2⟩
      · rintro ⟨p, q, h1, h2, h3, h4⟩
        refine ⟨p, q, ?_, h2, h3, h4⟩
        by_cases e2 : p = i
        · subst e2; exact absurd (hbi.2 ⟨q, by omega, h4⟩) h
        · omega
def zerof (a : Nat → Nat → Int) : Nat → Nat → Int := mapf (fun _ => 0) a
theorem zero_bd (n : Nat) (a : Nat → Nat → Int) : BdM n n 0 (zerof a) := fun i j _ _ => by
  unfold zerof mapf
  split
  · exact .inl rfl
  · exact .inr ⟨(by decide : -(0 : Int) ≤ 0), (by decide : (0 : Int) ≤ 0)⟩
theorem zero_wt {n : Nat} {a : Nat → Nat → Int} {v : Nat → Nat} {L : Nat} (h : Wk n (zerof a) v L) : wt (zerof a) v L = 0 := by
  have := wt_bd (zero_bd n a) h
  omega
theorem zero_nopos (n : Nat) (a : Nat → Nat → Int) : NoPos n (zerof a) := by
  intro k i _ _ hi
  by_cases e : powf n (zerof a) k i i = NEV
  · rw [e]; decide
  · obtain ⟨v, hv, _, _, vw⟩ := pow_att k i i hi hi e
    rw [← vw, zero_wt hv]; decide
theorem connected_f {n : Nat} {A : List (List Int)} (hA : Arg n A) : ∃ b, Ev (fun k => lgconnected.f k A) b ∧ (b = true ↔ ∀ i j, i < n → j < n → fwk (zerof (ent A)) n i j ≠ NEV) := by
  have h6 := hA.six
  have e1 : Ev (fun k => lgmapped_reach_1.f k A 0) (mat n (zerof (ent A))) := mapped_f (g := fun _ => 0) (by omega) hA.is fun _ _ _ _ _ => rfl
  have e2 := closed_mat (n := n) (M := 0) (by omega) (zero_bd n (ent A)) (by omega) (by omega) (by omega) (zero_nopos n (ent A))
  obtain ⟨v, hv, hi⟩ := connIndex_l0 (mat n (fwk (zerof (ent A)) n)) n (by omega) (isMat_mat n _) n 0 (by omega)
  refine ⟨!(decide (v ≥ 0)), ?_, ?_⟩
  · unfold lgconnected.f lgreach.f
    refine Ev.bind (Ev.bind e1 (Ev.bind e2 (Ev.now _))) (Ev.bind (Ev.bind (f := fun _ t => some (decide (t ≥ 0))) ?_ (Ev.now _)) (Ev.now _))
    unfold sifconnected_1.f
    rw [mat_length]
    exact hv
  · rw [Bool.not_eq_true', decide_eq_false_iff_not]
    constructor
    · intro h i j hi' hj' e
      exact h (hi.2 ⟨i, j, by omega, hi', hj', by rw [ent_mat _ hi' hj']; exact e⟩)
    · intro h hv'
      obtain ⟨p, q, _, h2, h3, h4⟩ := hi.1 hv'
      rw [ent_mat _ h2 h3] at h4
      exact h p q h2 h3 h4
end Go.Proofs.Ythjmfbmffchicaa.Pure
