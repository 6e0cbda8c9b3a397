/- Walks of the shop's functions, twenty-fourth text: the search for the best schedule goes on. -/
import Derived.Test.YtipkhaicjjeieaaKSShW
namespace Go.Proofs.Ytipkhaicjjeieaa.V
set_option linter.unusedSimpArgs false
set_option linter.unusedVariables false
open Go.RowKit Go.Proofs.YtipkhaicjjeieaaW.PrintWords Go.Proofs.YtipkhaicjjeieaaW.PrintLast Go.Proofs.YtipkhaicjjeieaaW.PrintMore
theorem set_self (l : List Int) (j : Nat) (x : Int) : (l.set j x).set j ((l.set j x).getD j 0 - 1) = l.set j (x - 1) := by
  rw [List.set_set, getD_set]
  by_cases h : j < l.length
  · rw [if_pos ⟨rfl, h⟩]
  · rw [List.set_eq_of_length_le (by omega), List.set_eq_of_length_le (by omega)]
theorem set_getD (l : List Int) (j : Nat) : l.set j (l.getD j 0) = l := by
  by_cases h : j < l.length
  · rw [List.getD_eq_getElem?_getD, List.getElem?_eq_getElem h, Option.getD_some, List.set_getElem_self]
  · rw [List.set_eq_of_length_le (by omega)]
theorem leafF_same (en : Int) (S : Sst) : (leafF en S).nx = S.nx ∧ (leafF en S).je = S.je ∧ (leafF en S).fre = S.fre ∧ (leafF en S).st = S.st := by
  unfold leafF
  split
  · exact ⟨rfl, rfl, rfl, rfl⟩
  · split <;> exact ⟨rfl, rfl, rfl, rfl⟩
theorem goF_same (J : List (List S40)) (T : List S89) : ∀ (f : Nat) (en : Int) (S : Sst), (goF J T f en S).nx = S.nx ∧ (goF J T f en S).je = S.je ∧ (goF J T f en S).fre = S.fre ∧ (goF J T f en S).st.length = S.st.length
  | 0, en, S => by
    obtain ⟨h1, h2, h3, h4⟩ := leafF_same en S
    exact ⟨h1, h2, h3, by rw [goF, h4]⟩
  | f + 1, en, S => by
    have step : ∀ j S, (stepG J T (goF J T f) en j S).nx = S.nx ∧ (stepG J T (goF J T f) en j S).je = S.je ∧ (stepG J T (goF J T f) en j S).fre = S.fre ∧ (stepG J T (goF J T f) en j S).st.length = S.st.length := by
      intro j S
      unfold stepG
      split
      · exact ⟨rfl, rfl, rfl, rfl⟩
      · simp only
        split
        · exact ⟨rfl, rfl, rfl, rfl⟩
        · generalize (T.getD ((firstsN J J.length).getD j 0 + S.nx.getD j 0).toNat z89) = x
          generalize mx (S.je.getD j 0) (S.fre.getD x.f0.f0.toNat 0) = a
          obtain ⟨h1, h2, h3, h4⟩ := goF_same J T f (mx en (wrap64 (a + x.f0.f1))) (putF x j a S)
          refine ⟨?_, ?_, rfl, ?_⟩
          · show ((goF J T f (mx en (wrap64 (a + x.f0.f1))) (putF x j a S)).nx.set j ((goF J T f (mx en (wrap64 (a + x.f0.f1))) (putF x j a S)).nx.getD j 0 - 1)) = S.nx
            rw [h1]
            show ((S.nx.set j (S.nx.getD j 0 + 1)).set j ((S.nx.set j (S.nx.getD j 0 + 1)).getD j 0 - 1)) = S.nx
            rw [set_self, Int.add_sub_cancel, set_getD]
          · show ((goF J T f (mx en (wrap64 (a + x.f0.f1))) (putF x j a S)).je.set j (S.je.getD j 0)) = S.je
            rw [h2]
            show ((S.je.set j _).set j (S.je.getD j 0)) = S.je
            rw [List.set_set, set_getD]
          · show (goF J T f (mx en (wrap64 (a + x.f0.f1))) (putF x j a S)).st.length = S.st.length
            rw [h4]
            show (S.st.set _ _).length = _
            rw [List.length_set]
    have loop : ∀ k, (loopG J T (goF J T f) en S k).nx = S.nx ∧ (loopG J T (goF J T f) en S k).je = S.je ∧ (loopG J T (goF J T f) en S k).fre = S.fre ∧ (loopG J T (goF J T f) en S k).st.length = S.st.length := by
      intro k
      induction k with
      | zero => exact ⟨rfl, rfl, rfl, rfl⟩
      | succ k ih =>
        obtain ⟨h1, h2, h3, h4⟩ := step k (loopG J T (goF J T f) en S k)
        exact ⟨by rw [loopG, h1, ih.1], by rw [loopG, h2, ih.2.1], by rw [loopG, h3, ih.2.2.1], by rw [loopG, h4, ih.2.2.2]⟩
    exact loop J.length
theorem goF_best (J : List (List S40)) (T : List S89) (n : Nat) (hn : 0 < n) : ∀ (f : Nat) (en : Int) (S : Sst), S.st.length = n → (∀ b, S.best = some b → b.length = n) → ∀ b, (goF J T f en S).best = some b → b.length = n
  | 0, en, S, hs, hb, b, h => by
    rw [goF, leafF] at h
    split at h
    · cases h
      exact hs
    · split at h
      · cases h
        exact hs
      · exact hb b h
  | f + 1, en, S, hs, hb, b, h => by
    have step : ∀ j S, S.st.length = n → (∀ b, S.best = some b → b.length = n) → (stepG J T (goF J T f) en j S).st.length = n ∧ ∀ b, (stepG J T (goF J T f) en j S).best = some b → b.length = n := by
      intro j S hs hb
      unfold stepG
      split
      · exact ⟨hs, hb⟩
      · simp only
        split
        · exact ⟨hs, hb⟩
        · generalize (T.getD ((firstsN J J.length).getD j 0 + S.nx.getD j 0).toNat z89) = x
          generalize mx (S.je.getD j 0) (S.fre.getD x.f0.f0.toNat 0) = a
          have hp : (putF x j a S).st.length = n := by
            show (S.st.set _ _).length = n
            rw [List.length_set, hs]
          refine ⟨?_, ?_⟩
          · show (goF J T f (mx en (wrap64 (a + x.f0.f1))) (putF x j a S)).st.length = n
            rw [(goF_same J T f _ _).2.2.2, hp]
          · exact goF_best J T n hn f _ _ hp hb
    have loop : ∀ k, (loopG J T (goF J T f) en S k).st.length = n ∧ ∀ b, (loopG J T (goF J T f) en S k).best = some b → b.length = n := by
      intro k
      induction k with
      | zero => exact ⟨hs, hb⟩
      | succ k ih => exact step k _ ih.1 ih.2
    exact (loop J.length).2 b h
theorem loopG_same (J : List (List S40)) (T : List S89) (f : Nat) (en : Int) (S : Sst) : ∀ k, (loopG J T (goF J T f) en S k).nx = S.nx ∧ (loopG J T (goF J T f) en S k).st.length = S.st.length
  | 0 => ⟨rfl, rfl⟩
  | k + 1 => by
    obtain ⟨i1, i2⟩ := loopG_same J T f en S k
    rw [loopG, stepG]
    split
    · exact ⟨i1, i2⟩
    · simp only
      split
      · exact ⟨i1, i2⟩
      · generalize (T.getD ((firstsN J J.length).getD k 0 + (loopG J T (goF J T f) en S k).nx.getD k 0).toNat z89) = x
        generalize mx ((loopG J T (goF J T f) en S k).je.getD k 0) ((loopG J T (goF J T f) en S k).fre.getD x.f0.f0.toNat 0) = a
        generalize hQ : loopG J T (goF J T f) en S k = Q at *
        obtain ⟨h1, h2, h3, h4⟩ := goF_same J T f (mx en (wrap64 (a + x.f0.f1))) (putF x k a Q)
        refine ⟨?_, ?_⟩
        · show ((goF J T f (mx en (wrap64 (a + x.f0.f1))) (putF x k a Q)).nx.set k ((goF J T f (mx en (wrap64 (a + x.f0.f1))) (putF x k a Q)).nx.getD k 0 - 1)) = S.nx
          rw [h1]
          show ((Q.nx.set k (Q.nx.getD k 0 + 1)).set k ((Q.nx.set k (Q.nx.getD k 0 + 1)).getD k 0 - 1)) = S.nx
          rw [set_self, Int.add_sub_cancel, set_getD, i1]
        · show (goF J T f (mx en (wrap64 (a + x.f0.f1))) (putF x k a Q)).st.length = _
          rw [h4, ← i2]
          show (Q.st.set _ _).length = _
          rw [List.length_set]
theorem loopG_best (J : List (List S40)) (T : List S89) (n : Nat) (hn : 0 < n) (f : Nat) (en : Int) (S : Sst) (hs : S.st.length = n) (hb : ∀ b, S.best = some b → b.length = n) : ∀ k, ∀ b, (loopG J T (goF J T f) en S k).best = some b → b.length = n
  | 0 => hb
  | k + 1 => by
    have ih := loopG_best J T n hn f en S hs hb k
    have i2 := (loopG_same J T f en S k).2
    rw [loopG, stepG]
    split
    · exact ih
    · simp only
      split
      · exact ih
      · refine goF_best J T n hn f _ _ ?_ ih
        show (List.set _ _ _).length = n
        rw [List.length_set, i2, hs]
end Go.Proofs.Ytipkhaicjjeieaa.V
