/- Walks of the shop's functions, eleventh text: a visit of the search for the longest chains that goes on. -/
import Derived.Test.YtipkhaicjjeieaaKLShJ
namespace Go.Proofs.Ytipkhaicjjeieaa.V
set_option linter.unusedSimpArgs false
set_option linter.unusedVariables false
open Go.RowKit Go.Proofs.YtipkhaicjjeieaaW.PrintWords Go.Proofs.YtipkhaicjjeieaaW.PrintLast Go.Proofs.YtipkhaicjjeieaaW.PrintMore
def InvF (S : Dst) : Prop := ∀ x : Nat, S.st.getD x 0 = 1 → (x : Int) ∈ S.pa
theorem indexN_mem {l : List Int} {x : Int} (h : x ∈ l) : 0 ≤ indexN l x l.length := by
  refine Int.not_lt.1 fun h2 => ?_
  obtain ⟨j, hj, e⟩ := List.getElem_of_mem h
  exact (indexN_no l x l.length).1 h2 j hj (by rw [List.getD_eq_getElem?_getD, List.getElem?_eq_getElem hj, e]; rfl)
theorem getD_set (l : List Int) (i j : Nat) (x : Int) : (l.set i x).getD j 0 = if i = j ∧ j < l.length then x else l.getD j 0 := by
  simp only [List.getD_eq_getElem?_getD, List.getElem?_set]
  by_cases e : i = j
  · subst e
    by_cases h : i < l.length
    · simp [h]
    · simp [h]
  · simp [e]
theorem InvF.opened {S : Dst} (h : InvF S) (t : Nat) : InvF (openF t S) := by
  intro x hx
  simp only [openF, getD_set] at hx ⊢
  by_cases e : t = x ∧ x < S.st.length
  · rw [e.1]; simp
  · rw [if_neg e] at hx
    exact List.mem_append_left _ (h x hx)
theorem InvF.top {S : Dst} (h : InvF S) (t p : Nat) : InvF (topF t p S) ∧ (topF t p S).pa = S.pa := by
  unfold topF
  split
  · exact ⟨h, rfl⟩
  · exact ⟨h, rfl⟩
theorem loopF_keeps {V : Nat → Dst → Option Dre} (hV : ∀ p S S', InvF S → V p S = some (.ok S') → InvF S' ∧ S'.pa = S.pa) {nx : Nat → Nat → Bool} {t : Nat} {S : Dst} (h : InvF S) :
    ∀ k S', loopF V nx t S k = some (.ok S') → InvF S' ∧ S'.pa = S.pa
  | 0, S', e => by
    obtain rfl : S = S' := by injection e with e; injection e
    exact ⟨h, rfl⟩
  | k + 1, S', e => by
    rw [loopF] at e
    match e1 : loopF V nx t S k with
    | none => rw [e1] at e; cases e
    | some (.cyc l) => rw [e1] at e; cases e
    | some (.ok S1) =>
      obtain ⟨i1, p1⟩ := loopF_keeps hV h k S1 e1
      rw [e1, stepF] at e
      by_cases hb : nx k t = true
      · rw [if_pos hb] at e
        match e2 : V k S1 with
        | none => rw [e2] at e; cases e
        | some (.cyc l) => rw [e2] at e; cases e
        | some (.ok S2) =>
          rw [e2] at e
          obtain ⟨i2, p2⟩ := hV k S1 S2 i1 e2
          obtain rfl : topF t k S2 = S' := by injection e with e; injection e
          exact ⟨(i2.top t k).1, by rw [(i2.top t k).2, p2, p1]⟩
      · rw [if_neg hb] at e
        obtain rfl : S1 = S' := by injection e with e; injection e
        exact ⟨i1, p1⟩
theorem shut_pa (tm : Nat → Int) (t : Nat) (S S1 : Dst) (h : S1.pa = (openF t S).pa) : (shutF tm t S1).pa = S.pa := by
  simp only [shutF, h, openF, List.length_append, List.length_singleton, Nat.add_sub_cancel, List.take_left']
theorem visitF_keeps {nx : Nat → Nat → Bool} {tm : Nat → Int} {n : Nat} : ∀ f t S S', InvF S → visitF nx tm n f t S = some (.ok S') → InvF S' ∧ S'.pa = S.pa
  | 0, _, _, _, _, e => by cases e
  | f + 1, t, S, S', h, e => by
    rw [visitF] at e
    by_cases h1 : S.st.getD t 0 = 1
    · rw [if_pos h1] at e; cases e
    rw [if_neg h1] at e
    by_cases h2 : S.st.getD t 0 = 2
    · rw [if_pos h2] at e
      obtain rfl : S = S' := by injection e with e; injection e
      exact ⟨h, rfl⟩
    rw [if_neg h2] at e
    match e1 : loopF (visitF nx tm n f) nx t (openF t S) n with
    | none => rw [e1] at e; cases e
    | some (.cyc l) => rw [e1] at e; cases e
    | some (.ok S1) =>
      rw [e1] at e
      obtain ⟨i1, p1⟩ := loopF_keeps (fun p S S' => visitF_keeps f p S S') (h.opened t) n S1 e1
      obtain rfl : shutF tm t S1 = S' := by injection e with e; injection e
      have hp := shut_pa tm t S S1 p1
      refine ⟨fun x hx => ?_, hp⟩
      rw [hp]
      simp only [shutF, getD_set] at hx
      by_cases c : t = x ∧ x < S1.st.length
      · rw [if_pos c] at hx; omega
      · rw [if_neg c] at hx
        have hm := i1 x hx
        rw [p1] at hm
        simp only [openF, List.mem_append, List.mem_singleton] at hm
        rcases hm with hm | hm
        · exact hm
        · exfalso
          have ex : x = t := by omega
          exact c ⟨ex.symm, by
            refine Nat.lt_of_not_le fun hle => ?_
            rw [List.getD_eq_getElem?_getD, List.getElem?_eq_none hle] at hx
            simp at hx⟩
def VisitArgs (B t : Nat) : Array Value := #[.int .i64 t, .pointer (some ⟨B + 7, 0, none⟩), .pointer (some ⟨B + 8, 0, none⟩), .pointer (some ⟨B + 2, 0, none⟩), .pointer (some ⟨B + 3, 0, none⟩), .pointer (some ⟨B, 0, none⟩), .pointer (some ⟨B + 9, 0, none⟩), .pointer (some ⟨B + 1, 0, none⟩)]
def VisitOK (w0 : World) (B gu gf g n : Nat) (o : Array Value) (nx : Nat → Nat → Bool) (tm : Nat → Int) (f : Nat) : Prop :=
  ∀ t S r w, Dfs w0 B gu gf g o nx n w S → InvF S → t < n → S.pa.length + f ≤ 100 → visitF nx tm n f t S = some r → Calls Try.prog 78 (VisitArgs B t) w (VisitPost w0 B gu gf g o nx n r)
end Go.Proofs.Ytipkhaicjjeieaa.V
