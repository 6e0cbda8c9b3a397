/- Critical arcs and vertices, the least of a list. Bounds stand in each theorem. -/
import Derived.Test.YthjmfbmffchicaaKRf4
import Derived.Test.YthjmfbmffchicaaKRRefB
namespace Go.Proofs.Ythjmfbmffchicaa.Pure
open Go.RowKit Go.Proofs.Ythjmfbmffchicaa.V Go.Proofs.YthjmfbmffchicaaW.PrintWords Go.Proofs.YthjmfbmffchicaaW.PrintLast Go.Proofs.YthjmfbmffchicaaW.PrintMore
open Go.Proofs.Ythjmfbmffchicaa.Mp
def crit (s d : Nat → Nat → Int) (i j : Nat) : Bool := pl (s i j) (d j i) == 0
def critV (n : Nat) (s d : Nat → Nat → Int) (i : Nat) : Bool := (List.range n).any (crit s d i)
def critL (n : Nat) (s d : Nat → Nat → Int) (i : Nat) : List Int := ((List.range i).filter (critV n s d)).map Int.ofNat
section
variable {n : Nat} {s d : Nat → Nat → Int} {M N : Int}
theorem critical_f (L : List (List Int)) (u v : Int) (hs : BdM n n M s) (hd : BdM n n N d) (hMN : M + N < 1152921504606846976) (hM : 0 ≤ M) (hN : 0 ≤ N) (i j : Nat) (hi : i < n) (hj : j < n) :
    llcritical.f L u v (mat n s) (mat n d) (i : Int) (j : Int) = some (crit s d i j) := by
  unfold llcritical.f
  rw [mat_length, mat_length, if_pos (by omega), if_pos (by omega), if_pos (by omega), rdL, rdL, rdI, rdI, mat_get _ hi, mat_get _ hj, vec_length, vec_length, if_pos (by omega), if_pos (by omega), if_pos (by omega), vec_get _ hj, vec_get _ hi, both_f (hs i j hi hj) (hd j i hj hi) hMN hM hN]
  rfl
theorem critL_len (i : Nat) : (critL n s d i).length ≤ i := by
  unfold critL
  rw [List.length_map]
  exact Nat.le_trans (List.length_filter_le _ _) (Nat.le_of_eq List.length_range)
theorem critL_succ (i : Nat) : critL n s d (i + 1) = if critV n s d i = true then critL n s d i ++ [(i : Int)] else critL n s d i := by
  unfold critL
  rw [List.range_succ, List.filter_append, List.map_append]
  by_cases h : critV n s d i = true
  · rw [if_pos h, List.filter_cons_of_pos h]; rfl
  · rw [if_neg h, List.filter_cons_of_neg h]; simp
theorem vertices_l1 (hn : n ≤ 1000) (L : List (List Int)) (u v : Int) (hs : BdM n n M s) (hd : BdM n n N d) (hMN : M + N < 1152921504606846976) (hM : 0 ≤ M) (hN : 0 ≤ N) (i : Nat) (hi : i < n) (r : List Int)
    (hr : Ev (fun k => llvertices.l0 k (critL n s d (i + 1)) (n : Int) ((i + 1 : Nat) : Int) L u v (mat n s) (mat n d)) r) : ∀ e j, j + e = n → (∀ q, q < j → crit s d i q = false) →
    Ev (fun k => llvertices.l1 k (critL n s d i) (i : Int) (n : Int) (i : Int) (n : Int) (j : Int) L u v (mat n s) (mat n d)) r := by
  intro e
  induction e with
  | zero =>
    intro j hj hq
    obtain rfl : j = n := by omega
    have hv : ¬ critV j s d i = true := by
      unfold critV
      rw [List.any_eq_true]
      rintro ⟨q, hq1, hq2⟩
      rw [hq q (List.mem_range.1 hq1)] at hq2
      cases hq2
    rw [critL_succ, if_neg hv] at hr
    refine Ev.step (fun k => ?_) hr
    simp only [llvertices.l1]
    rw [if_neg (by omega), wr1 i (by omega)]
  | succ e ih =>
    intro j hj hq
    have hj' : j < n := by omega
    have hl := critL_len (n := n) (s := s) (d := d) i
    by_cases hc : crit s d i j = true
    · have hv : critV n s d i = true := by
        unfold critV
        rw [List.any_eq_true]
        exact ⟨j, List.mem_range.2 hj', hc⟩
      rw [critL_succ, if_pos hv] at hr
      refine Ev.step (fun k => ?_) hr
      simp only [llvertices.l1]
      rw [if_pos (by omega), critical_f L u v hs hd hMN hM hN i j hi hj']
      simp only [Option.bind_some]
      rw [if_pos hc, if_pos (by omega), wr1 i (by omega)]
    · refine Ev.step (fun k => ?_) (ih (j + 1) (by omega) fun q hq2 => ?_)
      · simp only [llvertices.l1]
        rw [if_pos (by omega), critical_f L u v hs hd hMN hM hN i j hi hj']
        simp only [Option.bind_some]
        rw [if_neg hc, wr1 j (by omega)]
      · by_cases e2 : q = j
        · subst e2; exact Bool.eq_false_iff.2 hc
        · exact hq q (by omega)
theorem vertices_l0 (hn : n ≤ 1000) (L : List (List Int)) (u v : Int) (hs : BdM n n M s) (hd : BdM n n N d) (hMN : M + N < 1152921504606846976) (hM : 0 ≤ M) (hN : 0 ≤ N) : ∀ e i, i + e = n →
    Ev (fun k => llvertices.l0 k (critL n s d i) (n : Int) (i : Int) L u v (mat n s) (mat n d)) (critL n s d n) := by
  intro e
  induction e with
  | zero =>
    intro i hi
    obtain rfl : i = n := by omega
    refine ev_now fun k => ?_
    simp only [llvertices.l0]
    rw [if_neg (by omega)]
  | succ e ih =>
    intro i hi
    refine Ev.step (fun k => ?_) (vertices_l1 hn L u v hs hd hMN hM hN i (by omega) _ (ih (i + 1) (by omega)) n 0 (by omega) (fun q hq => by omega))
    simp only [llvertices.l0]
    rw [if_pos (by omega), mat_length]
    rfl
theorem vertices_f (hn : n ≤ 1000) (L : List (List Int)) (u v : Int) (hs : BdM n n M s) (hd : BdM n n N d) (hMN : M + N < 1152921504606846976) (hM : 0 ≤ M) (hN : 0 ≤ N) :
    Ev (fun k => llvertices.f k L u v (mat n s) (mat n d)) (critL n s d n) := by
  unfold llvertices.f
  rw [mat_length]
  exact vertices_l0 hn L u v hs hd hMN hM hN n 0 (by omega)
end
def least (l : List Int) : Nat → Int
  | 0 => l.getD 0 0
  | j + 1 => mn (least l j) (l.getD (j + 1) 0)
theorem least_le (l : List Int) : ∀ j q, q ≤ j → least l j ≤ l.getD q 0 := by
  intro j
  induction j with
  | zero => intro q hq; obtain rfl : q = 0 := by omega
            exact Int.le_refl _
  | succ j ih =>
    intro q hq
    unfold least mn
    by_cases e : q = j + 1
    · subst e; split <;> omega
    · have := ih q (by omega)
      split <;> omega
theorem least_mem (l : List Int) : ∀ j, ∃ q, q ≤ j ∧ least l j = l.getD q 0 := by
  intro j
  induction j with
  | zero => exact ⟨0, by omega, rfl⟩
  | succ j ih =>
    obtain ⟨q, h1, h2⟩ := ih
    unfold least mn
    by_cases e : l.getD (j + 1) 0 < least l j
    · rw [if_pos e]; exact ⟨j + 1, by omega, rfl⟩
    · rw [if_neg e]; exact ⟨q, by omega, h2⟩
theorem Min_l0 (l : List Int) (n : Nat) (hn : n ≤ 1000) (hl : l.length = n) : ∀ d j, j + 1 + d = n → Ev (fun k => slices_Min_int_int.l0 k l (least l j) ((j + 1 : Nat) : Int)) (least l (n - 1)) := by
  intro d
  induction d with
  | zero =>
    intro j hj
    refine ev_now fun k => ?_
    simp only [slices_Min_int_int.l0]
    rw [if_neg (by omega), show n - 1 = j by omega]
  | succ d ih =>
    intro j hj
    refine Ev.step (fun k => ?_) (ih (j + 1) (by omega))
    simp only [slices_Min_int_int.l0]
    rw [if_pos (by omega), if_pos (by omega), rdI, wr1 (j + 1) (by omega)]
    rfl
theorem Min_f (l : List Int) (n : Nat) (hn : n ≤ 1000) (h1 : 1 ≤ n) (hl : l.length = n) : Ev (fun k => slices_Min_int_int.f k l) (least l (n - 1)) := by
  unfold slices_Min_int_int.f
  refine Ev.congr (f := fun k => slices_Min_int_int.j0 k l) (fun k => if_neg (by omega)) (Ev.step (fun k => ?_) (Min_l0 l n hn hl (n - 1) 0 (by omega)))
  simp only [slices_Min_int_int.j0]
  rw [if_pos (by omega)]
  rfl
end Go.Proofs.Ythjmfbmffchicaa.Pure
