/- What the line's printed functions compute (second text): powers, the matrix applied to a vector, the check of an argument, Multiply, Power, Run. Each lemma's bounds stand in it. -/
import Derived.Test.YthjmfbmffchicaaKRRefA
namespace Go.Proofs.Ythjmfbmffchicaa.Pure
open Go.RowKit Go.Proofs.Ythjmfbmffchicaa.V Go.Proofs.YthjmfbmffchicaaW.PrintWords Go.Proofs.YthjmfbmffchicaaW.PrintLast Go.Proofs.YthjmfbmffchicaaW.PrintMore
open Go.Proofs.Ythjmfbmffchicaa.Mp
section
variable {n : Nat} {M : Int} {a : Nat → Nat → Int}
theorem mat_pow_mul (ha : BdM n n M a) (hM : 0 ≤ M) (j k : Nat) (hs : M * (j + k : Nat) < 1152921504606846976) : mat n (mulf n (powf n a j) (powf n a k)) = mat n (powf n a (j + k)) :=
  mat_congr fun _ _ hx hy => (pow_add ha hM j k hs hx hy).symm
theorem times_pow (hn : n ≤ 1000) (ha : BdM n n M a) (hM : 0 ≤ M) (j k : Nat) (hs : M * (j + k : Nat) < 1152921504606846976) :
    Ev (fun r => lgtimes.f r (mat n (powf n a j)) (mat n (powf n a k))) (mat n (powf n a (j + k))) := by
  rw [← mat_pow_mul ha hM j k hs]
  have e : M * ((j + k : Nat) : Int) = M * (j : Nat) + M * (k : Nat) := by
    rw [show ((j + k : Nat) : Int) = (j : Int) + (k : Int) by omega, Int.mul_add]
  exact times_mat hn (BdM.pow ha j) (BdM.pow ha k) (by omega) (Int.mul_nonneg hM (by omega)) (Int.mul_nonneg hM (by omega))
theorem tdiv2 (m : Nat) : Int.tdiv (m : Int) 2 = ((m / 2 : Nat) : Int) := by
  rw [Int.tdiv_eq_ediv_of_nonneg (by omega)]; omega
theorem tmod2 (m : Nat) : Int.tmod (m : Int) 2 = ((m % 2 : Nat) : Int) := by
  rw [Int.tmod_eq_emod_of_nonneg (by omega)]; omega
theorem mul_lt_of_le {M : Int} (hM : 0 ≤ M) {x y : Nat} (h : x ≤ y) (hs : M * (y : Nat) < 1152921504606846976) : M * (x : Nat) < 1152921504606846976 :=
  Int.lt_of_le_of_lt (Int.mul_le_mul_of_nonneg_left (by omega) hM) hs
theorem power_l0 (hn : n ≤ 1000) (ha : BdM n n M a) (hM : 0 ≤ M) : ∀ m : Nat, m ≤ 9223372036854775807 → ∀ p q : Nat, M * (q + 2 * p * m : Nat) < 1152921504606846976 →
    Ev (fun r => lgpower.l0 r (mat n (powf n a p)) (m : Int) (mat n (powf n a q))) (mat n (powf n a (q + p * m))) := by
  intro m
  induction m using Nat.strongRecOn with
  | ind m ih =>
    intro hm p q hs
    by_cases h0 : m = 0
    · subst h0
      refine ev_now (fun k => ?_)
      simp only [lgpower.l0]
      rw [if_neg (by omega)]
      rfl
    · have hw : wrap64 (Int.tdiv (m : Int) 2) = ((m / 2 : Nat) : Int) := by rw [tdiv2, wr (by omega) (by omega)]
      have hpm : 2 * p ≤ 2 * p * m := Nat.le_mul_of_pos_right _ (by omega)
      by_cases ho : m % 2 = 1
      · have hm2 : m = 2 * (m / 2) + 1 := by omega
        have e1 : 2 * p * m = 4 * (p * (m / 2)) + 2 * p := by rw [hm2]; rw [show (2 * (m / 2) + 1) / 2 = m / 2 by omega]; rw [Nat.mul_add, Nat.mul_one, Nat.mul_mul_mul_comm]
        have e3 : 2 * (2 * p) * (m / 2) = 4 * (p * (m / 2)) := by rw [← Nat.mul_assoc 2 2 p, Nat.mul_assoc]
        have e2 : q + p + 2 * p * (m / 2) = q + p * m := by
          have : p * m = p * (2 * (m / 2) + 1) := by rw [← hm2]
          rw [this, Nat.mul_add, Nat.mul_one, Nat.mul_assoc, Nat.mul_left_comm]; omega
        have s1 : M * ((q + p + 2 * (2 * p) * (m / 2) : Nat) : Int) < 1152921504606846976 := mul_lt_of_le hM (by omega) hs
        have := ih (m / 2) (by omega) (by omega) (2 * p) (q + p) s1
        rw [e2] at this
        refine Ev.step (f := fun r => (lgtimes.f r (mat n (powf n a q)) (mat n (powf n a p))).bind fun t => (lgtimes.f r (mat n (powf n a p)) (mat n (powf n a p))).bind fun u => lgpower.l0 r u ((m / 2 : Nat) : Int) t) (fun k => ?_) ?_
        · simp only [lgpower.l0]
          rw [if_pos (by omega), tmod2, if_pos (by omega), hw]
        · refine Ev.bind (times_pow hn ha hM q p (mul_lt_of_le hM (by omega) hs)) (Ev.bind (times_pow hn ha hM p p (mul_lt_of_le hM (by omega) hs)) ?_)
          rw [show p + p = 2 * p by omega]
          exact this
      · have hm2 : m = 2 * (m / 2) := by omega
        have e1 : 2 * p * m = 4 * (p * (m / 2)) := by rw [hm2]; rw [show (2 * (m / 2)) / 2 = m / 2 by omega, Nat.mul_mul_mul_comm]
        have e3 : 2 * (2 * p) * (m / 2) = 4 * (p * (m / 2)) := by rw [← Nat.mul_assoc 2 2 p, Nat.mul_assoc]
        have e2 : q + 2 * p * (m / 2) = q + p * m := by
          have : p * m = p * (2 * (m / 2)) := by rw [← hm2]
          rw [this, Nat.mul_assoc, Nat.mul_left_comm]
        have s1 : M * ((q + 2 * (2 * p) * (m / 2) : Nat) : Int) < 1152921504606846976 := mul_lt_of_le hM (by omega) hs
        have := ih (m / 2) (by omega) (by omega) (2 * p) q s1
        rw [e2] at this
        refine Ev.step (f := fun r => (lgtimes.f r (mat n (powf n a p)) (mat n (powf n a p))).bind fun u => lgpower.l0 r u ((m / 2 : Nat) : Int) (mat n (powf n a q))) (fun k => ?_) ?_
        · simp only [lgpower.l0]
          rw [if_pos (by omega), tmod2, if_neg (by omega), hw]
        · refine Ev.bind (times_pow hn ha hM p p (mul_lt_of_le hM (by omega) hs)) ?_
          rw [show p + p = 2 * p by omega]
          exact this
end
structure Arg (n : Nat) (A : List (List Int)) : Prop where
  is : IsMat n A
  one : 1 ≤ n
  six : n ≤ 6
  bd : BdM n n 1000 (ent A)
theorem pow_one {n : Nat} {A : List (List Int)} (h : Arg n A) : mat n (powf n (ent A) 1) = A := by
  conv => rhs; rw [← mat_ext h.is]
  exact mat_congr fun i j hi hj => one_mul h.bd (by omega) hi hj
theorem power_f {n : Nat} {A : List (List Int)} (h : Arg n A) (m : Nat) (hm : m ≤ 1048576) :
    Ev (fun r => lgpower.f r A (m : Int)) (mat n (powf n (ent A) m)) := by
  have h6 := h.six
  have h1 := one_f n (by omega)
  have hp := power_l0 (n := n) (M := 1000) (a := ent A) (by omega) h.bd (by omega) m (by omega) 1 0 (by omega)
  rw [pow_one h, Nat.one_mul, Nat.zero_add] at hp
  unfold lgpower.f
  rw [h.is.1]
  exact Ev.bind h1 hp
def vpart (n : Nat) (f : Nat → Int) (i : Nat) : List Int := vec n (fun a => if a < i then f a else 0)
theorem vpart_length (n : Nat) (f : Nat → Int) (i : Nat) : (vpart n f i).length = n := vec_length _ _
theorem vpart_set (n : Nat) (f : Nat → Int) (i : Nat) : (vpart n f i).set i (f i) = vpart n f (i + 1) := by
  refine range_map_set n _ _ i _ (fun _ => ?_) (fun b _ hb => ?_)
  · rw [if_pos (by omega)]
  · by_cases h : b < i
    · rw [if_pos h, if_pos (by omega)]
    · rw [if_neg h, if_neg (by omega)]
section
variable {n : Nat} {M N : Int} {A : List (List Int)} {x : List Int}
end
theorem index_ev (L : Nat → List Int → Int → Int → Option Int) (g : Int → Option Bool) (p : Int → Bool) (hg : ∀ x, g x = some (p x))
    (hL : ∀ k x0 x7 x8, L (k + 1) x0 x7 x8 = if x8 < x7 then (if 0 ≤ x8 then (if x8 < (x0.length : Int) then ((g (rd x0 x8)).bind fun t => (if t = true then (some x8) else (L k x0 x7 (wrap64 (x8 + 1))))) else (none)) else (none)) else (some (-1)))
    (l : List Int) (hl : l.length ≤ 9223372036854775807) : ∀ d i, i + d = l.length → ∃ v : Int, Ev (fun k => L k l (l.length : Int) (i : Int)) v ∧ (0 ≤ v ↔ ∃ j, i ≤ j ∧ j < l.length ∧ p (l.getD j 0) = true) := by
  intro d
  induction d with
  | zero =>
    intro i hi
    refine ⟨-1, ev_now (fun k => ?_), ⟨fun h => by omega, fun ⟨j, h1, h2, _⟩ => by omega⟩⟩
    rw [hL, if_neg (by omega)]
  | succ d ih =>
    intro i hi
    by_cases hp : p (l.getD i 0) = true
    · refine ⟨i, ev_now (fun k => ?_), ⟨fun _ => ⟨i, by omega, by omega, hp⟩, fun _ => by omega⟩⟩
      rw [hL, if_pos (by omega), if_pos (by omega), if_pos (by omega), hg, rdI]
      simp only [Option.bind_some]
      rw [if_pos hp]
    · obtain ⟨v, hv, hiff⟩ := ih (i + 1) (by omega)
      refine ⟨v, Ev.step (f := fun k => L k l (l.length : Int) ((i + 1 : Nat) : Int)) (fun k => ?_) hv, ?_⟩
      · rw [hL, if_pos (by omega), if_pos (by omega), if_pos (by omega), hg, rdI]
        simp only [Option.bind_some]
        rw [if_neg hp, wr1 i (by omega)]
      · rw [hiff]
        constructor
        · rintro ⟨j, h1, h2, h3⟩; exact ⟨j, by omega, h2, h3⟩
        · rintro ⟨j, h1, h2, h3⟩
          refine ⟨j, ?_, h2, h3⟩
          have : j ≠ i := fun e => hp (e ▸ h3)
          omega
def oddB (lo hi x : Int) : Bool := decide (x ≠ NEV ∧ (x < lo ∨ x > hi))
theorem odd_iff {lo hi x : Int} : oddB lo hi x = false ↔ (x = NEV ∨ (lo ≤ x ∧ x ≤ hi)) := by
  unfold oddB
  rw [decide_eq_false_iff_not]
  constructor
  · intro h; by_cases e : x = NEV
    · exact .inl e
    · exact .inr (by omega)
  · intro h h'; rcases h with h | h
    · exact h'.1 h
    · omega
theorem of_1_f (x : Int) : line_of_1.f x = some (oddB (-1000) 1000 x) := by
  unfold line_of_1.f oddB NEV
  split
  · simp_all
  · split
    · congr 1; symm; rw [decide_eq_true_iff]; omega
    · congr 1; rw [decide_eq_decide]; omega
def AllIn (lo hi : Int) (l : List Int) : Prop := ∀ j, j < l.length → oddB lo hi (l.getD j 0) = false
theorem contains_of {g : Nat → Option Int} {v : Int} (hv : Ev g v) {lo hi : Int} {l : List Int} (hiff : 0 ≤ v ↔ ∃ j, 0 ≤ j ∧ j < l.length ∧ oddB lo hi (l.getD j 0) = true) :
    (AllIn lo hi l ∧ Ev (fun k => (g k).bind fun t => some (decide (t ≥ 0))) false) ∨ (¬ AllIn lo hi l ∧ Ev (fun k => (g k).bind fun t => some (decide (t ≥ 0))) true) := by
  by_cases h : 0 ≤ v
  · obtain ⟨j, _, h2, h3⟩ := hiff.1 h
    refine .inr ⟨fun hh => (by rw [hh j h2] at h3; cases h3), Ev.bind hv ?_⟩
    exact ev_some (fun _ => by simp; omega)
  · refine .inl ⟨fun j hj => ?_, Ev.bind hv (ev_some (fun _ => by simp; omega))⟩
    cases e : oddB lo hi (l.getD j 0) with
    | false => rfl
    | true => exact absurd (hiff.2 ⟨j, by omega, hj, e⟩) h
theorem contains_of_1 (l : List Int) (hl : l.length ≤ 9223372036854775807) :
    (AllIn (-1000) 1000 l ∧ Ev (fun k => scfof_1.f k l 0) false) ∨ (¬ AllIn (-1000) 1000 l ∧ Ev (fun k => scfof_1.f k l 0) true) := by
  obtain ⟨v, hv, hiff⟩ := index_ev sifof_1.l0 line_of_1.f _ of_1_f (fun _ _ _ _ => rfl) l hl l.length 0 (by omega)
  exact contains_of hv hiff
def Rows (A : List (List Int)) : Prop := ∀ i, i < A.length → (A.getD i []).length ≤ 9223372036854775807
def RowsOk (A : List (List Int)) (i : Nat) : Prop := ∀ j, i ≤ j → j < A.length → (A.getD j []).length = A.length ∧ AllIn (-1000) 1000 (A.getD j [])
theorem of_l0 (A : List (List Int)) (hA : Rows A) (hl : A.length ≤ 6) : ∀ d i, i + d = A.length →
    (RowsOk A i ∧ Ev (fun k => line_of.l0 k A A (A.length : Int) (i : Int)) (A, true)) ∨ (¬ RowsOk A i ∧ Ev (fun k => line_of.l0 k A A (A.length : Int) (i : Int)) ([], false)) := by
  intro d
  induction d with
  | zero =>
    intro i hi
    refine .inl ⟨fun j h1 h2 => by omega, ev_now (fun k => ?_)⟩
    simp only [line_of.l0]
    rw [if_neg (by omega)]
  | succ d ih =>
    intro i hi
    by_cases hr : (A.getD i []).length = A.length
    · rcases contains_of_1 (A.getD i []) (hA i (by omega)) with ⟨ha, he⟩ | ⟨ha, he⟩
      · have step : ∀ k, line_of.l0 (k + 1) A A (A.length : Int) (i : Int) = (scfof_1.f k (A.getD i []) 0).bind fun t => if t = true then some ([], false) else line_of.l0 k A A (A.length : Int) ((i + 1 : Nat) : Int) := by
          intro k
          simp only [line_of.l0]
          rw [if_pos (by omega), if_pos (by omega), if_pos (by omega), rdL, if_pos (by omega), wr1 i (by omega)]
        rcases ih (i + 1) (by omega) with ⟨h1, h2⟩ | ⟨h1, h2⟩
        · refine .inl ⟨fun j hj hj2 => ?_, Ev.step step (Ev.bind he (Ev.congr (fun k => if_neg (by decide)) h2))⟩
          by_cases e : j = i
          · subst e; exact ⟨hr, ha⟩
          · exact h1 j (by omega) hj2
        · exact .inr ⟨fun hh => h1 fun j hj hj2 => hh j (by omega) hj2, Ev.step step (Ev.bind he (Ev.congr (fun k => if_neg (by decide)) h2))⟩
      · refine .inr ⟨fun hh => ha (hh i (by omega) (by omega)).2, Ev.step (f := fun k => (scfof_1.f k (A.getD i []) 0).bind fun t => if t = true then some ([], false) else line_of.l0 k A A (A.length : Int) ((i + 1 : Nat) : Int)) (fun k => ?_) (Ev.bind he (ev_some fun k => if_pos rfl))⟩
        simp only [line_of.l0]
        rw [if_pos (by omega), if_pos (by omega), if_pos (by omega), rdL, if_pos (by omega), wr1 i (by omega)]
    · refine .inr ⟨fun hh => hr (hh i (by omega) (by omega)).1, ev_now (fun k => ?_)⟩
      simp only [line_of.l0]
      rw [if_pos (by omega), if_pos (by omega), if_pos (by omega), rdL, if_neg (by omega)]
theorem arg_iff (A : List (List Int)) : (∃ n, Arg n A) ↔ 1 ≤ A.length ∧ A.length ≤ 6 ∧ RowsOk A 0 := by
  constructor
  · rintro ⟨n, h⟩
    have e := h.is.1
    have h1 := h.one
    have h6 := h.six
    refine ⟨by omega, by omega, fun j _ hj => ⟨by rw [h.is.2 j (by omega), e], fun q hq => ?_⟩⟩
    rw [h.is.2 j (by omega)] at hq
    exact odd_iff.2 (h.bd j q (by omega) hq)
  · rintro ⟨h1, h6, hr⟩
    refine ⟨A.length, ⟨rfl, fun i hi => (hr i (by omega) hi).1⟩, h1, h6, fun i j hi hj => ?_⟩
    exact odd_iff.1 ((hr i (by omega) hi).2 j (by rw [(hr i (by omega) hi).1]; exact hj))
theorem of_f (A : List (List Int)) (hA : Rows A) : ((∃ n, Arg n A) ∧ Ev (fun k => line_of.f k A) (A, true)) ∨ ((¬ ∃ n, Arg n A) ∧ Ev (fun k => line_of.f k A) ([], false)) := by
  rw [arg_iff]
  have no : ∀ k, line_of.j0 (k + 1) A true = some ([], false) := fun k => by simp only [line_of.j0]; rw [if_pos (by decide)]
  by_cases h1 : 1 ≤ A.length
  · by_cases h6 : A.length ≤ 6
    · have step : ∀ k, line_of.f (k + 1) A = line_of.l0 k A A (A.length : Int) ((0 : Nat) : Int) := fun k => by
        unfold line_of.f
        rw [if_neg (by omega), show decide ((A.length : Int) > 6) = false by rw [decide_eq_false_iff_not]; omega]
        simp only [line_of.j0]
        rw [if_neg (by decide)]
        rfl
      rcases of_l0 A hA h6 A.length 0 (by omega) with ⟨h, he⟩ | ⟨h, he⟩
      · exact .inl ⟨⟨h1, h6, h⟩, Ev.step step he⟩
      · exact .inr ⟨fun hh => h hh.2.2, Ev.step step he⟩
    · refine .inr ⟨fun hh => h6 hh.2.1, ev_now (fun k => ?_)⟩
      unfold line_of.f
      rw [if_neg (by omega), show decide ((A.length : Int) > 6) = true by rw [decide_eq_true_iff]; omega]
      exact no k
  · refine .inr ⟨fun hh => h1 hh.1, ev_now (fun k => ?_)⟩
    unfold line_of.f
    rw [if_pos (by omega)]
    exact no k
theorem steps_f (m : Int) : line_steps.f m = some (decide (0 ≤ m ∧ m ≤ 1048576)) := by
  unfold line_steps.f
  split
  · congr 1; rw [decide_eq_decide]; omega
  · congr 1; symm; rw [decide_eq_false_iff_not]; omega
theorem Power_ok {n : Nat} {A : List (List Int)} (hA : Arg n A) (ra : Rows A) (m : Nat) (hm : m ≤ 1048576) : Ev (fun k => line_Power.f k A (m : Int)) (mat n (powf n (ent A) m), 0) := by
  have ea := (of_f A ra).resolve_right (fun h => h.1 ⟨n, hA⟩)
  unfold line_Power.f
  refine Ev.bind ea.2 ?_
  refine Ev.congr (fun k => ?_) (Ev.bind (f := fun _ t => some (t, (0 : Int))) (power_f hA m hm) (Ev.now (mat n (powf n (ent A) m), (0 : Int))))
  rw [if_pos rfl, steps_f]
  simp only [Option.bind_some]
  rw [if_pos (by rw [decide_eq_true_iff]; omega)]
end Go.Proofs.Ythjmfbmffchicaa.Pure
