/- A map over the entries that are not minus infinity, and the line as its functions look at it: pace, slack, closure of the slack. Bounds stand in each theorem. -/
import Derived.Test.YthjmfbmffchicaaKRf3
import Derived.Test.YthjmfbmffchicaaKRRefE
import Derived.Test.YthjmfbmffchicaaKRRefF
namespace Go.Proofs.Ythjmfbmffchicaa.Pure
open Go.RowKit Go.Proofs.Ythjmfbmffchicaa.V Go.Proofs.YthjmfbmffchicaaW.PrintWords Go.Proofs.YthjmfbmffchicaaW.PrintLast
open Go.Proofs.Ythjmfbmffchicaa.Mp
def mapf (g : Int → Int) (a : Nat → Nat → Int) (i j : Nat) : Int := if a i j = NEV then NEV else g (a i j)
def pmix (n : Nat) (g a : Nat → Nat → Int) (i j : Nat) : List (List Int) := (List.range n).map fun p => if p < i then vec n (g p) else if p = i then vec n (fun q => if q < j then g i q else a i q) else []
theorem pmix_length (n : Nat) (g a : Nat → Nat → Int) (i j : Nat) : (pmix n g a i j).length = n := by simp [pmix]
theorem pmix_get (n : Nat) (g a : Nat → Nat → Int) (i j : Nat) (hi : i < n) : (pmix n g a i j).getD i [] = vec n (fun q => if q < j then g i q else a i q) := by
  unfold pmix
  rw [List.getD_eq_getElem?_getD, List.getElem?_map, List.getElem?_range hi]
  simp
theorem pmix_open (n : Nat) (g a : Nat → Nat → Int) (i : Nat) : (part n g i).set i (vec n (a i)) = pmix n g a i 0 := by
  refine range_map_set n _ _ i _ (fun _ => ?_) (fun b _ hb => ?_)
  · rw [if_neg (by omega), if_pos rfl]
    exact vec_congr fun q _ => if_neg (by omega)
  · by_cases h : b < i
    · rw [if_pos h, if_pos h]
    · rw [if_neg h, if_neg h, if_neg hb]
theorem pmix_set (n : Nat) (g a : Nat → Nat → Int) (i j : Nat) (hi : i < n) : (pmix n g a i j).set i (((pmix n g a i j).getD i []).set j (g i j)) = pmix n g a i (j + 1) := by
  rw [pmix_get n g a i j hi]
  have row : (vec n (fun q => if q < j then g i q else a i q)).set j (g i j) = vec n (fun q => if q < j + 1 then g i q else a i q) := by
    refine range_map_set n _ _ j _ (fun _ => if_pos (by omega)) (fun b _ hb => ?_)
    by_cases h : b < j
    · rw [if_pos (by omega), if_pos h]
    · rw [if_neg (by omega), if_neg h]
  rw [row]
  refine range_map_set n _ _ i _ (fun _ => ?_) (fun b _ hb => ?_)
  · rw [if_neg (by omega), if_pos rfl]
  · by_cases h : b < i
    · rw [if_pos h, if_pos h]
    · rw [if_neg h, if_neg h, if_neg hb, if_neg hb]
theorem pmix_skip (n : Nat) (g a : Nat → Nat → Int) (i j : Nat) (h : g i j = a i j) : pmix n g a i j = pmix n g a i (j + 1) := by
  unfold pmix
  refine List.map_congr_left fun p _ => ?_
  by_cases h1 : p < i
  · rw [if_pos h1, if_pos h1]
  · rw [if_neg h1, if_neg h1]
    by_cases h2 : p = i
    · rw [if_pos h2, if_pos h2]
      refine vec_congr fun q _ => ?_
      by_cases h3 : q < j
      · rw [if_pos h3, if_pos (by omega)]
      · rw [if_neg h3]
        by_cases h4 : q = j
        · subst h4; rw [if_pos (by omega), h]
        · rw [if_neg (by omega)]
    · rw [if_neg h2, if_neg h2]
theorem pmix_all (n : Nat) (g a : Nat → Nat → Int) (i : Nat) : pmix n g a i n = part n g (i + 1) := by
  unfold pmix part
  refine List.map_congr_left fun p _ => ?_
  by_cases h1 : p < i
  · rw [if_pos h1, if_pos (by omega)]
  · rw [if_neg h1]
    by_cases h2 : p = i
    · subst h2
      rw [if_pos rfl, if_pos (by omega)]
      exact vec_congr fun q hq => if_pos hq
    · rw [if_neg h2, if_neg (by omega)]
section
variable {n : Nat} {A : List (List Int)} {G : Int → Option Int} {g : Int → Int}
theorem mapped_l1 (hn : n ≤ 1000) (hA : IsMat n A) (hG : ∀ i j, i < n → j < n → ent A i j ≠ NEV → G (ent A i j) = some (g (ent A i j))) (i : Nat) (hi : i < n) (r : List (List Int))
    (hr : Ev (fun k => lgmapped.l0 G k (part n (mapf g (ent A)) (i + 1)) A (n : Int) ((i + 1 : Nat) : Int)) r) : ∀ d j, j + d = n →
    Ev (fun k => lgmapped.l1 G k (pmix n (mapf g (ent A)) (ent A) i j) (i : Int) A (n : Int) (i : Int) (A.getD i []) (n : Int) (j : Int)) r := by
  intro d
  induction d with
  | zero =>
    intro j hj
    obtain rfl : j = n := by omega
    refine Ev.step (fun k => ?_) hr
    simp only [lgmapped.l1]
    rw [if_neg (by omega), wr1 i (by omega), pmix_all]
  | succ d ih =>
    intro j hj
    have hj' : j < n := by omega
    have e2 := hA.2 i hi
    have e3 := pmix_length n (mapf g (ent A)) (ent A) i j
    have e4 : ((pmix n (mapf g (ent A)) (ent A) i j).getD i []).length = n := by rw [pmix_get _ _ _ _ _ hi, vec_length]
    refine Ev.step (fun k => ?_) (ih (j + 1) (by omega))
    simp only [lgmapped.l1]
    rw [if_pos (by omega), if_pos (by omega), if_pos (by omega), wr1 j (by omega), rdI]
    unfold line_never_int.f
    simp only [Option.bind_some]
    by_cases h : (A.getD i []).getD j 0 = NEV
    · rw [if_pos (show (A.getD i []).getD j 0 = -1152921504606846976 from h), pmix_skip _ _ _ _ _ (by unfold mapf; rw [if_pos (show ent A i j = NEV from h)]; exact h.symm)]
    · rw [if_neg (show ¬ (A.getD i []).getD j 0 = -1152921504606846976 from h), if_pos (by omega), if_pos (by omega), show G ((A.getD i []).getD j 0) = some (g (ent A i j)) from hG i j hi hj' h]
      simp only [Option.bind_some]
      rw [rdL, if_pos (by omega), toN, toN]
      have := pmix_set n (mapf g (ent A)) (ent A) i j hi
      rw [show mapf g (ent A) i j = g (ent A i j) from if_neg h] at this
      rw [this]
theorem mapped_l0 (hn : n ≤ 1000) (hA : IsMat n A) (hG : ∀ i j, i < n → j < n → ent A i j ≠ NEV → G (ent A i j) = some (g (ent A i j))) : ∀ d i, i + d = n →
    Ev (fun k => lgmapped.l0 G k (part n (mapf g (ent A)) i) A (n : Int) (i : Int)) (mat n (mapf g (ent A))) := by
  intro d
  induction d with
  | zero =>
    intro i hi
    obtain rfl : i = n := by omega
    refine ev_now fun k => ?_
    simp only [lgmapped.l0]
    rw [if_neg (by omega), part_all]
  | succ d ih =>
    intro i hi
    have hi' : i < n := by omega
    have e1 := hA.1
    have e2 := hA.2 i hi'
    have e3 := part_length n (mapf g (ent A)) i
    refine Ev.step (f := fun k => lgmapped.l1 G k (pmix n (mapf g (ent A)) (ent A) i 0) (i : Int) A (n : Int) (i : Int) (A.getD i []) (n : Int) ((0 : Nat) : Int)) (fun k => ?_) (mapped_l1 hn hA hG i hi' _ (ih (i + 1) (by omega)) n 0 (by omega))
    simp only [lgmapped.l0]
    rw [if_pos (by omega), if_pos (by omega), if_pos (by omega), rdL, show slices_Clone_int_int.f (A.getD i []) = some (A.getD i []) by unfold slices_Clone_int_int.f; simp only [Option.bind_some, List.length_nil, List.nil_append]; exact if_pos (by omega)]
    simp only [Option.bind_some]
    rw [if_pos (by omega), toN, e2, ← pmix_open]
    rw [show vec n (ent A i) = A.getD i [] by rw [← e2]; exact vec_ext rfl]
    rfl
theorem mapped_f (hn : n ≤ 1000) (hA : IsMat n A) (hG : ∀ i j, i < n → j < n → ent A i j ≠ NEV → G (ent A i j) = some (g (ent A i j))) : Ev (fun k => lgmapped.f G k A 0) (mat n (mapf g (ent A))) := by
  have e1 := hA.1
  unfold lgmapped.f
  refine Ev.congr (fun k => ?_) (mapped_l0 hn hA hG n 0 (by omega))
  rw [if_pos (by omega), toN, if_pos (by omega), e1, part_zero]
  rfl
end
theorem fwk_congr {n : Nat} {a b : Nat → Nat → Int} (h : ∀ i j, i < n → j < n → a i j = b i j) : ∀ k, k ≤ n → ∀ i j, i < n → j < n → fwk a k i j = fwk b k i j := by
  intro k
  induction k with
  | zero => intro _ i j hi hj; show max (onef i j) (a i j) = max (onef i j) (b i j); rw [h i j hi hj]
  | succ k ih =>
    intro hk i j hi hj
    show max (fwk a k i j) (pl (fwk a k i k) (fwk a k k j)) = max (fwk b k i j) (pl (fwk b k i k) (fwk b k k j))
    rw [ih (by omega) i j hi hj, ih (by omega) i k hi (by omega), ih (by omega) k j (by omega) hj]
theorem powf_congr {n : Nat} {a b : Nat → Nat → Int} (h : ∀ i j, i < n → j < n → a i j = b i j) : ∀ k, ∀ i j, i < n → j < n → powf n a k i j = powf n b k i j := by
  intro k
  induction k with
  | zero => intro i j _ _; rfl
  | succ k ih => intro i j hi hj; exact mul_congr (fun q hq => ih i q hi hq) (fun q hq => h q j hq hj)
theorem closed_mat {n : Nat} {M : Int} {a : Nat → Nat → Int} (hn : n ≤ 1000) (ha : BdM n n M a) (hM : 0 ≤ M) (hs : M * (n : Nat) < 1152921504606846976) (h2 : M * (2 ^ n : Nat) < 100000000000000000) (hp : NoPos n a) :
    Ev (fun q => lgclosed.f q (mat n a)) (mat n (fwk a n)) := by
  have em : ∀ i j, i < n → j < n → ent (mat n a) i j = a i j := fun i j hi hj => ent_mat _ hi hj
  have := closed_f (A := mat n a) hn (isMat_mat n a) (fun i j hi hj => by rw [em i j hi hj]; exact ha i j hi hj) hM hs h2 (fun k i hk hkn hi => by rw [powf_congr em k i i hi hi]; exact hp k i hk hkn hi)
  rwa [mat_congr fun i j hi hj => fwk_congr em n (by omega) i j hi hj] at this
def slackf (num den : Int) (a : Nat → Nat → Int) : Nat → Nat → Int := mapf (fun e => den * e - num) a
theorem den_mul {x d : Int} (h1 : -1000 ≤ x) (h2 : x ≤ 1000) (h3 : 0 < d) (h4 : d ≤ 6) : -6000 ≤ d * x ∧ d * x ≤ 6000 := by
  have : d = 1 ∨ d = 2 ∨ d = 3 ∨ d = 4 ∨ d = 5 ∨ d = 6 := by omega
  rcases this with rfl | rfl | rfl | rfl | rfl | rfl <;> omega
section
variable {n : Nat} {a : Nat → Nat → Int} {num den : Int} {B : Nat → Nat → Prop}
theorem slack_bd (ha : BdM n n 1000 a) (ht : Top n a B num den) : BdM n n 12000 (slackf num den a) := fun i j hi hj => by
  unfold slackf mapf
  by_cases h : a i j = NEV
  · rw [if_pos h]; exact .inl rfl
  · rw [if_neg h]
    have b := (ha i j hi hj).resolve_left h
    have := den_mul b.1 b.2 ht.den0 ht.den6
    have := ht.lo
    have := ht.hi
    show Bd 12000 (den * a i j - num)
    exact .inr (by omega)
theorem slack_nev {i j : Nat} (ha : Bd 1000 (a i j)) (ht : Top n a B num den) : slackf num den a i j = NEV ↔ a i j = NEV := by
  unfold slackf mapf
  constructor
  · intro h
    by_cases e : a i j = NEV
    · exact e
    · rw [if_neg e] at h
      replace h : den * a i j - num = NEV := h
      have b := ha.resolve_left e
      have := den_mul b.1 b.2 ht.den0 ht.den6
      have := ht.lo
      have := ht.hi
      have n1 : (NEV : Int) = -1152921504606846976 := rfl
      omega
  · intro h; rw [if_pos h]
theorem slack_wk (ha : BdM n n 1000 a) (ht : Top n a B num den) {v : Nat → Nat} {L : Nat} (h : Wk n (slackf num den a) v L) : Wk n a v L :=
  ⟨h.lt, fun t hl e => h.arc t hl ((slack_nev (ha _ _ (h.lt _ (by omega)) (h.lt _ (by omega))) ht).2 e)⟩
theorem slack_wk' (ha : BdM n n 1000 a) (ht : Top n a B num den) {v : Nat → Nat} {L : Nat} (h : Wk n a v L) : Wk n (slackf num den a) v L :=
  ⟨h.lt, fun t hl e => h.arc t hl ((slack_nev (ha _ _ (h.lt _ (by omega)) (h.lt _ (by omega))) ht).1 e)⟩
theorem slack_wt {v : Nat → Nat} : ∀ {L : Nat}, Wk n a v L → wt (slackf num den a) v L = den * wt a v L - num * (L : Nat) := by
  intro L
  induction L with
  | zero => intro _; simp [wt]
  | succ L ih =>
    intro h
    have e1 := ih (h.left (by omega))
    have e2 : slackf num den a (v (L + 1)) (v L) = den * a (v (L + 1)) (v L) - num := if_neg (h.arc L (by omega))
    show wt (slackf num den a) v L + slackf num den a (v (L + 1)) (v L) = den * (wt a v L + a (v (L + 1)) (v L)) - num * ((L + 1 : Nat) : Int)
    rw [e1, e2, Int.mul_add, Int.natCast_add, Int.mul_add]
    omega
theorem slack_nopos (hn : n ≤ 6) (ha : BdM n n 1000 a) (ht : Top n a (Seen n (n + 1) 0) num den) : NoPos n (slackf num den a) := by
  intro k i hk hkn hi
  by_cases e : powf n (slackf num den a) k i i = NEV
  · rw [e]; decide
  obtain ⟨v, hv, v0, vL, vw⟩ := pow_att k i i hi hi e
  have hv' := slack_wk ha ht hv
  have h1 := pow_ge ha (by omega) k v (by omega) hv'
  rw [v0, vL] at h1
  have h2 : powf n a k i i ≠ NEV := by
    have := (wt_bd ha hv').1
    intro e2
    rw [e2] at h1
    have n1 : (NEV : Int) = -1152921504606846976 := rfl
    omega
  have h3 := ht.top k i ⟨hk, hi, .inl (by omega)⟩ h2
  have h4 := Int.mul_le_mul_of_nonneg_right h1 (by have := ht.den0; omega : (0 : Int) ≤ den)
  rw [← vw, slack_wt hv', Int.mul_comm den]
  omega
end
theorem slack_f {n : Nat} {A : List (List Int)} (hA : Arg n A) {num den : Int} {B : Nat → Nat → Prop} (ht : Top n (ent A) B num den) : Ev (fun k => lgslack.f k A num den) (mat n (slackf num den (ent A))) := by
  have h6 := hA.six
  refine mapped_f (g := fun e => den * e - num) (by omega) hA.is fun i j hi hj hne => ?_
  have b := (hA.bd i j hi hj).resolve_left hne
  have := den_mul b.1 b.2 ht.den0 ht.den6
  have := ht.lo
  have := ht.hi
  unfold lgslack_1.f
  rw [wr (x := den * ent A i j) (by omega) (by omega), wr (by omega) (by omega)]
theorem looked_f {n : Nat} {A : List (List Int)} (hA : Arg n A) (ra : Rows A) :
    ((∀ k i, Seen n (n + 1) 0 k i → powf n (ent A) k i i = NEV) ∧ Ev (fun k => line_looked.f k A) ([], 0, 0, [], [], 10) ∧ ∃ x y, Ev (fun k => lgpace.f k A) (x, y, false)) ∨
    ∃ num den, Top n (ent A) (Seen n (n + 1) 0) num den ∧ Ev (fun k => lgpace.f k A) (num, den, true) ∧
      Ev (fun k => line_looked.f k A) (A, num, den, mat n (slackf num den (ent A)), mat n (fwk (slackf num den (ent A)) n), 0) := by
  have h6 := hA.six
  have eo := ((of_f A ra).resolve_right (fun h => h.1 ⟨n, hA⟩)).2
  obtain ⟨⟨num, den, f⟩, ep, hb⟩ := pace_f hA
  rcases hb with ⟨e, h⟩ | ⟨e, h⟩
  · obtain rfl : f = false := e
    refine .inl ⟨h, ?_, num, den, ep⟩
    unfold line_looked.f
    exact Ev.bind eo (Ev.congr (fun k => if_pos rfl) (Ev.bind ep (ev_some fun k => if_neg (by simp))))
  · obtain rfl : f = true := e
    refine .inr ⟨num, den, h, ep, ?_⟩
    have hbd := slack_bd hA.bd h
    have em : ∀ i j, i < n → j < n → ent (mat n (slackf num den (ent A))) i j = slackf num den (ent A) i j := fun i j hi hj => ent_mat _ hi hj
    have t6 : ((2 ^ n : Nat) : Int) ≤ 64 := by
      have : 2 ^ n ≤ 2 ^ 6 := Nat.pow_le_pow_right (by omega) h6
      omega
    have ec := closed_mat (n := n) (M := 12000) (by omega) hbd (by omega) (by omega) (by omega) (slack_nopos h6 hA.bd h)
    unfold line_looked.f
    exact Ev.bind eo (Ev.congr (fun k => if_pos rfl) (Ev.bind ep (Ev.congr (fun k => if_pos rfl) (Ev.bind (slack_f hA h) (Ev.bind ec (Ev.now _))))))
end Go.Proofs.Ythjmfbmffchicaa.Pure
