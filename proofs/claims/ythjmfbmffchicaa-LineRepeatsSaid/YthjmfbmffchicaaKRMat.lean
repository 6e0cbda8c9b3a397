/- Plain laws of the algebra of maxima and sums over ints with one number for minus infinity: products are associative, powers add; no program in sight. Each lemma's bounds stand in it. -/
import Derived.RowKit
namespace Go.Proofs.Ythjmfbmffchicaa.Mp
def NEV : Int := -1152921504606846976
def pl (a b : Int) : Int := if a = NEV then NEV else if b = NEV then NEV else a + b
def sup (h : Nat → Int) : Nat → Int
  | 0 => NEV
  | n + 1 => max (sup h n) (h n)
def Bd (M x : Int) : Prop := x = NEV ∨ (-M ≤ x ∧ x ≤ M)
def mulf (n : Nat) (a b : Nat → Nat → Int) (i j : Nat) : Int := sup (fun k => pl (a i k) (b k j)) n
def onef (i j : Nat) : Int := if i = j then 0 else NEV
def powf (n : Nat) (a : Nat → Nat → Int) : Nat → Nat → Nat → Int
  | 0 => onef
  | k + 1 => mulf n (powf n a k) a

theorem Bd.mono {M N x : Int} (h : Bd M x) (hMN : M ≤ N) : Bd N x := by
  rcases h with h | h
  · exact .inl h
  · exact .inr (by omega)
theorem Bd.ge {M x : Int} (h : Bd M x) (hM : M < 1152921504606846976) : NEV ≤ x := by
  unfold Bd NEV at *; omega
theorem sup_nev (h : Nat → Int) (n : Nat) : NEV ≤ sup h n := by
  induction n with
  | zero => exact Int.le_refl _
  | succ n ih => simp only [sup]; omega
theorem sup_le {h : Nat → Int} {n : Nat} {v : Int} (h0 : NEV ≤ v) (hk : ∀ k, k < n → h k ≤ v) : sup h n ≤ v := by
  induction n with
  | zero => exact h0
  | succ n ih =>
    have h1 := ih (fun k hk' => hk k (by omega))
    have h2 := hk n (by omega)
    simp only [sup]; omega
theorem le_sup {h : Nat → Int} {n k : Nat} (hk : k < n) : h k ≤ sup h n := by
  induction n with
  | zero => omega
  | succ n ih =>
    simp only [sup]
    by_cases e : k = n
    · subst e; omega
    · have := ih (by omega); omega
theorem sup_mem (h : Nat → Int) (n : Nat) : sup h n = NEV ∨ ∃ k, k < n ∧ sup h n = h k := by
  induction n with
  | zero => exact .inl rfl
  | succ n ih =>
    simp only [sup]
    by_cases e : h n ≤ sup h n
    · rw [Int.max_eq_left e]
      rcases ih with ih | ⟨k, hk, ih⟩
      · exact .inl ih
      · exact .inr ⟨k, by omega, ih⟩
    · rw [Int.max_eq_right (by omega)]
      exact .inr ⟨n, by omega, rfl⟩
theorem sup_congr {h g : Nat → Int} {n : Nat} (e : ∀ k, k < n → h k = g k) : sup h n = sup g n := by
  induction n with
  | zero => rfl
  | succ n ih => simp only [sup]; rw [ih (fun k hk => e k (by omega)), e n (by omega)]
theorem sup_comm (h : Nat → Nat → Int) (n m : Nat) : sup (fun k => sup (fun l => h k l) m) n = sup (fun l => sup (fun k => h k l) n) m := by
  apply Int.le_antisymm
  · refine sup_le (sup_nev _ _) (fun k hk => sup_le (sup_nev _ _) (fun l hl => ?_))
    exact Int.le_trans (le_sup (h := fun k => h k l) hk) (le_sup (h := fun l => sup (fun k => h k l) n) hl)
  · refine sup_le (sup_nev _ _) (fun l hl => sup_le (sup_nev _ _) (fun k hk => ?_))
    exact Int.le_trans (le_sup (h := fun l => h k l) hl) (le_sup (h := fun k => sup (fun l => h k l) m) hk)
theorem Bd.pl {M N a b : Int} (ha : Bd M a) (hb : Bd N b) : Bd (M + N) (pl a b) := by
  unfold Bd Mp.pl at *
  split
  · exact .inl rfl
  · split
    · exact .inl rfl
    · exact .inr (by omega)
theorem Bd.sup {M : Int} {h : Nat → Int} {n : Nat} (hh : ∀ k, k < n → Bd M (h k)) : Bd M (sup h n) := by
  rcases sup_mem h n with e | ⟨k, hk, e⟩
  · exact .inl e
  · rw [e]; exact hh k hk
theorem pl_assoc {M N K a b c : Int} (ha : Bd M a) (hb : Bd N b) (hc : Bd K c) (hs : M + N + K < 1152921504606846976) (hM : 0 ≤ M) (hN : 0 ≤ N) (hK : 0 ≤ K) :
    pl (pl a b) c = pl a (pl b c) := by
  unfold Bd pl NEV at *
  repeat' split <;> omega
theorem pl_max_left {M N x y c : Int} (hx : Bd M x) (hy : Bd M y) (hc : Bd N c) (hs : M + N < 1152921504606846976) (hM : 0 ≤ M) (hN : 0 ≤ N) :
    pl (max x y) c = max (pl x c) (pl y c) := by
  unfold Bd pl NEV at *
  repeat' split <;> omega
theorem pl_max_right {M N x y c : Int} (hx : Bd M x) (hy : Bd M y) (hc : Bd N c) (hs : M + N < 1152921504606846976) (hM : 0 ≤ M) (hN : 0 ≤ N) :
    pl c (max x y) = max (pl c x) (pl c y) := by
  unfold Bd pl NEV at *
  repeat' split <;> omega
theorem pl_nev_left (c : Int) : pl NEV c = NEV := by simp [pl]
theorem pl_nev_right (c : Int) : pl c NEV = NEV := by simp [pl]
theorem pl_sup_left {M N c : Int} {h : Nat → Int} {n : Nat} (hh : ∀ k, k < n → Bd M (h k)) (hc : Bd N c) (hs : M + N < 1152921504606846976) (hM : 0 ≤ M) (hN : 0 ≤ N) :
    pl (sup h n) c = sup (fun k => pl (h k) c) n := by
  induction n with
  | zero => exact pl_nev_left c
  | succ n ih =>
    simp only [sup]
    rw [pl_max_left (Bd.sup (fun k hk => hh k (by omega))) (hh n (by omega)) hc hs hM hN, ih (fun k hk => hh k (by omega))]
theorem pl_sup_right {M N c : Int} {h : Nat → Int} {n : Nat} (hh : ∀ k, k < n → Bd M (h k)) (hc : Bd N c) (hs : M + N < 1152921504606846976) (hM : 0 ≤ M) (hN : 0 ≤ N) :
    pl c (sup h n) = sup (fun k => pl c (h k)) n := by
  induction n with
  | zero => exact pl_nev_right c
  | succ n ih =>
    simp only [sup]
    rw [pl_max_right (Bd.sup (fun k hk => hh k (by omega))) (hh n (by omega)) hc hs hM hN, ih (fun k hk => hh k (by omega))]
def BdM (n m : Nat) (M : Int) (a : Nat → Nat → Int) : Prop := ∀ i j, i < n → j < m → Bd M (a i j)
theorem BdM.mul {n m : Nat} {M N : Int} {a b : Nat → Nat → Int} (ha : BdM n n M a) (hb : BdM n m N b) : BdM n m (M + N) (mulf n a b) :=
  fun i j hi hj => Bd.sup fun k hk => (ha i k hi hk).pl (hb k j hk hj)
theorem mul_assoc {n m : Nat} {M N K : Int} {a b c : Nat → Nat → Int} (ha : BdM n n M a) (hb : BdM n n N b) (hc : BdM n m K c) (hs : M + N + K < 1152921504606846976) (hM : 0 ≤ M) (hN : 0 ≤ N) (hK : 0 ≤ K)
    {i j : Nat} (hi : i < n) (hj : j < m) : mulf n (mulf n a b) c i j = mulf n a (mulf n b c) i j := by
  have h1 : mulf n (mulf n a b) c i j = sup (fun k => sup (fun l => pl (pl (a i l) (b l k)) (c k j)) n) n :=
    sup_congr fun k hk => pl_sup_left (fun l hl => (ha i l hi hl).pl (hb l k hl hk)) (hc k j hk hj) hs (by omega) hK
  have h2 : mulf n a (mulf n b c) i j = sup (fun l => sup (fun k => pl (a i l) (pl (b l k) (c k j))) n) n :=
    sup_congr fun l hl => pl_sup_right (fun k hk => (hb l k hl hk).pl (hc k j hk hj)) (ha i l hi hl) (by omega) (by omega) hM
  rw [h1, h2, sup_comm]
  exact sup_congr fun l hl => sup_congr fun k hk => pl_assoc (ha i l hi hl) (hb l k hl hk) (hc k j hk hj) hs hM hN hK
theorem mul_congr {n : Nat} {a a' b b' : Nat → Nat → Int} {i j : Nat} (ha : ∀ k, k < n → a i k = a' i k) (hb : ∀ k, k < n → b k j = b' k j) : mulf n a b i j = mulf n a' b' i j :=
  sup_congr fun k hk => by rw [ha k hk, hb k hk]
theorem one_mul {n m : Nat} {M : Int} {a : Nat → Nat → Int} (ha : BdM n m M a) (hM : M < 1152921504606846976) {i j : Nat} (hi : i < n) (hj : j < m) : mulf n onef a i j = a i j := by
  apply Int.le_antisymm
  · refine sup_le ((ha i j hi hj).ge hM) (fun k hk => ?_)
    show pl (onef i k) (a k j) ≤ a i j
    unfold onef
    by_cases e : i = k
    · subst e
      rw [if_pos rfl]
      unfold pl
      split
      · rename_i h; exact absurd h (by decide)
      · split
        · rename_i h; omega
        · omega
    · rw [if_neg e, pl_nev_left]; exact (ha i j hi hj).ge hM
  · have h := le_sup (h := fun k => pl (onef i k) (a k j)) hi
    have e : pl (onef i i) (a i j) = a i j := by
      unfold onef pl
      rw [if_pos rfl, if_neg (by decide)]
      split
      · rename_i h; exact h.symm
      · omega
    show a i j ≤ sup (fun k => pl (onef i k) (a k j)) n
    simp only [e] at h
    exact h
theorem mul_one {n m : Nat} {M : Int} {a : Nat → Nat → Int} (ha : BdM m n M a) (hM : M < 1152921504606846976) {i j : Nat} (hi : i < m) (hj : j < n) : mulf n a onef i j = a i j := by
  apply Int.le_antisymm
  · refine sup_le ((ha i j hi hj).ge hM) (fun k hk => ?_)
    show pl (a i k) (onef k j) ≤ a i j
    unfold onef
    by_cases e : k = j
    · subst e
      rw [if_pos rfl]
      unfold pl
      split
      · rename_i h; omega
      · split
        · rename_i h; exact absurd h (by decide)
        · omega
    · rw [if_neg e, pl_nev_right]; exact (ha i j hi hj).ge hM
  · have h := le_sup (h := fun k => pl (a i k) (onef k j)) hj
    have e : pl (a i j) (onef j j) = a i j := by
      unfold onef pl
      rw [if_pos rfl]
      split
      · rename_i h; exact h.symm
      · rw [if_neg (by decide)]; omega
    show a i j ≤ sup (fun k => pl (a i k) (onef k j)) n
    simp only [e] at h
    exact h
theorem BdM.one (n : Nat) : BdM n n 0 onef := fun i j _ _ => by
  unfold onef
  split
  · exact .inr (by omega)
  · exact .inl rfl
theorem BdM.pow {n : Nat} {M : Int} {a : Nat → Nat → Int} (ha : BdM n n M a) (k : Nat) : BdM n n (M * k) (powf n a k) := by
  induction k with
  | zero => exact fun i j hi hj => (BdM.one n i j hi hj).mono (by simp)
  | succ k ih =>
    refine fun i j hi hj => (BdM.mul ih ha i j hi hj).mono ?_
    rw [Int.natCast_succ, Int.mul_add]
    omega
theorem pow_add {n : Nat} {M : Int} {a : Nat → Nat → Int} (ha : BdM n n M a) (hM : 0 ≤ M) (j : Nat) : ∀ k : Nat, M * (j + k : Nat) < 1152921504606846976 → ∀ {x y : Nat}, x < n → y < n → powf n a (j + k) x y = mulf n (powf n a j) (powf n a k) x y
  | 0, hs, x, y, hx, hy => by
    refine (mul_one (BdM.pow ha j) ?_ hx hy).symm
    simpa using hs
  | k + 1, hs, x, y, hx, hy => by
    have hs' : M * (j : Nat) + M * (k : Nat) + M < 1152921504606846976 := by
      have : M * ((j + (k + 1) : Nat) : Int) = M * (j : Nat) + M * (k : Nat) + M := by
        rw [show ((j + (k + 1) : Nat) : Int) = (j : Int) + (k : Int) + 1 by omega, Int.mul_add, Int.mul_add]; omega
      omega
    have hs2 : M * ((j + k : Nat) : Int) < 1152921504606846976 := by
      have : M * ((j + k : Nat) : Int) = M * (j : Nat) + M * (k : Nat) := by
        rw [show ((j + k : Nat) : Int) = (j : Int) + (k : Int) by omega, Int.mul_add]
      omega
    have e1 : powf n a (j + (k + 1)) x y = mulf n (mulf n (powf n a j) (powf n a k)) a x y :=
      mul_congr (fun z hz => pow_add ha hM j k hs2 hx hz) (fun _ _ => rfl)
    rw [e1]
    exact mul_assoc (BdM.pow ha j) (BdM.pow ha k) ha hs' (Int.mul_nonneg hM (by omega)) (Int.mul_nonneg hM (by omega)) hM hx hy
def ent (A : List (List Int)) (i j : Nat) : Int := (A.getD i []).getD j 0
def mat (n : Nat) (f : Nat → Nat → Int) : List (List Int) := (List.range n).map fun i => (List.range n).map fun j => f i j
def vec (n : Nat) (f : Nat → Int) : List Int := (List.range n).map f
def IsMat (n : Nat) (A : List (List Int)) : Prop := A.length = n ∧ ∀ i, i < n → (A.getD i []).length = n
theorem vec_length (n : Nat) (f : Nat → Int) : (vec n f).length = n := by simp [vec]
theorem vec_get {n : Nat} (f : Nat → Int) {i : Nat} (hi : i < n) : (vec n f).getD i 0 = f i := by
  simp [vec, List.getD_eq_getElem?_getD, List.getElem?_range hi]
theorem mat_length (n : Nat) (f : Nat → Nat → Int) : (mat n f).length = n := by simp [mat]
theorem mat_get {n : Nat} (f : Nat → Nat → Int) {i : Nat} (hi : i < n) : (mat n f).getD i [] = vec n (f i) := by
  simp [mat, vec, List.getD_eq_getElem?_getD, List.getElem?_range hi]
theorem isMat_mat (n : Nat) (f : Nat → Nat → Int) : IsMat n (mat n f) := ⟨mat_length n f, fun i hi => by rw [mat_get f hi, vec_length]⟩
theorem ent_mat {n : Nat} (f : Nat → Nat → Int) {i j : Nat} (hi : i < n) (hj : j < n) : ent (mat n f) i j = f i j := by
  unfold ent
  rw [mat_get f hi, vec_get _ hj]
theorem vec_ext {n : Nat} {x : List Int} (hx : x.length = n) : vec n (fun i => x.getD i 0) = x := by
  apply List.ext_getElem
  · rw [vec_length, hx]
  · intro i h1 h2
    simp [vec, List.getD_eq_getElem?_getD, List.getElem?_eq_getElem h2]
theorem mat_ext {n : Nat} {A : List (List Int)} (hA : IsMat n A) : mat n (ent A) = A := by
  apply List.ext_getElem
  · rw [mat_length, hA.1]
  · intro i h1 h2
    have hi : i < n := by rw [mat_length] at h1; exact h1
    have e : (A.getD i []) = A[i] := by simp [List.getD_eq_getElem?_getD, List.getElem?_eq_getElem h2]
    have := vec_ext (hA.2 i hi)
    rw [← e, ← this]
    simp [mat, vec, ent]
theorem vec_congr {n : Nat} {f g : Nat → Int} (h : ∀ i, i < n → f i = g i) : vec n f = vec n g := by
  unfold vec
  exact List.map_congr_left fun i hi => h i (by simpa using hi)
theorem mat_congr {n : Nat} {f g : Nat → Nat → Int} (h : ∀ i j, i < n → j < n → f i j = g i j) : mat n f = mat n g := by
  unfold mat
  exact List.map_congr_left fun i hi => List.map_congr_left fun j hj => h i j (by simpa using hi) (by simpa using hj)
end Go.Proofs.Ythjmfbmffchicaa.Mp
