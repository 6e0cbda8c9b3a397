/- What the functions that the law reaches compute, and the plain laws of it, down to the plain statement of the law. Bounds stand in each theorem. -/
import Derived.RowKit
import Derived.Test.YthjmfbmffchicaaKDf7
import Derived.Test.YthjmfbmffchicaaKDf0
import Derived.Test.YthjmfbmffchicaaKDf5
import Derived.Test.YthjmfbmffchicaaKDf2
import Derived.Test.YthjmfbmffchicaaKDf1
import Derived.Test.YthjmfbmffchicaaKDf3
import Derived.Test.YthjmfbmffchicaaKDf10
import Derived.Test.YthjmfbmffchicaaKDf8
import Derived.Test.YthjmfbmffchicaaKDf9
import Derived.Test.YthjmfbmffchicaaKDf4
import Derived.Test.YthjmfbmffchicaaKDf6
import Derived.OpenShut
import Derived.Deep.Matrix
import Derived.ProofKit
import Derived.Test.YthjmfbmffchicaaKDW
section
namespace Go.Proofs.Ythjmfbmffchicaa.Mp
def NEV : Int := -1152921504606846976
def pl (a b : Int) : Int := if a = NEV then NEV else if b = NEV then NEV else a + b
def sup (h : Nat → Int) : Nat → Int
  | 0 => NEV
  | n + 1 => max (sup h n) (h n)
def Bd (M x : Int) : Prop := x = NEV ∨ (-M ≤ x ∧ x ≤ M)
def mulf (n : Nat) (a b : Nat → Nat → Int) (i j : Nat) : Int := sup (fun k => pl (a i k) (b k j)) n
def onef (i j : Nat) : Int := if i = j then 0 else NEV
def powf (n : Nat) (a : Nat → Nat → Int) : Nat → Nat → Nat → Int
  | 0 => onef
  | k + 1 => mulf n (powf n a k) a
theorem Bd.mono {M N x : Int} (h : Bd M x) (hMN : M ≤ N) : Bd N x := by
  rcases h with h | h
  · exact .inl h
  · exact .inr jj
theorem Bd.ge {M x : Int} (h : Bd M x) (hM : M < 1152921504606846976) : NEV ≤ x := by
  unfold Bd NEV at *; omega
theorem sup_nev (h : Nat → Int) (n : Nat) : NEV ≤ sup h n := by
  induction n with
  | zero => exact Int.le_refl _
  | succ n ih => simp only [sup]; omega
theorem sup_le {h : Nat → Int} {n : Nat} {v : Int} (h0 : NEV ≤ v) (hk : ∀ k, k < n → h k ≤ v) : sup h n ≤ v := by
  induction n with
  | zero => exact h0
  | succ n ih =>
    have h1 := ih (fun k hk' => hk k jj)
    have h2 := hk n jj
    simp only [sup]; omega
theorem le_sup {h : Nat → Int} {n k : Nat} (hk : k < n) : h k ≤ sup h n := by
  induction n with
  | zero => omega
  | succ n ih =>
    simp only [sup]
    by_cases e : k = n
    · subst e; omega
    · have := ih jj; omega
theorem sup_mem (h : Nat → Int) (n : Nat) : sup h n = NEV ∨ ∃ k, k < n ∧ sup h n = h k := by
  induction n with
  | zero => exact .inl rfl
  | succ n ih =>
    simp only [sup]
    by_cases e : h n ≤ sup h n
    · rw [Int.max_eq_left e]
      rcases ih with ih | ⟨k, hk, ih⟩
      · exact .inl ih
      · exact .inr ⟨k, by omega, ih⟩
    · rw [Int.max_eq_right jj]
      exact .inr ⟨n, by omega, rfl⟩
theorem sup_congr {h g : Nat → Int} {n : Nat} (e : ∀ k, k < n → h k = g k) : sup h n = sup g n := by
  induction n with
  | zero => rfl
  | succ n ih => simp only [sup]; rw [ih (fun k hk => e k jj), e n jj]
theorem sup_comm (h : Nat → Nat → Int) (n m : Nat) : sup (fun k => sup (fun l => h k l) m) n = sup (fun l => sup (fun k => h k l) n) m := by
  apply Int.le_antisymm
  · refine sup_le (sup_nev _ _) (fun k hk => sup_le (sup_nev _ _) (fun l hl => ?_))
    exact Int.le_trans (le_sup (h := fun k => h k l) hk) (le_sup (h := fun l => sup (fun k => h k l) n) hl)
  · refine sup_le (sup_nev _ _) (fun l hl => sup_le (sup_nev _ _) (fun k hk => ?_))
    exact Int.le_trans (le_sup (h := fun l => h k l) hl) (le_sup (h := fun k => sup (fun l => h k l) m) hk)
theorem Bd.pl {M N a b : Int} (ha : Bd M a) (hb : Bd N b) : Bd (M + N) (pl a b) := by
  unfold Bd Mp.pl at *
  split
  · exact .inl rfl
  · split
    · exact .inl rfl
    · exact .inr jj
theorem Bd.sup {M : Int} {h : Nat → Int} {n : Nat} (hh : ∀ k, k < n → Bd M (h k)) : Bd M (sup h n) := by
  rcases sup_mem h n with e | ⟨k, hk, e⟩
  · exact .inl e
  · rw [e]; exact hh k hk
theorem pl_assoc {M N K a b c : Int} (ha : Bd M a) (hb : Bd N b) (hc : Bd K c) (hs : M + N + K < 1152921504606846976) (hM : 0 ≤ M) (hN : 0 ≤ N) (hK : 0 ≤ K) :
    pl (pl a b) c = pl a (pl b c) := by
  unfold Bd pl NEV at *
  repeat' split <;> omega
theorem pl_max_left {M N x y c : Int} (hx : Bd M x) (hy : Bd M y) (hc : Bd N c) (hs : M + N < 1152921504606846976) (hM : 0 ≤ M) (hN : 0 ≤ N) :
    pl (max x y) c = max (pl x c) (pl y c) := by
  unfold Bd pl NEV at *
  repeat' split <;> omega
theorem pl_max_right {M N x y c : Int} (hx : Bd M x) (hy : Bd M y) (hc : Bd N c) (hs : M + N < 1152921504606846976) (hM : 0 ≤ M) (hN : 0 ≤ N) :
    pl c (max x y) = max (pl c x) (pl c y) := by
  unfold Bd pl NEV at *
  repeat' split <;> omega
theorem pl_nev_left (c : Int) : pl NEV c = NEV := by simp [pl]
theorem pl_nev_right (c : Int) : pl c NEV = NEV := by simp [pl]
theorem pl_sup_left {M N c : Int} {h : Nat → Int} {n : Nat} (hh : ∀ k, k < n → Bd M (h k)) (hc : Bd N c) (hs : M + N < 1152921504606846976) (hM : 0 ≤ M) (hN : 0 ≤ N) :
    pl (sup h n) c = sup (fun k => pl (h k) c) n := by
  induction n with
  | zero => exact pl_nev_left c
  | succ n ih =>
    simp only [sup]
    rw [pl_max_left (Bd.sup (fun k hk => hh k jj)) (hh n jj) hc hs hM hN, ih (fun k hk => hh k jj)]
theorem pl_sup_right {M N c : Int} {h : Nat → Int} {n : Nat} (hh : ∀ k, k < n → Bd M (h k)) (hc : Bd N c) (hs : M + N < 1152921504606846976) (hM : 0 ≤ M) (hN : 0 ≤ N) :
    pl c (sup h n) = sup (fun k => pl c (h k)) n := by
  induction n with
  | zero => exact pl_nev_right c
  | succ n ih =>
    simp only [sup]
    rw [pl_max_right (Bd.sup (fun k hk => hh k jj)) (hh n jj) hc hs hM hN, ih (fun k hk => hh k jj)]
def BdM (n m : Nat) (M : Int) (a : Nat → Nat → Int) : Prop := ∀ i j, i < n → j < m → Bd M (a i j)
theorem BdM.mul {n m : Nat} {M N : Int} {a b : Nat → Nat → Int} (ha : BdM n n M a) (hb : BdM n m N b) : BdM n m (M + N) (mulf n a b) :=
  fun i j hi hj => Bd.sup fun k hk => (ha i k hi hk).pl (hb k j hk hj)
theorem mul_assoc {n m : Nat} {M N K : Int} {a b c : Nat → Nat → Int} (ha : BdM n n M a) (hb : BdM n n N b) (hc : BdM n m K c) (hs : M + N + K < 1152921504606846976) (hM : 0 ≤ M) (hN : 0 ≤ N) (hK : 0 ≤ K)
    {i j : Nat} (hi : i < n) (hj : j < m) : mulf n (mulf n a b) c i j = mulf n a (mulf n b c) i j := by
  have h1 : mulf n (mulf n a b) c i j = sup (fun k => sup (fun l => pl (pl (a i l) (b l k)) (c k j)) n) n :=
    sup_congr fun k hk => pl_sup_left (fun l hl => (ha i l hi hl).pl (hb l k hl hk)) (hc k j hk hj) hs jj hK
  have h2 : mulf n a (mulf n b c) i j = sup (fun l => sup (fun k => pl (a i l) (pl (b l k) (c k j))) n) n :=
    sup_congr fun l hl => pl_sup_right (fun k hk => (hb l k hl hk).pl (hc k j hk hj)) (ha i l hi hl) jj jj hM
  rw [h1, h2, sup_comm]
  exact sup_congr fun l hl => sup_congr fun k hk => pl_assoc (ha i l hi hl) (hb l k hl hk) (hc k j hk hj) hs hM hN hK
theorem mul_congr {n : Nat} {a a' b b' : Nat → Nat → Int} {i j : Nat} (ha : ∀ k, k < n → a i k = a' i k) (hb : ∀ k, k < n → b k j = b' k j) : mulf n a b i j = mulf n a' b' i j :=
  sup_congr fun k hk => by rw [ha k hk, hb k hk]
theorem one_mul {n m : Nat} {M : Int} {a : Nat → Nat → Int} (ha : BdM n m M a) (hM : M < 1152921504606846976) {i j : Nat} (hi : i < n) (hj : j < m) : mulf n onef a i j = a i j := by
  apply Int.le_antisymm
  · refine sup_le ((ha i j hi hj).ge hM) (fun k hk => ?_)
    show pl (onef i k) (a k j) ≤ a i j
    unfold onef
    by_cases e : i = k
    · subst e
      rw [if_pos rfl]
      unfold pl
      split
      · rename_i h; exact absurd h (by decide)
      · split
        · rename_i h; omega
        · omega
    · rw [if_neg e, pl_nev_left]; exact (ha i j hi hj).ge hM
  · have h := le_sup (h := fun k => pl (onef i k) (a k j)) hi
    have e : pl (onef i i) (a i j) = a i j := by
      unfold onef pl
      rw [if_pos rfl, if_neg (by decide)]
      split
      · rename_i h; exact h.symm
      · omega
    show a i j ≤ sup (fun k => pl (onef i k) (a k j)) n
    simp only [e] at h
    exact h
theorem mul_one {n m : Nat} {M : Int} {a : Nat → Nat → Int} (ha : BdM m n M a) (hM : M < 1152921504606846976) {i j : Nat} (hi : i < m) (hj : j < n) : mulf n a onef i j = a i j := by
  apply Int.le_antisymm
  · refine sup_le ((ha i j hi hj).ge hM) (fun k hk => ?_)
    show pl (a i k) (onef k j) ≤ a i j
    unfold onef
    by_cases e : k = j
    · subst e
      rw [if_pos rfl]
      unfold pl
      split
      · rename_i h; omega
      · split
        · rename_i h; exact absurd h (by decide)
        · omega
    · rw [if_neg e, pl_nev_right]; exact (ha i j hi hj).ge hM
  · have h := le_sup (h := fun k => pl (a i k) (onef k j)) hj
    have e : pl (a i j) (onef j j) = a i j := by
      unfold onef pl
      rw [if_pos rfl]
      split
      · rename_i h; exact h.symm
      · rw [if_neg (by decide)]; omega
    show a i j ≤ sup (fun k => pl (a i k) (onef k j)) n
    simp only [e] at h
    exact h
theorem BdM.one (n : Nat) : BdM n n 0 onef := fun i j _ _ => by
  unfold onef
  split
  · exact .inr jj
  · exact .inl rfl
theorem BdM.pow {n : Nat} {M : Int} {a : Nat → Nat → Int} (ha : BdM n n M a) (k : Nat) : BdM n n (M * k) (powf n a k) := by
  induction k with
  | zero => exact fun i j hi hj => (BdM.one n i j hi hj).mono (by simp)
  | succ k ih =>
    refine fun i j hi hj => (BdM.mul ih ha i j hi hj).mono ?_
    rw [Int.natCast_succ, Int.mul_add]
    omega
theorem pow_add {n : Nat} {M : Int} {a : Nat → Nat → Int} (ha : BdM n n M a) (hM : 0 ≤ M) (j : Nat) : ∀ k : Nat, M * (j + k : Nat) < 1152921504606846976 → ∀ {x y : Nat}, x < n → y < n → powf n a (j + k) x y = mulf n (powf n a j) (powf n a k) x y
  | 0, hs, x, y, hx, hy => by
    refine (mul_one (BdM.pow ha j) ?_ hx hy).symm
    simpa using hs
  | k + 1, hs, x, y, hx, hy => by
    have hs' : M * (j : Nat) + M * (k : Nat) + M < 1152921504606846976 := by
      have : M * ((j + (k + 1) : Nat) : Int) = M * (j : Nat) + M * (k : Nat) + M := by
        rw [show ((j + (k + 1) : Nat) : Int) = (j : Int) + (k : Int) + 1 by omega, Int.mul_add, Int.mul_add]; omega
      omega
    have hs2 : M * ((j + k : Nat) : Int) < 1152921504606846976 := by
      have : M * ((j + k : Nat) : Int) = M * (j : Nat) + M * (k : Nat) := by
        rw [show ((j + k : Nat) : Int) = (j : Int) + (k : Int) by omega, Int.mul_add]
      omega
    have e1 : powf n a (j + (k + 1)) x y = mulf n (mulf n (powf n a j) (powf n a k)) a x y :=
      mul_congr (fun z hz => pow_add ha hM j k hs2 hx hz) (fun _ _ => rfl)
    rw [e1]
    exact mul_assoc (BdM.pow ha j) (BdM.pow ha k) ha hs' (Int.mul_nonneg hM jj) (Int.mul_nonneg hM jj) hM hx hy
def ent (A : List (List Int)) (i j : Nat) : Int := (A.getD i []).getD j 0
def mat (n : Nat) (f : Nat → Nat → Int) : List (List Int) := (List.range n).map fun i => (List.range n).map fun j => f i j
def vec (n : Nat) (f : Nat → Int) : List Int := (List.range n).map f
def IsMat (n : Nat) (A : List (List Int)) : Prop := A.length = n ∧ ∀ i, i < n → (A.getD i []).length = n
theorem vec_length (n : Nat) (f : Nat → Int) : (vec n f).length = n := by simp [vec]
theorem vec_get {n : Nat} (f : Nat → Int) {i : Nat} (hi : i < n) : (vec n f).getD i 0 = f i := by
  simp [vec, List.getD_eq_getElem?_getD, List.getElem?_range hi]
theorem mat_length (n : Nat) (f : Nat → Nat → Int) : (mat n f).length = n := by simp [mat]
theorem mat_get {n : Nat} (f : Nat → Nat → Int) {i : Nat} (hi : i < n) : (mat n f).getD i [] = vec n (f i) := by
  simp [mat, vec, List.getD_eq_getElem?_getD, List.getElem?_range hi]
theorem isMat_mat (n : Nat) (f : Nat → Nat → Int) : IsMat n (mat n f) := ⟨mat_length n f, fun i hi => by rw [mat_get f hi, vec_length]⟩
theorem ent_mat {n : Nat} (f : Nat → Nat → Int) {i j : Nat} (hi : i < n) (hj : j < n) : ent (mat n f) i j = f i j := by
  unfold ent
  rw [mat_get f hi, vec_get _ hj]
theorem vec_ext {n : Nat} {x : List Int} (hx : x.length = n) : vec n (fun i => x.getD i 0) = x := by
  apply List.ext_getElem
  · rw [vec_length, hx]
  · intro i h1 h2
    simp [vec, List.getD_eq_getElem?_getD, List.getElem?_eq_getElem h2]
theorem mat_ext {n : Nat} {A : List (List Int)} (hA : IsMat n A) : mat n (ent A) = A := by
  apply List.ext_getElem
  · rw [mat_length, hA.1]
  · intro i h1 h2
    have hi : i < n := by rw [mat_length] at h1; exact h1
    have e : (A.getD i []) = A[i] := by simp [List.getD_eq_getElem?_getD, List.getElem?_eq_getElem h2]
    have := vec_ext (hA.2 i hi)
    rw [← e, ← this]
    simp [mat, vec, ent]
theorem vec_congr {n : Nat} {f g : Nat → Int} (h : ∀ i, i < n → f i = g i) : vec n f = vec n g := by
  unfold vec
  exact List.map_congr_left fun i hi => h i (by simpa using hi)
theorem mat_congr {n : Nat} {f g : Nat → Nat → Int} (h : ∀ i j, i < n → j < n → f i j = g i j) : mat n f = mat n g := by
  unfold mat
  exact List.map_congr_left fun i hi => List.map_congr_left fun j hj => h i j (by simpa using hi) (by simpa using hj)
structure Wk (n : Nat) (a : Nat → Nat → Int) (v : Nat → Nat) (L : Nat) : Prop where
  lt : ∀ t, t ≤ L → v t < n
  arc : ∀ t, t < L → a (v (t + 1)) (v t) ≠ NEV
def wt (a : Nat → Nat → Int) (v : Nat → Nat) : Nat → Int
  | 0 => 0
  | L + 1 => wt a v L + a (v (L + 1)) (v L)
theorem wt_congr {a : Nat → Nat → Int} {u v : Nat → Nat} {L : Nat} (h : ∀ t, t ≤ L → u t = v t) : wt a u L = wt a v L := by
  induction L with
  | zero => rfl
  | succ L ih => simp only [wt]; rw [ih (fun t ht => h t jj), h (L + 1) jj, h L jj]
theorem wt_add (a : Nat → Nat → Int) (v : Nat → Nat) (p r : Nat) : wt a v (p + r) = wt a v p + wt a (fun t => v (t + p)) r := by
  induction r with
  | zero => simp [wt]
  | succ r ih =>
    show wt a v (p + r) + a (v (p + r + 1)) (v (p + r)) = wt a v p + (wt a (fun t => v (t + p)) r + a (v (r + 1 + p)) (v (r + p)))
    rw [ih, show p + r + 1 = r + 1 + p by omega, show p + r = r + p by omega]; omega
theorem Wk.shift {n : Nat} {a : Nat → Nat → Int} {v : Nat → Nat} {p r : Nat} (h : Wk n a v (p + r)) : Wk n a (fun t => v (t + p)) r :=
  ⟨fun t ht => h.lt (t + p) jj, fun t ht => by have := h.arc (t + p) jj; rw [show t + 1 + p = t + p + 1 by omega]; exact this⟩
theorem Wk.left {n : Nat} {a : Nat → Nat → Int} {v : Nat → Nat} {p L : Nat} (h : Wk n a v L) (hp : p ≤ L) : Wk n a v p :=
  ⟨fun t ht => h.lt t jj, fun t ht => h.arc t jj⟩
theorem wt_bd {n : Nat} {M : Int} {a : Nat → Nat → Int} {v : Nat → Nat} (ha : BdM n n M a) {L : Nat} (h : Wk n a v L) : -(M * (L : Nat)) ≤ wt a v L ∧ wt a v L ≤ M * (L : Nat) := by
  induction L with
  | zero => simp [wt]
  | succ L ih =>
    have h1 := ih (h.left jj)
    have h2 := (ha _ _ (h.lt (L + 1) jj) (h.lt L jj)).resolve_left (h.arc L jj)
    simp only [wt]
    rw [Int.natCast_succ, Int.mul_add]
    omega
theorem pow_ge {n : Nat} {M : Int} {a : Nat → Nat → Int} (ha : BdM n n M a) (hM : 0 ≤ M) : ∀ (L : Nat) (v : Nat → Nat), M * (L : Nat) < 1152921504606846976 → Wk n a v L → wt a v L ≤ powf n a L (v L) (v 0)
  | 0, v, _, h => by simp [wt, powf, onef]
  | L + 1, v, hs, h => by
    have hs' : M * (L : Nat) + M < 1152921504606846976 := by rw [Int.natCast_succ, Int.mul_add] at hs; omega
    have hu : Wk n a (fun t => v (t + 1)) L := Wk.shift (p := 1) (r := L) (by rw [Nat.add_comm]; exact h)
    have e : wt a v (L + 1) = a (v 1) (v 0) + wt a (fun t => v (t + 1)) L := by
      rw [Nat.add_comm L 1, wt_add]; simp [wt]
    have ih := pow_ge ha hM L _ jj hu
    have hb := BdM.pow ha L (v (L + 1)) (v 1) (h.lt _ jj) (h.lt _ jj)
    have hw := wt_bd ha hu
    have h0 := (ha (v 1) (v 0) (h.lt 1 jj) (h.lt 0 jj)).resolve_left (h.arc 0 jj)
    have harc := h.arc 0 jj
    have hL : 0 ≤ M * (L : Nat) := Int.mul_nonneg hM jj
    have hle := le_sup (h := fun k => pl (powf n a L (v (L + 1)) k) (a k (v 0))) (h.lt 1 jj)
    have hn : powf n a L (v (L + 1)) (v 1) ≠ NEV := by
      intro e2
      have : wt a (fun t => v (t + 1)) L ≤ NEV := by rw [← e2]; exact ih
      unfold NEV at this
      omega
    show wt a v (L + 1) ≤ sup (fun k => pl (powf n a L (v (L + 1)) k) (a k (v 0))) n
    refine Int.le_trans ?_ hle
    show wt a v (L + 1) ≤ pl (powf n a L (v (L + 1)) (v 1)) (a (v 1) (v 0))
    unfold pl
    rw [if_neg hn, if_neg harc, e]
    have ih' : wt a (fun t => v (t + 1)) L ≤ powf n a L (v (L + 1)) (v 1) := ih
    omega
theorem pow_att {n : Nat} {a : Nat → Nat → Int} : ∀ (L : Nat) (i j : Nat), i < n → j < n → powf n a L i j ≠ NEV → ∃ v, Wk n a v L ∧ v 0 = j ∧ v L = i ∧ wt a v L = powf n a L i j
  | 0, i, j, hi, hj, h => by
    have e : i = j := by
      by_cases e : i = j
      · exact e
      · exact absurd (by simp [powf, onef, e]) h
    subst e
    exact ⟨fun _ => i, ⟨fun _ _ => hi, fun t ht => by omega⟩, rfl, rfl, by simp [wt, powf, onef]⟩
  | L + 1, i, j, hi, hj, h => by
    rcases sup_mem (fun k => pl (powf n a L i k) (a k j)) n with e | ⟨k, hk, e⟩
    · exact absurd e h
    · have hp : powf n a (L + 1) i j = pl (powf n a L i k) (a k j) := e
      have h1 : powf n a L i k ≠ NEV := fun e1 => h (by rw [hp, e1, pl_nev_left])
      have h2 : a k j ≠ NEV := fun e1 => h (by rw [hp, e1, pl_nev_right])
      obtain ⟨u, hu, u0, uL, uw⟩ := pow_att L i k hi hk h1
      refine ⟨fun t => if t = 0 then j else u (t - 1), ⟨fun t ht => ?_, fun t ht => ?_⟩, by simp, by simp [uL], ?_⟩
      · by_cases e0 : t = 0
        · simp [e0, hj]
        · simp only [e0, if_false]; exact hu.lt (t - 1) jj
      · by_cases e0 : t = 0
        · subst e0; simp [u0, h2]
        · have := hu.arc (t - 1) jj
          simp only [e0, if_false]
          rw [ji, show t + 1 - 1 = t - 1 + 1 by omega]; exact this
      · rw [Nat.add_comm L 1, wt_add, Nat.add_comm 1 L, hp]
        have e1 : wt a (fun t => (fun t => if t = 0 then j else u (t - 1)) (t + 1)) L = wt a u L := wt_congr fun t _ => by simp
        rw [e1, uw]
        unfold pl
        rw [if_neg h1, if_neg h2]
        simp [wt, u0]; omega
theorem php : ∀ (n : Nat) (f : Nat → Nat), (∀ t, t ≤ n → f t < n) → ∃ p q, p < q ∧ q ≤ n ∧ f p = f q
  | 0, f, h => absurd (h 0 jj) jj
  | n + 1, f, h => by
    by_cases he : ∃ t, t ≤ n ∧ f t = f (n + 1)
    · obtain ⟨t, ht, e⟩ := he
      exact ⟨t, n + 1, by omega, by omega, e⟩
    · have hne : ∀ t, t ≤ n → f t ≠ f (n + 1) := fun t ht e => he ⟨t, ht, e⟩
      obtain ⟨p, q, hpq, hq, e⟩ := php n (fun t => if f t = n then f (n + 1) else f t) (fun t ht => by
        have h1 := h t jj; have h2 := h (n + 1) jj; have h3 := hne t ht
        show (if f t = n then f (n + 1) else f t) < n
        split <;> omega)
      refine ⟨p, q, hpq, by omega, ?_⟩
      have h3 := hne p jj; have h4 := hne q hq
      replace e : (if f p = n then f (n + 1) else f p) = (if f q = n then f (n + 1) else f q) := e
      by_cases e1 : f p = n
      · by_cases e2 : f q = n
        · omega
        · rw [if_pos e1, if_neg e2] at e; exact absurd e.symm h4
      · by_cases e2 : f q = n
        · rw [if_neg e1, if_pos e2] at e; exact absurd e h3
        · rw [if_neg e1, if_neg e2] at e; exact e
def cutw (v : Nat → Nat) (p d : Nat) (t : Nat) : Nat := if t ≤ p then v t else v (t + d)
theorem cutw_wk {n : Nat} {a : Nat → Nat → Int} {v : Nat → Nat} {p d r : Nat} (h : Wk n a v (p + d + r)) (e : v p = v (p + d)) : Wk n a (cutw v p d) (p + r) := by
  refine ⟨fun t ht => ?_, fun t ht => ?_⟩
  · unfold cutw; split
    · exact h.lt t jj
    · exact h.lt (t + d) jj
  · unfold cutw
    by_cases h1 : t + 1 ≤ p
    · rw [if_pos h1, jh]; exact h.arc t jj
    · rw [if_neg h1]
      by_cases h2 : t ≤ p
      · obtain rfl : t = p := by omega
        rw [if_pos h2, e, show t + 1 + d = t + d + 1 by omega]; exact h.arc (t + d) jj
      · rw [if_neg h2, show t + 1 + d = t + d + 1 by omega]; exact h.arc (t + d) jj
theorem cutw_wt {a : Nat → Nat → Int} {v : Nat → Nat} {p d r : Nat} (e : v p = v (p + d)) : wt a v (p + d + r) = wt a (cutw v p d) (p + r) + wt a (fun t => v (t + p)) d := by
  have e1 : wt a (cutw v p d) p = wt a v p := wt_congr fun t ht => if_pos ht
  have e2 : wt a (fun t => cutw v p d (t + p)) r = wt a (fun t => v (t + (p + d))) r := wt_congr fun t _ => by
    unfold cutw
    by_cases h : t = 0
    · subst h; rw [jh, Nat.zero_add, Nat.zero_add]; exact e
    · rw [ji, Nat.add_assoc]
  rw [wt_add a v (p + d) r, wt_add a v p d, wt_add a (cutw v p d) p r, e1, e2]; omega
theorem cutw_zero (v : Nat → Nat) (p d : Nat) : cutw v p d 0 = v 0 := jh
theorem cutw_end {v : Nat → Nat} {p d r : Nat} (e : v p = v (p + d)) : cutw v p d (p + r) = v (p + d + r) := by
  unfold cutw
  by_cases h : r = 0
  · subst h; rw [jh]; simpa using e
  · rw [ji]; congr 1; omega
def NoPos (n : Nat) (a : Nat → Nat → Int) : Prop := ∀ k i, 1 ≤ k → k ≤ n → i < n → powf n a k i i ≤ 0
theorem closed_le {n : Nat} {M : Int} {a : Nat → Nat → Int} (ha : BdM n n M a) (hM : 0 ≤ M) (hs : M * (n : Nat) < 1152921504606846976) (hp : NoPos n a) : ∀ (L : Nat) (v : Nat → Nat), Wk n a v L → v 0 = v L → wt a v L ≤ 0 := by
  intro L
  induction L using Nat.strongRecOn with
  | ind L ih =>
    intro v h e
    by_cases h0 : L = 0
    · subst h0; simp [wt]
    · by_cases hn : L ≤ n
      · have h1 := pow_ge ha hM L v (Int.lt_of_le_of_lt (Int.mul_le_mul_of_nonneg_left jj hM) hs) h
        rw [e] at h1
        exact Int.le_trans h1 (hp L (v L) jj hn (h.lt L jj))
      · obtain ⟨p, q, hpq, hq, epq⟩ := php n v (fun t ht => h.lt t jj)
        obtain ⟨d, rfl⟩ : ∃ d, q = p + d := ⟨q - p, by omega⟩
        obtain ⟨r, rfl⟩ : ∃ r, L = p + d + r := ⟨L - (p + d), by omega⟩
        have h1 := ih (p + r) jj (cutw v p d) (cutw_wk h epq) (by rw [cutw_zero, cutw_end epq]; exact e)
        have hm : Wk n a (fun t => v (t + p)) d := Wk.shift (h.left jj)
        have h2 := ih d jj (fun t => v (t + p)) hm (by show v (0 + p) = v (d + p); rw [Nat.zero_add, Nat.add_comm d p]; exact epq)
        rw [cutw_wt epq]
        omega
theorem pl_mono {M M' N N' x x' y y' : Int} (hx : Bd M x) (hx' : Bd M' x') (hy : Bd N y) (hy' : Bd N' y') (hs : M + M' + N + N' < 1152921504606846976 ∧ 0 ≤ M ∧ 0 ≤ M' ∧ 0 ≤ N ∧ 0 ≤ N') (h1 : x ≤ x') (h2 : y ≤ y') : pl x y ≤ pl x' y' := by
  have hg := (hx'.pl hy').ge jj
  revert hg
  unfold Bd at *
  unfold pl
  by_cases e1 : x = NEV
  · rw [if_pos e1]; exact fun h => h
  · by_cases e2 : y = NEV
    · rw [if_neg e1, if_pos e2]; exact fun h => h
    · unfold NEV at *
      rw [if_neg e1, if_neg e2, ji, ji]
      omega
def fw0 (a : Nat → Nat → Int) (i j : Nat) : Int := max (onef i j) (a i j)
def fwk (a : Nat → Nat → Int) : Nat → Nat → Nat → Int
  | 0 => fw0 a
  | k + 1 => fun i j => max (fwk a k i j) (pl (fwk a k i k) (fwk a k k j))
def Att (n : Nat) (a : Nat → Nat → Int) (i j : Nat) (x : Int) : Prop := x = NEV ∨ ∃ L v, Wk n a v L ∧ v 0 = j ∧ v L = i ∧ wt a v L = x
theorem Att.pl {n : Nat} {a : Nat → Nat → Int} {i k j : Nat} {x y : Int} (hx : Att n a i k x) (hy : Att n a k j y) : Att n a i j (pl x y) := by
  rcases hx with rfl | ⟨L, v, hv, v0, vL, vw⟩
  · exact .inl (pl_nev_left _)
  rcases hy with rfl | ⟨K, u, hu, u0, uK, uw⟩
  · exact .inl (pl_nev_right _)
  by_cases hx : x = NEV
  · exact .inl (by rw [hx, pl_nev_left])
  by_cases hy : y = NEV
  · exact .inl (by rw [hy, pl_nev_right])
  refine .inr ⟨K + L, fun t => if t ≤ K then u t else v (t - K), ⟨fun t ht => ?_, fun t ht => ?_⟩, by simp [u0], ?_, ?_⟩
  · by_cases h : t ≤ K
    · simp only [h, if_true]; exact hu.lt t h
    · simp only [h, if_false]; exact hv.lt (t - K) jj
  · by_cases h : t + 1 ≤ K
    · simp only [h, if_true]; rw [jh]; exact hu.arc t jj
    · simp only [h, if_false]
      by_cases h2 : t ≤ K
      · obtain rfl : t = K := by omega
        rw [if_pos h2, uK, ← v0, show t + 1 - t = 0 + 1 by omega]; exact hv.arc 0 jj
      · rw [if_neg h2, show t + 1 - K = t - K + 1 by omega]; exact hv.arc (t - K) jj
  · by_cases h : L = 0
    · subst h; simp [uK, ← v0, vL]
    · simp only [show ¬ K + L ≤ K by omega, if_false]; rw [show K + L - K = L by omega]; exact vL
  · rw [wt_add]
    have e1 : wt a (fun t => if t ≤ K then u t else v (t - K)) K = wt a u K := wt_congr fun t ht => if_pos ht
    have e2 : wt a (fun t => (fun t => if t ≤ K then u t else v (t - K)) (t + K)) L = wt a v L := wt_congr fun t _ => by
      by_cases h : t = 0
      · subst h; simp [uK, v0]
      · simp only [show ¬ t + K ≤ K by omega, if_false]; congr 1; omega
    rw [e1, e2, uw, vw]
    unfold Mp.pl
    rw [if_neg hx, if_neg hy]; omega
theorem Att.max {n : Nat} {a : Nat → Nat → Int} {i j : Nat} {x y : Int} (hx : Att n a i j x) (hy : Att n a i j y) : Att n a i j (max x y) := by
  by_cases h : y ≤ x
  · rw [Int.max_eq_left h]; exact hx
  · rw [Int.max_eq_right jj]; exact hy
theorem fw0_att {n : Nat} {a : Nat → Nat → Int} {i j : Nat} (hi : i < n) (hj : j < n) : Att n a i j (fw0 a i j) := by
  refine Att.max ?_ ?_
  · unfold onef
    by_cases e : i = j
    · subst e
      rw [if_pos rfl]
      exact .inr ⟨0, fun _ => i, ⟨fun _ _ => hi, fun t ht => by omega⟩, rfl, rfl, rfl⟩
    · rw [if_neg e]; exact .inl rfl
  · by_cases h : a i j = NEV
    · exact .inl h
    · refine .inr ⟨1, fun t => if t = 0 then j else i, ⟨fun t ht => ?_, fun t ht => ?_⟩, by simp, by simp, by simp [wt]⟩
      · by_cases e : t = 0
        · simp only [e, if_true]; exact hj
        · simp only [e, if_false]; exact hi
      · obtain rfl : t = 0 := by omega
        simpa using h
theorem fwk_att {n : Nat} {a : Nat → Nat → Int} : ∀ k, k ≤ n → ∀ i j, i < n → j < n → Att n a i j (fwk a k i j)
  | 0, _, _, _, hi, hj => fw0_att hi hj
  | k + 1, hk, i, j, hi, hj => Att.max (fwk_att k jj i j hi hj) (Att.pl (fwk_att k jj i k hi jj) (fwk_att k jj k j jj hj))
theorem fwk_mono (a : Nat → Nat → Int) (i j : Nat) : ∀ k, fw0 a i j ≤ fwk a k i j
  | 0 => Int.le_refl _
  | k + 1 => by have := fwk_mono a i j k; simp only [fwk]; omega
theorem Bd.max {M x y : Int} (hx : Bd M x) (hy : Bd M y) : Bd M (max x y) := by
  by_cases h : y ≤ x
  · rw [Int.max_eq_left h]; exact hx
  · rw [Int.max_eq_right jj]; exact hy
theorem fwk_bd {n : Nat} {M : Int} {a : Nat → Nat → Int} (ha : BdM n n M a) (hM : 0 ≤ M) : ∀ k, k ≤ n → BdM n n (M * (2 ^ k : Nat)) (fwk a k)
  | 0, _ => fun i j hi hj => Bd.max ((BdM.one n i j hi hj).mono (by simpa using hM)) ((ha i j hi hj).mono (by simp))
  | k + 1, hk => fun i j hi hj => by
    have ih := fwk_bd ha hM k jj
    have e : M * ((2 ^ (k + 1) : Nat) : Int) = M * (2 ^ k : Nat) + M * (2 ^ k : Nat) := by
      rw [Nat.pow_succ, Nat.mul_two, Int.natCast_add, Int.mul_add]
    have h0 : 0 ≤ M * ((2 ^ k : Nat) : Int) := Int.mul_nonneg hM (Int.natCast_nonneg _)
    rw [e]
    revert ih h0
    generalize M * ((2 ^ k : Nat) : Int) = P
    intro ih h0
    exact Bd.max ((ih i j hi hj).mono jj) ((ih i k hi jj).pl (ih k j jj hj))
section
variable {n : Nat} {M : Int} {a : Nat → Nat → Int}
theorem fwk_diag (ha : BdM n n M a) (hM : 0 ≤ M) (hs : M * (n : Nat) < 1152921504606846976) (hp : NoPos n a) {k : Nat} (hk : k ≤ n) {i : Nat} (hi : i < n) : fwk a k i i = 0 := by
  have h1 : 0 ≤ fwk a k i i := Int.le_trans (by unfold fw0 onef; rw [if_pos rfl]; omega) (fwk_mono a i i k)
  rcases fwk_att (a := a) k hk i i hi hi with e | ⟨L, v, hv, v0, vL, vw⟩
  · rw [e] at h1; exact absurd h1 (by decide)
  · have := closed_le ha hM hs hp L v hv (by rw [v0, vL])
    omega
theorem fwk_tr (ha : BdM n n M a) (hM : 0 ≤ M) (hs : M * (n : Nat) < 1152921504606846976) (hp : NoPos n a) (h2 : M * (2 ^ n : Nat) < 100000000000000000) : ∀ k, k ≤ n → ∀ m, m < k → ∀ i j, i < n → j < n → pl (fwk a k i m) (fwk a k m j) ≤ fwk a k i j := by
  intro k
  induction k with
  | zero => intro _ m hm; omega
  | succ k ih =>
    intro hk m hm i j hi hj
    have B : ∀ i j, i < n → j < n → Bd 100000000000000000 (fwk a k i j) := fun i j hi hj => (fwk_bd ha hM k jj i j hi hj).mono
      (Int.le_of_lt (Int.lt_of_le_of_lt (Int.mul_le_mul_of_nonneg_left (by exact_mod_cast Nat.pow_le_pow_right jj jj) hM) h2))
    have hkk := fwk_diag ha hM hs hp (k := k) jj (i := k) jj
    have bik := B i k hi jj
    have bkj := B k j jj hj
    have bij := B i j hi hj
    simp only [fwk]
    by_cases e : m = k
    · subst e
      rw [hkk]
      have : pl (max (fwk a m i m) (pl (fwk a m i m) 0)) (max (fwk a m m j) (pl 0 (fwk a m m j))) = pl (fwk a m i m) (fwk a m m j) := by
        unfold Bd pl NEV at *
        repeat' split <;> omega
      rw [this]; omega
    · have bim := B i m hi jj
      have bmj := B m j jj hj
      have bkm := B k m jj jj
      have bmk := B m k jj jj
      have t1 := ih jj m jj i j hi hj
      have t2 := ih jj m jj k j jj hj
      have t3 := ih jj m jj i k hi jj
      have t4 := ih jj m jj k k jj jj
      rw [hkk] at t4
      revert bik bkj bij bim bmj bkm bmk t1 t2 t3 t4
      generalize fwk a k i k = x1
      generalize fwk a k k j = x2
      generalize fwk a k i j = x3
      generalize fwk a k i m = x4
      generalize fwk a k m j = x5
      generalize fwk a k k m = x6
      generalize fwk a k m k = x7
      clear hkk B ih
      intro bik bkj bij bim bmj bkm bmk t1 t2 t3 t4
      have b16 := bik.pl bkm
      have b72 := bmk.pl bkj
      have b12 := bik.pl bkj
      have bR : Bd 200000000000000000 (max x5 (pl x7 x2)) := Bd.max (bmj.mono jj) (b72.mono jj)
      rw [pl_max_left (M := 200000000000000000) (bim.mono jj) (b16.mono jj) bR jj jj jj,
        pl_max_right (M := 200000000000000000) (N := 200000000000000000) (bmj.mono jj) (b72.mono jj) (bim.mono jj) jj jj jj,
        pl_max_right (M := 200000000000000000) (N := 200000000000000000) (bmj.mono jj) (b72.mono jj) (b16.mono jj) jj jj jj]
      have u1 : pl x4 (pl x7 x2) ≤ pl x1 x2 := by
        rw [← pl_assoc bim bmk bkj jj jj jj jj]
        exact pl_mono (bim.pl bmk) bik bkj bkj jj t3 (Int.le_refl _)
      have u2 : pl (pl x1 x6) x5 ≤ pl x1 x2 := by
        rw [pl_assoc bik bkm bmj jj jj jj jj]
        exact pl_mono bik bik (bkm.pl bmj) bkj jj (Int.le_refl _) t2
      have u3 : pl (pl x1 x6) (pl x7 x2) ≤ pl x1 x2 := by
        rw [pl_assoc bik bkm b72 jj jj jj jj, ← pl_assoc bkm bmk bkj jj jj jj jj]
        have z : pl (pl x6 x7) x2 ≤ x2 := by
          have := pl_mono (bkm.pl bmk) (.inr jj : Bd 100000000000000000 (0 : Int)) bkj bkj jj t4 (Int.le_refl _)
          have e0 : pl 0 x2 = x2 := by
            unfold pl
            rw [if_neg (by decide)]
            split <;> omega
          rw [e0] at this; exact this
        exact pl_mono bik bik ((bkm.pl bmk).pl bkj) bkj jj (Int.le_refl _) z
      omega
end
section
variable {n : Nat} {M : Int} {a : Nat → Nat → Int}
theorem star_bd (ha : BdM n n M a) (hM : 0 ≤ M) (h2 : M * (2 ^ n : Nat) < 100000000000000000) : BdM n n 100000000000000000 (fwk a n) := fun i j hi hj => (fwk_bd ha hM n jj i j hi hj).mono jj
theorem arc_star (i j : Nat) : a i j ≤ fwk a n i j := Int.le_trans (by unfold fw0; omega) (fwk_mono a i j n)
theorem star_step (ha : BdM n n M a) (hM : 0 ≤ M) (hs : M * (n : Nat) < 1152921504606846976) (hp : NoPos n a) (h2 : M * (2 ^ n : Nat) < 100000000000000000) (hM2 : M < 100000000000000000) (i k j : Nat) (hi : i < n) (hk : k < n) (hj : j < n) : pl (a i k) (fwk a n k j) ≤ fwk a n i j := by
  have B := star_bd ha hM h2
  exact Int.le_trans (pl_mono ((ha i k hi hk).mono (Int.le_of_lt hM2)) (B i k hi hk) (B k j hk hj) (B k j hk hj) jj (arc_star i k) (Int.le_refl _)) (fwk_tr ha hM hs hp h2 n jj k hk i j hi hj)
theorem walk_star (ha : BdM n n M a) (hM : 0 ≤ M) (hs : M * (n : Nat) < 1152921504606846976) (hp : NoPos n a) (h2 : M * (2 ^ n : Nat) < 100000000000000000) (hM2 : M < 100000000000000000) {v : Nat → Nat} : ∀ L, Wk n a v L → fwk a n (v L) (v 0) ≠ NEV ∧ wt a v L ≤ fwk a n (v L) (v 0) := by
  intro L
  induction L with
  | zero =>
    intro h
    rw [fwk_diag ha hM hs hp jj (h.lt 0 jj)]
    exact ⟨by decide, Int.le_refl _⟩
  | succ L ih =>
    intro h
    have i1 := ih (h.left jj)
    have hstep := star_step ha hM hs hp h2 hM2 (v (L + 1)) (v L) (v 0) (h.lt _ jj) (h.lt _ jj) (h.lt _ jj)
    have harc := h.arc L jj
    have b1 := ha (v (L + 1)) (v L) (h.lt _ jj) (h.lt _ jj)
    have b2 := star_bd ha hM h2 (v L) (v 0) (h.lt _ jj) (h.lt _ jj)
    have b3 := star_bd ha hM h2 (v (L + 1)) (v 0) (h.lt _ jj) (h.lt _ jj)
    rw [show pl (a (v (L + 1)) (v L)) (fwk a n (v L) (v 0)) = a (v (L + 1)) (v L) + fwk a n (v L) (v 0) by unfold pl; rw [if_neg harc, if_neg i1.1]] at hstep
    have n1 : (NEV : Int) = -1152921504606846976 := rfl
    have c1 := b1.resolve_left harc
    have c2 := b2.resolve_left i1.1
    refine ⟨fun e => ?_, ?_⟩
    · rw [e] at hstep; omega
    · show wt a v L + a (v (L + 1)) (v L) ≤ _
      have := i1.2
      omega
end
structure Eig (n : Nat) (s : Nat → Nat → Int) (v : Nat → Int) : Prop where
  le : ∀ i k, i < n → k < n → s i k ≠ NEV → s i k + v k ≤ v i
  at_ : ∀ i, i < n → ∃ k, k < n ∧ s i k ≠ NEV ∧ s i k + v k = v i
section
variable {n : Nat} {M : Int} {a : Nat → Nat → Int}
end
def Go (n : Nat) (a : Nat → Nat → Int) (j i L : Nat) (x : Int) : Prop := ∃ v, Wk n a v L ∧ v 0 = j ∧ v L = i ∧ wt a v L = x
theorem Go.nil {n : Nat} {a : Nat → Nat → Int} {i : Nat} (hi : i < n) : Go n a i i 0 0 := ⟨fun _ => i, ⟨fun _ _ => hi, fun t ht => by omega⟩, rfl, rfl, rfl⟩
theorem Go.cat {n : Nat} {a : Nat → Nat → Int} {j k i K L : Nat} {x y : Int} (h1 : Go n a j k K x) (h2 : Go n a k i L y) : Go n a j i (K + L) (x + y) := by
  obtain ⟨u, hu, u0, uK, uw⟩ := h1
  obtain ⟨v, hv, v0, vL, vw⟩ := h2
  refine ⟨fun t => if t ≤ K then u t else v (t - K), ⟨fun t ht => ?_, fun t ht => ?_⟩, by simp [u0], ?_, ?_⟩
  · by_cases h : t ≤ K
    · simp only [h, if_true]; exact hu.lt t h
    · simp only [h, if_false]; exact hv.lt (t - K) jj
  · by_cases h : t + 1 ≤ K
    · simp only [h, if_true]; rw [jh]; exact hu.arc t jj
    · simp only [h, if_false]
      by_cases h2 : t ≤ K
      · obtain rfl : t = K := by omega
        rw [if_pos h2, uK, ← v0, show t + 1 - t = 0 + 1 by omega]; exact hv.arc 0 jj
      · rw [if_neg h2, show t + 1 - K = t - K + 1 by omega]; exact hv.arc (t - K) jj
  · by_cases h : L = 0
    · subst h; simp [uK, ← v0, vL]
    · simp only [show ¬ K + L ≤ K by omega, if_false]; rw [show K + L - K = L by omega]; exact vL
  · rw [wt_add]
    have e1 : wt a (fun t => if t ≤ K then u t else v (t - K)) K = wt a u K := wt_congr fun t ht => if_pos ht
    have e2 : wt a (fun t => (fun t => if t ≤ K then u t else v (t - K)) (t + K)) L = wt a v L := wt_congr fun t _ => by
      by_cases h : t = 0
      · subst h; simp [uK, v0]
      · simp only [show ¬ t + K ≤ K by omega, if_false]; congr 1; omega
    rw [e1, e2, uw, vw]
section
variable {n : Nat} {M : Int} {a : Nat → Nat → Int}
theorem Go.closed (ha : BdM n n M a) (hM : 0 ≤ M) (hs : M * (n : Nat) < 1152921504606846976) (hp : NoPos n a) {i L : Nat} {x : Int} (h : Go n a i i L x) : x ≤ 0 := by
  obtain ⟨v, hv, v0, vL, rfl⟩ := h
  exact closed_le ha hM hs hp L v hv (by rw [v0, vL])
theorem Go.le_pow (ha : BdM n n M a) (hM : 0 ≤ M) {j i L : Nat} {x : Int} (hs : M * (L : Nat) < 1152921504606846976) (h : Go n a j i L x) : powf n a L i j ≠ NEV ∧ x ≤ powf n a L i j := by
  obtain ⟨v, hv, rfl, rfl, rfl⟩ := h
  have h1 := pow_ge ha hM L v hs hv
  have h2 := wt_bd ha hv
  have n1 : (NEV : Int) = -1152921504606846976 := rfl
  exact ⟨fun e => by rw [e] at h1; omega, h1⟩
end
def Z (n : Nat) (a : Nat → Nat → Int) (u L : Nat) : Prop := Go n a u u L 0
def OnZ (n : Nat) (a : Nat → Nat → Int) (u : Nat) : Prop := ∃ L, 1 ≤ L ∧ Z n a u L
structure IsPer (n : Nat) (a : Nat → Nat → Int) (c : Nat) : Prop where
  pos : 1 ≤ c
  iff : ∀ x, c ∣ x ↔ ∀ u, OnZ n a u → ∀ d, (∀ L, Z n a u L → d ∣ L) → d ∣ x
theorem least_nat {P : Nat → Prop} : (∃ r, P r) → ∃ r, P r ∧ ∀ s, s < r → ¬ P s := by
  intro ⟨r, hr⟩
  induction r using Nat.strongRecOn with
  | ind r ih =>
    by_cases h : ∃ s, s < r ∧ P s
    · obtain ⟨s, h1, h2⟩ := h; exact ih s h1 h2
    · exact ⟨r, hr, fun s h1 h2 => h ⟨s, h1, h2⟩⟩
section
variable {n : Nat} {a : Nat → Nat → Int}
end
section
variable {n : Nat} {a : Nat → Nat → Int}
end
structure Pre (n : Nat) (a : Nat → Nat → Int) (w : List Nat) : Prop where
  ne : 0 < w.length
  lt : ∀ t, t < w.length → w.getD t 0 < n
  inj : ∀ s t, s < w.length → t < w.length → w.getD s 0 = w.getD t 0 → s = t
  low : ∀ t, t < w.length → w.getD 0 0 ≤ w.getD t 0
  arc : ∀ t, t + 1 < w.length → a (w.getD (t + 1) 0) (w.getD t 0) ≠ NEV
structure Cy (n : Nat) (a : Nat → Nat → Int) (w : List Nat) : Prop where
  pre : Pre n a w
  last : a (w.getD 0 0) (w.getD (w.length - 1) 0) ≠ NEV
def cyc (c : List Nat) (t : Nat) : Nat := c.getD (t % c.length) 0
theorem cyc_lt {c : List Nat} {t : Nat} (h : t < c.length) : cyc c t = c.getD t 0 := by unfold cyc; rw [Nat.mod_eq_of_lt h]
theorem cyc_len {c : List Nat} : cyc c c.length = c.getD 0 0 := by unfold cyc; rw [Nat.mod_self]
theorem cyc_zero (c : List Nat) : cyc c 0 = c.getD 0 0 := by unfold cyc; rw [Nat.zero_mod]
theorem getD_append_left' {w x : List Nat} {t : Nat} (h : t < w.length) : (w ++ x).getD t 0 = w.getD t 0 := by
  rw [List.getD_eq_getElem?_getD, List.getD_eq_getElem?_getD, List.getElem?_append_left h]
theorem getD_append_at {w : List Nat} {x : Nat} {y : List Nat} : (w ++ x :: y).getD w.length 0 = x := by
  rw [List.getD_eq_getElem?_getD, List.getElem?_append_right (Nat.le_refl _), Nat.sub_self]; rfl
section
variable {n : Nat} {a : Nat → Nat → Int}
theorem Cy.wk {c : List Nat} (h : Cy n a c) : Wk n a (cyc c) c.length := by
  have hp := h.pre
  refine ⟨fun t _ => hp.lt _ (Nat.mod_lt _ hp.ne), fun t ht => ?_⟩
  rw [cyc_lt ht]
  by_cases e : t + 1 < c.length
  · rw [cyc_lt e]; exact hp.arc t e
  · have e2 : t + 1 = c.length := by omega
    rw [e2, cyc_len]
    have := h.last
    rwa [show c.length - 1 = t by omega] at this
theorem Cy.len {c : List Nat} (h : Cy n a c) : c.length ≤ n := by
  by_cases e : c.length ≤ n
  · exact e
  · obtain ⟨p, q, hpq, hq, he⟩ := php n (fun t => c.getD t 0) (fun t ht => h.pre.lt t jj)
    have := h.pre.inj p q jj jj he
    omega
theorem Pre.snoc {w : List Nat} (h : Pre n a w) {x : Nat} (hx : x < n) (h1 : w.getD 0 0 ≤ x) (h2 : ∀ t, t < w.length → w.getD t 0 ≠ x) (h3 : a x (w.getD (w.length - 1) 0) ≠ NEV) : Pre n a (w ++ [x]) := by
  have l : (w ++ [x]).length = w.length + 1 := by simp
  have g1 : ∀ t, t < w.length → (w ++ [x]).getD t 0 = w.getD t 0 := fun t ht => getD_append_left' ht
  have g2 : (w ++ [x]).getD w.length 0 = x := getD_append_at
  have ne := h.ne
  refine ⟨by omega, fun t ht => ?_, fun s t hs ht e => ?_, fun t ht => ?_, fun t ht => ?_⟩
  · by_cases e : t < w.length
    · rw [g1 t e]; exact h.lt t e
    · rw [show t = w.length by omega, g2]; exact hx
  · by_cases e1 : s < w.length
    · by_cases e2 : t < w.length
      · rw [g1 s e1, g1 t e2] at e; exact h.inj s t e1 e2 e
      · rw [g1 s e1, show t = w.length by omega, g2] at e; exact absurd e (h2 s e1)
    · by_cases e2 : t < w.length
      · rw [g1 t e2, show s = w.length by omega, g2] at e; exact absurd e.symm (h2 t e2)
      · omega
  · rw [g1 0 ne]
    by_cases e : t < w.length
    · rw [g1 t e]; exact h.low t e
    · rw [show t = w.length by omega, g2]; exact h1
  · by_cases e : t + 1 < w.length
    · rw [g1 _ e, g1 t jj]; exact h.arc t e
    · rw [show t + 1 = w.length by omega, g2, g1 t jj]
      rwa [show w.length - 1 = t by omega] at h3
def rot (v : Nat → Nat) (L m : Nat) (t : Nat) : Nat := v ((t + m) % L)
theorem rot_wt {v : Nat → Nat} {L m : Nat} (hm : m < L) (e : v 0 = v L) : wt a (rot v L m) L = wt a v L := by
  obtain ⟨r, rfl⟩ : ∃ r, L = m + r := ⟨L - m, by omega⟩
  have e1 : wt a (rot v (m + r) m) r = wt a (fun t => v (t + m)) r := wt_congr fun t ht => by
    unfold rot
    by_cases h : t = r
    · subst h; rw [Nat.add_comm t m, Nat.mod_self, e]
    · rw [Nat.mod_eq_of_lt jj]
  have e2 : wt a (fun t => rot v (m + r) m (t + r)) m = wt a v m := wt_congr fun t ht => by
    show v ((t + r + m) % (m + r)) = v t
    rw [show t + r + m = t + (m + r) by omega, Nat.add_mod_right, Nat.mod_eq_of_lt jj]
  rw [Nat.add_comm m r, wt_add, Nat.add_comm r m, e1, e2, wt_add a v m r]
  omega
theorem rot_wk {v : Nat → Nat} {L m : Nat} (h : Wk n a v L) (hL : 1 ≤ L) (e : v 0 = v L) : Wk n a (rot v L m) L := by
  refine ⟨fun t _ => h.lt _ (Nat.le_of_lt (Nat.mod_lt _ hL)), fun t _ => ?_⟩
  unfold rot
  have hlt : (t + m) % L < L := Nat.mod_lt _ hL
  rw [show t + 1 + m = (t + m) + 1 by omega, Nat.add_mod]
  by_cases e1 : (t + m) % L + 1 < L
  · have : ((t + m) % L + 1 % L) % L = (t + m) % L + 1 := by
      rw [Nat.mod_eq_of_lt (show 1 < L by omega), Nat.mod_eq_of_lt e1]
    rw [this]
    exact h.arc _ hlt
  · have e2 : (t + m) % L + 1 = L := by omega
    have : ((t + m) % L + 1 % L) % L = 0 := by
      by_cases h1 : L = 1
      · subst h1; omega
      · rw [Nat.mod_eq_of_lt (show 1 < L by omega), e2, Nat.mod_self]
    rw [this, e, show (L : Nat) = (t + m) % L + 1 from e2.symm]
    have := h.arc _ hlt
    rw [← e2] at this
    simpa [e2] using this
end
section
variable {n : Nat} {a : Nat → Nat → Int}
theorem cy_of {v : Nat → Nat} {L : Nat} (h : Wk n a v L) (hL : 1 ≤ L) (e : v 0 = v L) (hd : ∀ s t, s < L → t < L → v s = v t → s = t) :
    ∃ c, Cy n a c ∧ c.length = L ∧ wt a (cyc c) L = wt a v L ∧ ∀ t, t < L → ∃ s, s < L ∧ c.getD s 0 = v t := by
  obtain ⟨x, ⟨m, hm, hx⟩, hmin⟩ := least_nat (P := fun x => ∃ m, m < L ∧ v m = x) ⟨v 0, 0, by omega, rfl⟩
  have hle : ∀ t, t < L → v m ≤ v t := fun t ht => by
    by_cases e1 : v m ≤ v t
    · exact e1
    · exact absurd ⟨t, ht, rfl⟩ (hmin (v t) jj)
  have lc : ((List.range L).map (rot v L m)).length = L := by simp
  have gc : ∀ t, t < L → ((List.range L).map (rot v L m)).getD t 0 = rot v L m t := fun t ht => by
    rw [List.getD_eq_getElem?_getD, List.getElem?_map, List.getElem?_range ht]; rfl
  have hw := rot_wk (m := m) h hL e
  have hlt : ∀ t, (t + m) % L < L := fun t => Nat.mod_lt _ hL
  have r0 : rot v L m 0 = v m := by unfold rot; rw [Nat.zero_add, Nat.mod_eq_of_lt hm]
  have rL : rot v L m L = rot v L m 0 := by unfold rot; rw [Nat.zero_add, Nat.add_mod_left]
  refine ⟨(List.range L).map (rot v L m), ⟨⟨by omega, fun t ht => ?_, fun s t hs ht he => ?_, fun t ht => ?_, fun t ht => ?_⟩, ?_⟩, lc, ?_, fun t ht => ?_⟩
  · rw [lc] at ht; rw [gc t ht]; exact hw.lt t jj
  · rw [lc] at hs ht
    rw [gc s hs, gc t ht] at he
    have := hd _ _ (hlt s) (hlt t) he
    have e1 : (s + m) % L = if s + m < L then s + m else s + m - L := by
      by_cases h1 : s + m < L
      · rw [if_pos h1, Nat.mod_eq_of_lt h1]
      · rw [if_neg h1, Nat.mod_eq_sub_mod jj, Nat.mod_eq_of_lt jj]
    have e2 : (t + m) % L = if t + m < L then t + m else t + m - L := by
      by_cases h1 : t + m < L
      · rw [if_pos h1, Nat.mod_eq_of_lt h1]
      · rw [if_neg h1, Nat.mod_eq_sub_mod jj, Nat.mod_eq_of_lt jj]
    rw [e1, e2] at this
    split at this <;> split at this <;> omega
  · rw [lc] at ht
    rw [gc t ht, gc 0 jj, r0]
    exact hle _ (hlt t)
  · rw [lc] at ht
    rw [gc _ ht, gc t jj]
    exact hw.arc t jj
  · rw [lc, gc 0 jj, gc (L - 1) jj, ← rL]
    have := hw.arc (L - 1) jj
    rwa [show L - 1 + 1 = L by omega] at this
  · rw [← rot_wt hm e]
    refine wt_congr fun t ht => ?_
    by_cases e1 : t = L
    · have := cyc_len (c := (List.range L).map (rot v L m))
      rw [lc] at this
      rw [e1, this, gc 0 jj, rL]
    · rw [cyc_lt jj, gc t jj]
  · by_cases h1 : m ≤ t
    · refine ⟨t - m, by omega, ?_⟩
      rw [gc _ jj]
      unfold rot
      rw [Nat.sub_add_cancel h1, Nat.mod_eq_of_lt ht]
    · refine ⟨t + L - m, by omega, ?_⟩
      rw [gc _ jj]
      unfold rot
      rw [show t + L - m + m = t + L by omega, Nat.add_mod_right, Nat.mod_eq_of_lt ht]
theorem closed_cases {v : Nat → Nat} {L : Nat} :
    (∀ s t, s < L → t < L → v s = v t → s = t) ∨ ∃ p d r, L = p + d + r ∧ 1 ≤ d ∧ 1 ≤ p + r ∧ v p = v (p + d) := by
  by_cases hd : ∀ s t, s < L → t < L → v s = v t → s = t
  · exact .inl hd
  · right
    have : ∃ s t, s < t ∧ t < L ∧ v s = v t := by
      by_cases h1 : ∃ s t, s < t ∧ t < L ∧ v s = v t
      · exact h1
      · exfalso
        apply hd
        intro s t hs ht he
        by_cases h2 : s < t
        · exact absurd ⟨s, t, h2, ht, he⟩ h1
        · by_cases h3 : t < s
          · exact absurd ⟨t, s, h3, hs, he.symm⟩ h1
          · omega
    obtain ⟨s, t, hst, ht, he⟩ := this
    exact ⟨s, t - s, L - t, by omega, by omega, by omega, by rw [show s + (t - s) = t by omega]; exact he⟩
theorem mean_le {num den : Int} (hc : ∀ c, Cy n a c → wt a (cyc c) c.length * den ≤ num * (c.length : Nat)) : ∀ (L : Nat) (v : Nat → Nat), Wk n a v L → v 0 = v L → wt a v L * den ≤ num * (L : Nat) := by
  intro L
  induction L using Nat.strongRecOn with
  | ind L ih =>
    intro v h e
    by_cases h0 : L = 0
    · subst h0; simp [wt]
    rcases closed_cases (v := v) (L := L) with hd | ⟨p, d, r, rfl, hd1, hpr, ev⟩
    · obtain ⟨c, hcy, hl, hw, _⟩ := cy_of h jj e hd
      have := hc c hcy
      rwa [hl, hw] at this
    · have hm : Wk n a (fun t => v (t + p)) d := Wk.shift (h.left jj)
      have h1 := ih (p + r) jj (cutw v p d) (cutw_wk h ev) (by rw [cutw_zero, cutw_end ev]; exact e)
      have h2 := ih d jj (fun t => v (t + p)) hm (by show v (0 + p) = v (d + p); rw [Nat.zero_add, Nat.add_comm d p]; exact ev)
      rw [cutw_wt ev, Int.add_mul, show ((p + d + r : Nat) : Int) = ((p + r : Nat) : Int) + ((d : Nat) : Int) by omega, Int.mul_add]
      omega
end
end Go.Proofs.Ythjmfbmffchicaa.Mp
end
section
namespace Go.Proofs.Ythjmfbmffchicaa.Pure
open Go.RowKit Go.Proofs.Ythjmfbmffchicaa.V Go.Proofs.YthjmfbmffchicaaW.PrintWords Go.Proofs.YthjmfbmffchicaaW.PrintLast Go.Proofs.YthjmfbmffchicaaW.PrintMore Go.Proofs.Ythjmfbmffchicaa.Mp
theorem wr {x : Int} (h : -9223372036854775808 ≤ x) (h' : x ≤ 9223372036854775807) : wrap64 x = x := by unfold wrap64; omega
theorem wr1 (i : Nat) (h : i < 9223372036854775807) : wrap64 ((i : Int) + 1) = ((i + 1 : Nat) : Int) := by unfold wrap64; omega
theorem rdL (xs : List (List Int)) (i : Nat) : rd_L1 xs (i : Int) = xs.getD i [] := rfl
theorem rdI (xs : List Int) (i : Nat) : rd xs (i : Int) = xs.getD i 0 := rfl
theorem toN (i : Nat) : ((i : Int)).toNat = i := rfl
theorem mx_max (a b : Int) : mx a b = max a b := by unfold mx; split <;> omega
theorem ev_now {α : Type} {g : Nat → Option α} {r : α} (h : ∀ k, g (k + 1) = some r) : Ev g r := Ev.step (f := fun _ => some r) h (Ev.now r)
theorem ev_some {α : Type} {g : Nat → Option α} {r : α} (h : ∀ k, g k = some r) : Ev g r := Ev.congr h (Ev.now r)
theorem both_f {M N a b : Int} (ha : Bd M a) (hb : Bd N b) (h : M + N < 1152921504606846976) (hM : 0 ≤ M) (hN : 0 ≤ N) : line_both_int.f a b = some (pl a b) := by
  unfold line_both_int.f line_never_int.f pl NEV
  simp only [Option.bind_some]
  split
  · rfl
  · split
    · rfl
    · unfold Bd NEV at ha hb
      rw [wr jj jj]
def part (n : Nat) (f : Nat → Nat → Int) (i : Nat) : List (List Int) := (List.range n).map fun a => if a < i then vec n (f a) else []
def part2 (n : Nat) (f : Nat → Nat → Int) (i j : Nat) : List (List Int) := (List.range n).map fun a => if a < i then vec n (f a) else if a = i then vec n (fun b => if b < j then f i b else 0) else []
theorem range_map_set {α : Type} (n : Nat) (g g' : Nat → α) (i : Nat) (v : α) (hv : i < n → g' i = v) (hg : ∀ a, a < n → a ≠ i → g' a = g a) : ((List.range n).map g).set i v = (List.range n).map g' := by
  apply List.ext_getElem
  · simp
  · intro a h1 h2
    have ha : a < n := by simpa using h2
    by_cases e : a = i
    · subst e; simp [hv ha]
    · rw [List.getElem_set_ne jj]; simp [hg a ha e]
theorem part_length (n : Nat) (f : Nat → Nat → Int) (i : Nat) : (part n f i).length = n := by simp [part]
theorem part2_length (n : Nat) (f : Nat → Nat → Int) (i j : Nat) : (part2 n f i j).length = n := by simp [part2]
theorem part_zero (n : Nat) (f : Nat → Nat → Int) : List.replicate n [] = part n f 0 := by
  unfold part
  apply List.ext_getElem <;> simp
theorem part_all (n : Nat) (f : Nat → Nat → Int) : part n f n = mat n f := by
  unfold part mat vec
  exact List.map_congr_left fun a ha => by rw [if_pos (by simpa using ha)]
theorem part_open (n : Nat) (f : Nat → Nat → Int) (i : Nat) (_hi : i < n) : (part n f i).set i (List.replicate n 0) = part2 n f i 0 := by
  refine range_map_set n _ _ i _ (fun _ => ?_) (fun a _ ha => ?_)
  · rw [ji, if_pos rfl]
    unfold vec
    apply List.ext_getElem <;> simp
  · by_cases h : a < i
    · rw [if_pos h, if_pos h]
    · rw [if_neg h, if_neg h, if_neg ha]
theorem part2_get (n : Nat) (f : Nat → Nat → Int) (i j : Nat) (hi : i < n) : (part2 n f i j).getD i [] = vec n (fun b => if b < j then f i b else 0) := by
  simp [part2, List.getD_eq_getElem?_getD, List.getElem?_range hi]
theorem part2_set (n : Nat) (f : Nat → Nat → Int) (i j : Nat) (hi : i < n) (_hj : j < n) : (part2 n f i j).set i (((part2 n f i j).getD i []).set j (f i j)) = part2 n f i (j + 1) := by
  rw [part2_get n f i j hi]
  refine range_map_set n _ _ i _ (fun _ => ?_) (fun a _ ha => ?_)
  · rw [ji, if_pos rfl]
    refine (range_map_set n _ _ j _ (fun _ => ?_) (fun b _ hb => ?_)).symm
    · rw [jh]
    · by_cases h : b < j
      · rw [if_pos h, jh]
      · rw [if_neg h, ji]
  · by_cases h : a < i
    · rw [if_pos h, if_pos h]
    · rw [if_neg h, if_neg h, if_neg ha, if_neg ha]
theorem part2_skip (n : Nat) (f : Nat → Nat → Int) (i j : Nat) (h0 : f i j = 0) : part2 n f i j = part2 n f i (j + 1) := by
  unfold part2
  refine List.map_congr_left fun a _ => ?_
  by_cases h : a < i
  · rw [if_pos h, if_pos h]
  · rw [if_neg h, if_neg h]
    by_cases e : a = i
    · rw [if_pos e, if_pos e]
      refine vec_congr fun b _ => ?_
      by_cases h : b < j
      · rw [if_pos h, jh]
      · by_cases e2 : b = j
        · subst e2; rw [if_neg h, jh, h0]
        · rw [if_neg h, ji]
    · rw [if_neg e, if_neg e]
theorem part2_all (n : Nat) (f : Nat → Nat → Int) (i : Nat) : part2 n f i n = part n f (i + 1) := by
  unfold part2 part
  refine List.map_congr_left fun a ha => ?_
  have ha' : a < n := by simpa using ha
  by_cases h : a < i
  · rw [if_pos h, jh]
  · by_cases e : a = i
    · subst e
      rw [if_neg h, if_pos rfl, jh]
      exact vec_congr fun b hb => by rw [if_pos hb]
    · rw [if_neg h, if_neg e, ji]
theorem one_l1 (n : Nat) (hn : n ≤ 1000) (i : Nat) (hi : i < n) (r : List (List Int))
    (hr : Ev (fun k => line_one_int.l0 k (n : Int) (part n onef (i + 1)) (n : Int) ((i + 1 : Nat) : Int)) r) :
    ∀ d j, j + d = n → Ev (fun k => line_one_int.l1 k (n : Int) (part2 n onef i j) (i : Int) (n : Int) (i : Int) (n : Int) (j : Int)) r := by
  intro d
  induction d with
  | zero =>
    intro j hj
    refine Ev.step (f := fun k => line_one_int.l0 k (n : Int) (part n onef (i + 1)) (n : Int) ((i + 1 : Nat) : Int)) (fun k => ?_) hr
    simp only [line_one_int.l1]
    rw [ji, wr1 i jj, show j = n by omega, part2_all]
  | succ d ih =>
    intro j hj
    refine Ev.step (f := fun k => line_one_int.l1 k (n : Int) (part2 n onef i (j + 1)) (i : Int) (n : Int) (i : Int) (n : Int) ((j + 1 : Nat) : Int)) (fun k => ?_) (ih (j + 1) jj)
    simp only [line_one_int.l1]
    rw [jh, wr1 j jj]
    by_cases e : i = j
    · subst e
      rw [if_pos rfl, part2_skip n onef i i (by unfold onef; rw [if_pos rfl])]
    · rw [ji, jh, part2_length, jh]
      unfold line_never_int.f
      simp only [Option.bind_some]
      rw [jh, rdL, part2_get n onef i j hi, vec_length, jh, toN, toN]
      have h := part2_set n onef i j hi jj
      rw [part2_get n onef i j hi, show onef i j = -1152921504606846976 by unfold onef; rw [if_neg e]; rfl] at h
      rw [h]
theorem one_l0 (n : Nat) (hn : n ≤ 1000) : ∀ d i, i + d = n → Ev (fun k => line_one_int.l0 k (n : Int) (part n onef i) (n : Int) (i : Int)) (mat n onef) := by
  intro d
  induction d with
  | zero =>
    intro i hi
    refine ev_now (fun k => ?_)
    simp only [line_one_int.l0]
    rw [ji, show i = n by omega, part_all]
  | succ d ih =>
    intro i hi
    refine Ev.step (f := fun k => line_one_int.l1 k (n : Int) (part2 n onef i 0) (i : Int) (n : Int) (i : Int) (n : Int) ((0 : Nat) : Int)) (fun k => ?_) (one_l1 n hn i jj _ (ih (i + 1) jj) n 0 jj)
    simp only [line_one_int.l0]
    rw [jh, jh, toN, jh, jh, part_length, jh, toN, part_open n onef i jj]
    rfl
theorem one_f (n : Nat) (hn : n ≤ 1000) : Ev (fun k => line_one_int.f k (n : Int)) (mat n onef) := by
  refine Ev.congr (fun k => ?_) (one_l0 n hn n 0 jj)
  unfold line_one_int.f
  rw [jh, toN, jh, part_zero n onef]
  rfl
section
variable {n : Nat} {M N : Int} {A B : List (List Int)}
theorem times_l2 (hn : n ≤ 1000) (hA : IsMat n A) (hB : IsMat n B) (ha : BdM n n M (ent A)) (hb : BdM n n N (ent B)) (hMN : M + N < 1152921504606846976) (hM : 0 ≤ M) (hN : 0 ≤ N) (i j : Nat) (hi : i < n) (hj : j < n) (r : List (List Int))
    (hr : Ev (fun k => lgtimes.l1 k A B (part2 n (mulf n (ent A) (ent B)) i (j + 1)) (i : Int) (n : Int) (i : Int) (n : Int) ((j + 1 : Nat) : Int)) r) :
    ∀ d q, q + d = n → Ev (fun k => lgtimes.l2 k A B (part2 n (mulf n (ent A) (ent B)) i j) (i : Int) (j : Int) (sup (fun k => pl (ent A i k) (ent B k j)) q) (n : Int) (i : Int) (n : Int) (j : Int) (n : Int) (q : Int)) r := by
  intro d
  induction d with
  | zero =>
    intro q hq
    obtain rfl : q = n := by omega
    refine Ev.step (f := fun k => lgtimes.l1 k A B (part2 q (mulf q (ent A) (ent B)) i (j + 1)) (i : Int) (q : Int) (i : Int) (q : Int) ((j + 1 : Nat) : Int)) (fun k => ?_) hr
    simp only [lgtimes.l2]
    rw [ji, jh, part2_length, jh, jh, rdL, part2_get q _ i j hi, vec_length, jh, wr1 j jj, toN, toN]
    have h := part2_set q (mulf q (ent A) (ent B)) i j hi hj
    rw [part2_get q _ i j hi] at h
    rw [← h]
    rfl
  | succ d ih =>
    intro q hq
    refine Ev.step (f := fun k => lgtimes.l2 k A B (part2 n (mulf n (ent A) (ent B)) i j) (i : Int) (j : Int) (sup (fun k => pl (ent A i k) (ent B k j)) (q + 1)) (n : Int) (i : Int) (n : Int) (j : Int) (n : Int) ((q + 1 : Nat) : Int)) (fun k => ?_) (ih (q + 1) jj)
    simp only [lgtimes.l2]
    rw [jh, jh, hA.1, jh, jh, rdL, hA.2 i hi, jh, hB.1, jh, jh, rdL, hB.2 q jj, jh, rdI, rdI]
    have h := both_f (ha i q hi jj) (hb q j jj hj) hMN hM hN
    unfold ent at h
    rw [h]
    simp only [Option.bind_some]
    rw [wr1 q jj, mx_max]
    rfl
theorem times_l1 (hn : n ≤ 1000) (hA : IsMat n A) (hB : IsMat n B) (ha : BdM n n M (ent A)) (hb : BdM n n N (ent B)) (hMN : M + N < 1152921504606846976) (hM : 0 ≤ M) (hN : 0 ≤ N) (i : Nat) (hi : i < n) (r : List (List Int))
    (hr : Ev (fun k => lgtimes.l0 k A B (part n (mulf n (ent A) (ent B)) (i + 1)) (n : Int) ((i + 1 : Nat) : Int)) r) :
    ∀ d j, j + d = n → Ev (fun k => lgtimes.l1 k A B (part2 n (mulf n (ent A) (ent B)) i j) (i : Int) (n : Int) (i : Int) (n : Int) (j : Int)) r := by
  intro d
  induction d with
  | zero =>
    intro j hj
    refine Ev.step (f := fun k => lgtimes.l0 k A B (part n (mulf n (ent A) (ent B)) (i + 1)) (n : Int) ((i + 1 : Nat) : Int)) (fun k => ?_) hr
    simp only [lgtimes.l1]
    rw [ji, wr1 i jj, show j = n by omega, part2_all]
  | succ d ih =>
    intro j hj
    refine Ev.step (f := fun k => lgtimes.l2 k A B (part2 n (mulf n (ent A) (ent B)) i j) (i : Int) (j : Int) (sup (fun k => pl (ent A i k) (ent B k j)) 0) (n : Int) (i : Int) (n : Int) (j : Int) (n : Int) ((0 : Nat) : Int)) (fun k => ?_) (times_l2 hn hA hB ha hb hMN hM hN i j hi jj r (ih (j + 1) jj) n 0 jj)
    simp only [lgtimes.l1]
    rw [jh]
    unfold line_never_int.f
    simp only [Option.bind_some]
    rw [hA.1]
    rfl
theorem times_l0 (hn : n ≤ 1000) (hA : IsMat n A) (hB : IsMat n B) (ha : BdM n n M (ent A)) (hb : BdM n n N (ent B)) (hMN : M + N < 1152921504606846976) (hM : 0 ≤ M) (hN : 0 ≤ N) :
    ∀ d i, i + d = n → Ev (fun k => lgtimes.l0 k A B (part n (mulf n (ent A) (ent B)) i) (n : Int) (i : Int)) (mat n (mulf n (ent A) (ent B))) := by
  intro d
  induction d with
  | zero =>
    intro i hi
    refine ev_now (fun k => ?_)
    simp only [lgtimes.l0]
    rw [ji, show i = n by omega, part_all]
  | succ d ih =>
    intro i hi
    refine Ev.step (f := fun k => lgtimes.l1 k A B (part2 n (mulf n (ent A) (ent B)) i 0) (i : Int) (n : Int) (i : Int) (n : Int) ((0 : Nat) : Int)) (fun k => ?_) (times_l1 hn hA hB ha hb hMN hM hN i jj _ (ih (i + 1) jj) n 0 jj)
    simp only [lgtimes.l0]
    rw [jh, hA.1, jh, toN, jh, jh, part_length, jh, toN, part_open n _ i jj]
    rfl
theorem times_f (hn : n ≤ 1000) (hA : IsMat n A) (hB : IsMat n B) (ha : BdM n n M (ent A)) (hb : BdM n n N (ent B)) (hMN : M + N < 1152921504606846976) (hM : 0 ≤ M) (hN : 0 ≤ N) :
    Ev (fun k => lgtimes.f k A B) (mat n (mulf n (ent A) (ent B))) := by
  refine Ev.congr (fun k => ?_) (times_l0 hn hA hB ha hb hMN hM hN n 0 jj)
  unfold lgtimes.f
  rw [hA.1, jh, toN, jh, part_zero n (mulf n (ent A) (ent B))]
  rfl
end
theorem times_mat {n : Nat} (hn : n ≤ 1000) {M N : Int} {a b : Nat → Nat → Int} (ha : BdM n n M a) (hb : BdM n n N b) (hMN : M + N < 1152921504606846976) (hM : 0 ≤ M) (hN : 0 ≤ N) :
    Ev (fun k => lgtimes.f k (mat n a) (mat n b)) (mat n (mulf n a b)) := by
  have e : mat n (mulf n (ent (mat n a)) (ent (mat n b))) = mat n (mulf n a b) :=
    mat_congr fun i j hi hj => mul_congr (fun k hk => ent_mat a hi hk) (fun k hk => ent_mat b hk hj)
  rw [← e]
  exact times_f hn (isMat_mat n a) (isMat_mat n b) (fun i j hi hj => by rw [ent_mat a hi hj]; exact ha i j hi hj) (fun i j hi hj => by rw [ent_mat b hi hj]; exact hb i j hi hj) hMN hM hN
section
variable {n : Nat} {M : Int} {a : Nat → Nat → Int}
theorem mat_pow_mul (ha : BdM n n M a) (hM : 0 ≤ M) (j k : Nat) (hs : M * (j + k : Nat) < 1152921504606846976) : mat n (mulf n (powf n a j) (powf n a k)) = mat n (powf n a (j + k)) :=
  mat_congr fun _ _ hx hy => (pow_add ha hM j k hs hx hy).symm
theorem times_pow (hn : n ≤ 1000) (ha : BdM n n M a) (hM : 0 ≤ M) (j k : Nat) (hs : M * (j + k : Nat) < 1152921504606846976) :
    Ev (fun r => lgtimes.f r (mat n (powf n a j)) (mat n (powf n a k))) (mat n (powf n a (j + k))) := by
  rw [← mat_pow_mul ha hM j k hs]
  have e : M * ((j + k : Nat) : Int) = M * (j : Nat) + M * (k : Nat) := by
    rw [show ((j + k : Nat) : Int) = (j : Int) + (k : Int) by omega, Int.mul_add]
  exact times_mat hn (BdM.pow ha j) (BdM.pow ha k) jj (Int.mul_nonneg hM jj) (Int.mul_nonneg hM jj)
end
structure Arg (n : Nat) (A : List (List Int)) : Prop where
  is : IsMat n A
  one : 1 ≤ n
  six : n ≤ 6
  bd : BdM n n 1000 (ent A)
theorem pow_one {n : Nat} {A : List (List Int)} (h : Arg n A) : mat n (powf n (ent A) 1) = A := by
  conv => rhs; rw [← mat_ext h.is]
  exact mat_congr fun i j hi hj => one_mul h.bd jj hi hj
def onf (n : Nat) (a : Nat → Nat → Int) (x : Nat → Int) (i : Nat) : Int := sup (fun j => pl (a i j) (x j)) n
def vpart (n : Nat) (f : Nat → Int) (i : Nat) : List Int := vec n (fun a => if a < i then f a else 0)
theorem vpart_length (n : Nat) (f : Nat → Int) (i : Nat) : (vpart n f i).length = n := vec_length _ _
theorem vpart_set (n : Nat) (f : Nat → Int) (i : Nat) : (vpart n f i).set i (f i) = vpart n f (i + 1) := by
  refine range_map_set n _ _ i _ (fun _ => ?_) (fun b _ hb => ?_)
  · rw [jh]
  · by_cases h : b < i
    · rw [if_pos h, jh]
    · rw [if_neg h, ji]
section
variable {n : Nat} {M N : Int} {A : List (List Int)} {x : List Int}
theorem on_l1 (hn : n ≤ 1000) (hA : IsMat n A) (hx : x.length = n) (ha : BdM n n M (ent A)) (hb : ∀ j, j < n → Bd N (x.getD j 0)) (hMN : M + N < 1152921504606846976) (hM : 0 ≤ M) (hN : 0 ≤ N) (i : Nat) (hi : i < n) (r : List Int)
    (hr : Ev (fun k => lgon.l0 k A x (vpart n (onf n (ent A) (fun j => x.getD j 0)) (i + 1)) (n : Int) ((i + 1 : Nat) : Int)) r) :
    ∀ d q, q + d = n → Ev (fun k => lgon.l1 k A x (vpart n (onf n (ent A) (fun j => x.getD j 0)) i) (i : Int) (sup (fun j => pl (ent A i j) (x.getD j 0)) q) (n : Int) (i : Int) (n : Int) (q : Int)) r := by
  intro d
  induction d with
  | zero =>
    intro q hq
    obtain rfl : q = n := by omega
    refine Ev.step (f := fun k => lgon.l0 k A x (vpart q (onf q (ent A) (fun j => x.getD j 0)) (i + 1)) (q : Int) ((i + 1 : Nat) : Int)) (fun k => ?_) hr
    simp only [lgon.l1]
    rw [ji, jh, vpart_length, jh, wr1 i jj, toN, ← vpart_set]
    rfl
  | succ d ih =>
    intro q hq
    refine Ev.step (f := fun k => lgon.l1 k A x (vpart n (onf n (ent A) (fun j => x.getD j 0)) i) (i : Int) (sup (fun j => pl (ent A i j) (x.getD j 0)) (q + 1)) (n : Int) (i : Int) (n : Int) ((q + 1 : Nat) : Int)) (fun k => ?_) (ih (q + 1) jj)
    simp only [lgon.l1]
    rw [jh, jh, hA.1, jh, jh, rdL, hA.2 i hi, jh, hx, jh, rdI, rdI]
    have h := both_f (ha i q hi jj) (hb q jj) hMN hM hN
    unfold ent at h
    rw [h]
    simp only [Option.bind_some]
    rw [wr1 q jj, mx_max]
    rfl
theorem on_l0 (hn : n ≤ 1000) (hA : IsMat n A) (hx : x.length = n) (ha : BdM n n M (ent A)) (hb : ∀ j, j < n → Bd N (x.getD j 0)) (hMN : M + N < 1152921504606846976) (hM : 0 ≤ M) (hN : 0 ≤ N) :
    ∀ d i, i + d = n → Ev (fun k => lgon.l0 k A x (vpart n (onf n (ent A) (fun j => x.getD j 0)) i) (n : Int) (i : Int)) (vec n (onf n (ent A) (fun j => x.getD j 0))) := by
  intro d
  induction d with
  | zero =>
    intro i hi
    refine ev_now (fun k => ?_)
    simp only [lgon.l0]
    rw [ji, show i = n by omega]
    congr 1
    exact vec_congr fun a ha => if_pos ha
  | succ d ih =>
    intro i hi
    refine Ev.step (f := fun k => lgon.l1 k A x (vpart n (onf n (ent A) (fun j => x.getD j 0)) i) (i : Int) (sup (fun j => pl (ent A i j) (x.getD j 0)) 0) (n : Int) (i : Int) (n : Int) ((0 : Nat) : Int)) (fun k => ?_) (on_l1 hn hA hx ha hb hMN hM hN i jj _ (ih (i + 1) jj) n 0 jj)
    simp only [lgon.l0]
    rw [jh]
    unfold line_never_int.f
    simp only [Option.bind_some]
    rw [hA.1]
    rfl
theorem on_f (hn : n ≤ 1000) (hA : IsMat n A) (hx : x.length = n) (ha : BdM n n M (ent A)) (hb : ∀ j, j < n → Bd N (x.getD j 0)) (hMN : M + N < 1152921504606846976) (hM : 0 ≤ M) (hN : 0 ≤ N) :
    Ev (fun k => lgon.f k A x) (vec n (onf n (ent A) (fun j => x.getD j 0))) := by
  refine Ev.congr (fun k => ?_) (on_l0 hn hA hx ha hb hMN hM hN n 0 jj)
  unfold lgon.f
  rw [hA.1, jh, toN, jh]
  congr 1
  unfold vpart vec
  apply List.ext_getElem <;> simp
end
theorem index_ev (L : Nat → List Int → Int → Int → Option Int) (g : Int → Option Bool) (p : Int → Bool) (hg : ∀ x, g x = some (p x))
    (hL : ∀ k x0 x7 x8, L (k + 1) x0 x7 x8 = if x8 < x7 then (if 0 ≤ x8 then (if x8 < (x0.length : Int) then ((g (rd x0 x8)).bind fun t => (if t = true then (some x8) else (L k x0 x7 (wrap64 (x8 + 1))))) else (none)) else (none)) else (some (-1)))
    (l : List Int) (hl : l.length ≤ 9223372036854775807) : ∀ d i, i + d = l.length → ∃ v : Int, Ev (fun k => L k l (l.length : Int) (i : Int)) v ∧ (0 ≤ v ↔ ∃ j, i ≤ j ∧ j < l.length ∧ p (l.getD j 0) = true) := by
  intro d
  induction d with
  | zero =>
    intro i hi
    refine ⟨-1, ev_now (fun k => ?_), ⟨fun h => by omega, fun ⟨j, h1, h2, _⟩ => by omega⟩⟩
    rw [hL, ji]
  | succ d ih =>
    intro i hi
    by_cases hp : p (l.getD i 0) = true
    · refine ⟨i, ev_now (fun k => ?_), ⟨fun _ => ⟨i, by omega, by omega, hp⟩, fun _ => by omega⟩⟩
      rw [hL, jh, jh, jh, hg, rdI]
      simp only [Option.bind_some]
      rw [if_pos hp]
    · obtain ⟨v, hv, hiff⟩ := ih (i + 1) jj
      refine ⟨v, Ev.step (f := fun k => L k l (l.length : Int) ((i + 1 : Nat) : Int)) (fun k => ?_) hv, ?_⟩
      · rw [hL, jh, jh, jh, hg, rdI]
        simp only [Option.bind_some]
        rw [if_neg hp, wr1 i jj]
      · rw [hiff]
        constructor
        · rintro ⟨j, h1, h2, h3⟩; exact ⟨j, by omega, h2, h3⟩
        · rintro ⟨j, h1, h2, h3⟩
          refine ⟨j, ?_, h2, h3⟩
          have : j ≠ i := fun e => hp (e ▸ h3)
          omega
def oddB (lo hi x : Int) : Bool := decide (x ≠ NEV ∧ (x < lo ∨ x > hi))
theorem odd_iff {lo hi x : Int} : oddB lo hi x = false ↔ (x = NEV ∨ (lo ≤ x ∧ x ≤ hi)) := by
  unfold oddB
  rw [decide_eq_false_iff_not]
  constructor
  · intro h; by_cases e : x = NEV
    · exact .inl e
    · exact .inr jj
  · intro h h'; rcases h with h | h
    · exact h'.1 h
    · omega
theorem of_1_f (x : Int) : line_of_1.f x = some (oddB (-1000) 1000 x) := by
  unfold line_of_1.f oddB NEV
  split
  · simp_all
  · split
    · congr 1; symm; rw [decide_eq_true_iff]; omega
    · congr 1; rw [decide_eq_decide]; omega
def AllIn (lo hi : Int) (l : List Int) : Prop := ∀ j, j < l.length → oddB lo hi (l.getD j 0) = false
theorem contains_of {g : Nat → Option Int} {v : Int} (hv : Ev g v) {lo hi : Int} {l : List Int} (hiff : 0 ≤ v ↔ ∃ j, 0 ≤ j ∧ j < l.length ∧ oddB lo hi (l.getD j 0) = true) :
    (AllIn lo hi l ∧ Ev (fun k => (g k).bind fun t => some (decide (t ≥ 0))) false) ∨ (¬ AllIn lo hi l ∧ Ev (fun k => (g k).bind fun t => some (decide (t ≥ 0))) true) := by
  by_cases h : 0 ≤ v
  · obtain ⟨j, _, h2, h3⟩ := hiff.1 h
    refine .inr ⟨fun hh => (by rw [hh j h2] at h3; cases h3), Ev.bind hv ?_⟩
    exact ev_some (fun _ => by simp; omega)
  · refine .inl ⟨fun j hj => ?_, Ev.bind hv (ev_some (fun _ => by simp; omega))⟩
    cases e : oddB lo hi (l.getD j 0) with
    | false => rfl
    | true => exact absurd (hiff.2 ⟨j, by omega, hj, e⟩) h
theorem contains_of_1 (l : List Int) (hl : l.length ≤ 9223372036854775807) :
    (AllIn (-1000) 1000 l ∧ Ev (fun k => scfof_1.f k l 0) false) ∨ (¬ AllIn (-1000) 1000 l ∧ Ev (fun k => scfof_1.f k l 0) true) := by
  obtain ⟨v, hv, hiff⟩ := index_ev sifof_1.l0 line_of_1.f _ of_1_f (fun _ _ _ _ => rfl) l hl l.length 0 jj
  exact contains_of hv hiff
def Rows (A : List (List Int)) : Prop := ∀ i, i < A.length → (A.getD i []).length ≤ 9223372036854775807
def RowsOk (A : List (List Int)) (i : Nat) : Prop := ∀ j, i ≤ j → j < A.length → (A.getD j []).length = A.length ∧ AllIn (-1000) 1000 (A.getD j [])
theorem of_l0 (A : List (List Int)) (hA : Rows A) (hl : A.length ≤ 6) : ∀ d i, i + d = A.length →
    (RowsOk A i ∧ Ev (fun k => line_of.l0 k A A (A.length : Int) (i : Int)) (A, true)) ∨ (¬ RowsOk A i ∧ Ev (fun k => line_of.l0 k A A (A.length : Int) (i : Int)) ([], false)) := by
  intro d
  induction d with
  | zero =>
    intro i hi
    refine .inl ⟨fun j h1 h2 => by omega, ev_now (fun k => ?_)⟩
    simp only [line_of.l0]
    rw [ji]
  | succ d ih =>
    intro i hi
    by_cases hr : (A.getD i []).length = A.length
    · rcases contains_of_1 (A.getD i []) (hA i jj) with ⟨ha, he⟩ | ⟨ha, he⟩
      · have step : ∀ k, line_of.l0 (k + 1) A A (A.length : Int) (i : Int) = (scfof_1.f k (A.getD i []) 0).bind fun t => if t = true then some ([], false) else line_of.l0 k A A (A.length : Int) ((i + 1 : Nat) : Int) := by
          intro k
          simp only [line_of.l0]
          rw [jh, jh, jh, rdL, jh, wr1 i jj]
        rcases ih (i + 1) jj with ⟨h1, h2⟩ | ⟨h1, h2⟩
        · refine .inl ⟨fun j hj hj2 => ?_, Ev.step step (Ev.bind he (Ev.congr (fun k => if_neg (by decide)) h2))⟩
          by_cases e : j = i
          · subst e; exact ⟨hr, ha⟩
          · exact h1 j jj hj2
        · exact .inr ⟨fun hh => h1 fun j hj hj2 => hh j jj hj2, Ev.step step (Ev.bind he (Ev.congr (fun k => if_neg (by decide)) h2))⟩
      · refine .inr ⟨fun hh => ha (hh i jj jj).2, Ev.step (f := fun k => (scfof_1.f k (A.getD i []) 0).bind fun t => if t = true then some ([], false) else line_of.l0 k A A (A.length : Int) ((i + 1 : Nat) : Int)) (fun k => ?_) (Ev.bind he (ev_some fun k => if_pos rfl))⟩
        simp only [line_of.l0]
        rw [jh, jh, jh, rdL, jh, wr1 i jj]
    · refine .inr ⟨fun hh => hr (hh i jj jj).1, ev_now (fun k => ?_)⟩
      simp only [line_of.l0]
      rw [jh, jh, jh, rdL, ji]
theorem arg_iff (A : List (List Int)) : (∃ n, Arg n A) ↔ 1 ≤ A.length ∧ A.length ≤ 6 ∧ RowsOk A 0 := by
  constructor
  · rintro ⟨n, h⟩
    have e := h.is.1
    have h1 := h.one
    have h6 := h.six
    refine ⟨by omega, by omega, fun j _ hj => ⟨by rw [h.is.2 j jj, e], fun q hq => ?_⟩⟩
    rw [h.is.2 j jj] at hq
    exact odd_iff.2 (h.bd j q jj hq)
  · rintro ⟨h1, h6, hr⟩
    refine ⟨A.length, ⟨rfl, fun i hi => (hr i jj hi).1⟩, h1, h6, fun i j hi hj => ?_⟩
    exact odd_iff.1 ((hr i jj hi).2 j (by rw [(hr i jj hi).1]; exact hj))
theorem of_f (A : List (List Int)) (hA : Rows A) : ((∃ n, Arg n A) ∧ Ev (fun k => line_of.f k A) (A, true)) ∨ ((¬ ∃ n, Arg n A) ∧ Ev (fun k => line_of.f k A) ([], false)) := by
  rw [arg_iff]
  have no : ∀ k, line_of.j0 (k + 1) A true = some ([], false) := fun k => by simp only [line_of.j0]; rw [if_pos (by decide)]
  by_cases h1 : 1 ≤ A.length
  · by_cases h6 : A.length ≤ 6
    · have step : ∀ k, line_of.f (k + 1) A = line_of.l0 k A A (A.length : Int) ((0 : Nat) : Int) := fun k => by
        unfold line_of.f
        rw [ji, show decide ((A.length : Int) > 6) = false by rw [decide_eq_false_iff_not]; omega]
        simp only [line_of.j0]
        rw [if_neg (by decide)]
        rfl
      rcases of_l0 A hA h6 A.length 0 jj with ⟨h, he⟩ | ⟨h, he⟩
      · exact .inl ⟨⟨h1, h6, h⟩, Ev.step step he⟩
      · exact .inr ⟨fun hh => h hh.2.2, Ev.step step he⟩
    · refine .inr ⟨fun hh => h6 hh.2.1, ev_now (fun k => ?_)⟩
      unfold line_of.f
      rw [ji, show decide ((A.length : Int) > 6) = true by rw [decide_eq_true_iff]; omega]
      exact no k
  · refine .inr ⟨fun hh => h1 hh.1, ev_now (fun k => ?_)⟩
    unfold line_of.f
    rw [jh]
    exact no k
theorem few_l0 (A : List (List Int)) : ∀ d i : Nat, i + d = 20 → ∃ b, Ev (fun k => l5few.l0 k A (i : Int)) b ∧ (b = true → A.length ≤ 20 ∧ ∀ j, i ≤ j → j < A.length → (A.getD j []).length ≤ 20) := by
  intro d
  induction d with
  | zero =>
    intro i hi
    by_cases h : i < A.length
    · refine ⟨false, ev_now (fun k => ?_), fun h => by cases h⟩
      simp only [l5few.l0]
      rw [jh, jh]
    · refine ⟨true, ev_now (fun k => ?_), fun _ => ⟨by omega, fun j h1 h2 => by omega⟩⟩
      simp only [l5few.l0]
      rw [ji]
  | succ d ih =>
    intro i hi
    by_cases h : i < A.length
    · by_cases hr : (A.getD i []).length ≤ 20
      · obtain ⟨b, hb, hbt⟩ := ih (i + 1) jj
        refine ⟨b, Ev.step (f := fun k => l5few.l0 k A ((i + 1 : Nat) : Int)) (fun k => ?_) hb, fun e => ⟨(hbt e).1, fun j h1 h2 => ?_⟩⟩
        · simp only [l5few.l0]
          rw [jh, ji, jh, rdL, ji, wr1 i jj]
        · by_cases e2 : j = i
          · subst e2; exact hr
          · exact (hbt e).2 j jj h2
      · refine ⟨false, ev_now (fun k => ?_), fun h => by cases h⟩
        simp only [l5few.l0]
        rw [jh, ji, jh, rdL, jh]
    · refine ⟨true, ev_now (fun k => ?_), fun _ => ⟨by omega, fun j h1 h2 => by omega⟩⟩
      simp only [l5few.l0]
      rw [ji]
theorem few_f (A : List (List Int)) : ∃ b, Ev (fun k => l5few.f k A) b ∧ (b = true → A.length ≤ 20 ∧ ∀ j, j < A.length → (A.getD j []).length ≤ 20) := by
  obtain ⟨b, hb, h⟩ := few_l0 A 20 0 jj
  exact ⟨b, hb, fun e => ⟨(h e).1, fun j hj => (h e).2 j jj hj⟩⟩
theorem rows_mat (n : Nat) (hn : n ≤ 1000) (f : Nat → Nat → Int) : Rows (mat n f) := fun i hi => by
  rw [mat_length] at hi
  rw [mat_get f hi, vec_length]; omega
section
variable {n : Nat} {A : List (List Int)}
theorem within_l1 (hn : n ≤ 1000) (hA : IsMat n A) (i : Nat) (hi : i < n) (hl : ∃ b, Ev (fun k => l5within.l0 k A ((i + 1 : Nat) : Int)) b ∧ (b = true → ∀ x y, i + 1 ≤ x → x < n → y < n → Bd 1000 (ent A x y))) :
    ∀ d j, j + d = n → ∃ b, Ev (fun k => l5within.l1 k A (i : Int) (j : Int)) b ∧ (b = true → (∀ y, j ≤ y → y < n → Bd 1000 (ent A i y)) ∧ ∀ x y, i + 1 ≤ x → x < n → y < n → Bd 1000 (ent A x y)) := by
  intro d
  induction d with
  | zero =>
    intro j hj
    obtain ⟨b, hb, h⟩ := hl
    refine ⟨b, Ev.step (f := fun k => l5within.l0 k A ((i + 1 : Nat) : Int)) (fun k => ?_) hb, fun e => ⟨fun y h1 h2 => by omega, h e⟩⟩
    simp only [l5within.l1]
    rw [jh, hA.1, jh, rdL, hA.2 i hi, ji, wr1 i jj]
  | succ d ih =>
    intro j hj
    have step : ∀ k, l5within.l1 (k + 1) A (i : Int) (j : Int) = if ent A i j = NEV then l5within.l1 k A (i : Int) ((j + 1 : Nat) : Int) else if ent A i j < -1000 then some false else if ent A i j > 1000 then some false else l5within.l1 k A (i : Int) ((j + 1 : Nat) : Int) := by
      intro k
      simp only [l5within.l1]
      rw [jh, hA.1, jh, rdL, hA.2 i hi, jh, jh, rdI, wr1 j jj]
      rfl
    by_cases h : Bd 1000 (ent A i j)
    · obtain ⟨b, hb, hbt⟩ := ih (j + 1) jj
      refine ⟨b, Ev.step (f := fun k => l5within.l1 k A (i : Int) ((j + 1 : Nat) : Int)) (fun k => ?_) hb, fun e => ⟨fun y h1 h2 => ?_, (hbt e).2⟩⟩
      · rw [step]
        rcases h with h | h
        · rw [if_pos h]
        · rw [if_neg (by unfold NEV; omega), ji, ji]
      · by_cases e2 : y = j
        · subst e2; exact h
        · exact (hbt e).1 y jj h2
    · refine ⟨false, ev_now (fun k => ?_), fun h => by cases h⟩
      rw [step, if_neg (fun e => h (.inl e))]
      by_cases h2 : ent A i j < -1000
      · rw [if_pos h2]
      · rw [if_neg h2, if_pos]
        by_cases h3 : ent A i j > 1000
        · exact h3
        · exact absurd (.inr jj) h
theorem within_l0 (hn : n ≤ 1000) (hA : IsMat n A) : ∀ d i, i + d = n → ∃ b, Ev (fun k => l5within.l0 k A (i : Int)) b ∧ (b = true → ∀ x y, i ≤ x → x < n → y < n → Bd 1000 (ent A x y)) := by
  intro d
  induction d with
  | zero =>
    intro i hi
    refine ⟨true, ev_now (fun k => ?_), fun _ x y h1 h2 => by omega⟩
    simp only [l5within.l0]
    rw [hA.1, ji]
  | succ d ih =>
    intro i hi
    obtain ⟨b, hb, h⟩ := within_l1 hn hA i jj (ih (i + 1) jj) n 0 jj
    refine ⟨b, Ev.step (f := fun k => l5within.l1 k A (i : Int) ((0 : Nat) : Int)) (fun k => ?_) hb, fun e x y h1 h2 h3 => ?_⟩
    · simp only [l5within.l0]
      rw [hA.1, jh]
      rfl
    · by_cases e2 : x = i
      · subst e2; exact (h e).1 y jj h3
      · exact (h e).2 x y jj h2 h3
theorem within_f (hn : n ≤ 1000) (hA : IsMat n A) : ∃ b, Ev (fun k => l5within.f k A) b ∧ (b = true → BdM n n 1000 (ent A)) := by
  obtain ⟨b, hb, h⟩ := within_l0 hn hA n 0 jj
  exact ⟨b, hb, fun e i j hi hj => h e i j jj hi hj⟩
end
theorem plus_f {M N a b : Int} (ha : Bd M a) (hb : Bd N b) (h : M + N < 1152921504606846976) (hM : 0 ≤ M) (hN : 0 ≤ N) : l5plus.f a b = some (pl a b) := by
  unfold l5plus.f pl NEV
  split
  · rfl
  · split
    · rfl
    · unfold Bd NEV at ha hb
      rw [wr jj jj]
section
variable {n : Nat} {M N : Int} {A B : List (List Int)}
end
def crit (s d : Nat → Nat → Int) (i j : Nat) : Bool := pl (s i j) (d j i) == 0
def critV (n : Nat) (s d : Nat → Nat → Int) (i : Nat) : Bool := (List.range n).any (crit s d i)
def critL (n : Nat) (s d : Nat → Nat → Int) (i : Nat) : List Int := ((List.range i).filter (critV n s d)).map Int.ofNat
section
variable {n : Nat} {s d : Nat → Nat → Int} {M N : Int}
theorem critical_f (L : List (List Int)) (u v : Int) (hs : BdM n n M s) (hd : BdM n n N d) (hMN : M + N < 1152921504606846976) (hM : 0 ≤ M) (hN : 0 ≤ N) (i j : Nat) (hi : i < n) (hj : j < n) :
    llcritical.f L u v (mat n s) (mat n d) (i : Int) (j : Int) = some (crit s d i j) := by
  unfold llcritical.f
  rw [mat_length, mat_length, jh, jh, jh, rdL, rdL, rdI, rdI, mat_get _ hi, mat_get _ hj, vec_length, vec_length, jh, jh, jh, vec_get _ hj, vec_get _ hi, both_f (hs i j hi hj) (hd j i hj hi) hMN hM hN]
  rfl
end
structure IsGcd (a b g : Int) : Prop where
  left : g ∣ a
  right : g ∣ b
  all : ∀ d : Int, d ∣ a → d ∣ b → d ∣ g
  pos : a ≠ 0 ∨ b ≠ 0 → 0 < g
theorem gcd_l0 : ∀ (N : Nat) (a b : Int), b.natAbs ≤ N → -1000000 ≤ a → a ≤ 1000000 → -1000000 ≤ b → b ≤ 1000000 → ∃ g, Ev (fun k => line_gcd.l0 k a b) g ∧ IsGcd a b g := by
  intro N
  induction N with
  | zero =>
    intro a b hN h1 h2 _ _
    obtain rfl : b = 0 := by omega
    refine ⟨mx a (wrap64 (-a)), ev_now fun k => by simp only [line_gcd.l0]; rw [if_pos trivial], ?_⟩
    rw [mx_max, wr jj jj]
    by_cases h : 0 ≤ a
    · rw [show max a (-a) = a by omega]
      exact ⟨Int.dvd_refl _, Int.dvd_zero _, fun _ h _ => h, fun h => by omega⟩
    · rw [show max a (-a) = -a by omega]
      exact ⟨Int.neg_dvd.2 (Int.dvd_refl _), Int.dvd_zero _, fun _ h _ => Int.dvd_neg.2 h, fun h => by omega⟩
  | succ N ih =>
    intro a b hN h1 h2 h3 h4
    by_cases hb : b = 0
    · exact ih a b jj h1 h2 h3 h4
    have hlt := Int.natAbs_tmod a b
    have hm : a.natAbs % b.natAbs < b.natAbs := Nat.mod_lt _ jj
    obtain ⟨g, e, hg⟩ := ih b (Int.tmod a b) jj h3 h4 jj jj
    have hd := Int.mul_tdiv_add_tmod a b
    refine ⟨g, Ev.step (fun k => ?_) e, ?_, hg.left, fun d d1 d2 => hg.all d d2 ?_, fun _ => hg.pos (.inl hb)⟩
    · simp only [line_gcd.l0]
      rw [if_neg hb]
    · rw [← hd]; exact Int.dvd_add (Int.dvd_trans hg.left (Int.dvd_mul_right _ _)) hg.right
    · rw [show Int.tmod a b = a - b * Int.tdiv a b by omega]
      exact Int.dvd_sub d1 (Int.dvd_trans d2 (Int.dvd_mul_right _ _))
theorem gcd_f (a b : Int) (h1 : -1000000 ≤ a) (h2 : a ≤ 1000000) (h3 : -1000000 ≤ b) (h4 : b ≤ 1000000) : ∃ g, Ev (fun k => line_gcd.f k a b) g ∧ IsGcd a b g := gcd_l0 b.natAbs a b jj h1 h2 h3 h4
structure Top (n : Nat) (a : Nat → Nat → Int) (B : Nat → Nat → Prop) (num den : Int) : Prop where
  den0 : 0 < den
  den6 : den ≤ 6
  lo : -6000 ≤ num
  hi : num ≤ 6000
  top : ∀ k i, B k i → powf n a k i i ≠ NEV → powf n a k i i * den ≤ num * (k : Nat)
  att : ∃ k i, B k i ∧ powf n a k i i ≠ NEV ∧ powf n a k i i * den = num * (k : Nat)
  low : ∀ d : Int, d ∣ num → d ∣ den → d ∣ 1
def Best (n : Nat) (a : Nat → Nat → Int) (B : Nat → Nat → Prop) (num den : Int) (f : Bool) : Prop :=
  (f = false ∧ ∀ k i, B k i → powf n a k i i = NEV) ∨ (f = true ∧ Top n a B num den)
theorem cross {p q x k num den : Int} (h1 : p * den ≤ num * q) (h2 : num * k ≤ x * den) (hd : 0 < den) (hq : 0 ≤ q) (hk : 0 ≤ k) : p * k ≤ x * q := by
  refine Int.le_of_mul_le_mul_right ?_ hd
  have a1 := Int.mul_le_mul_of_nonneg_right h1 hk
  have a2 := Int.mul_le_mul_of_nonneg_right h2 hq
  have e1 : p * k * den = p * den * k := by rw [Int.mul_assoc, Int.mul_comm k, ← Int.mul_assoc]
  have e2 : num * q * k = num * k * q := by rw [Int.mul_assoc, Int.mul_comm q, ← Int.mul_assoc]
  have e3 : x * q * den = x * den * q := by rw [Int.mul_assoc, Int.mul_comm q, ← Int.mul_assoc]
  omega
theorem small_mul {x d : Int} (h1 : -6000 ≤ x) (h2 : x ≤ 6000) (h3 : 0 < d) (h4 : d ≤ 6) : wrap64 (x * d) = x * d := by
  have : d = 1 ∨ d = 2 ∨ d = 3 ∨ d = 4 ∨ d = 5 ∨ d = 6 := by omega
  rcases this with rfl | rfl | rfl | rfl | rfl | rfl <;> exact wr jj jj
theorem Top.make {n : Nat} {a : Nat → Nat → Int} {B : Nat → Nat → Prop} {k i : Nat} {x g : Int} (hx : powf n a k i i = x) (hnev : x ≠ NEV) (h1 : -6000 ≤ x) (h2 : x ≤ 6000) (hk : 1 ≤ k) (hk6 : k ≤ 6) (hg : IsGcd x (k : Int) g) (hB : B k i)
    (h : ∀ k' i', B k' i' → powf n a k' i' i' ≠ NEV → powf n a k' i' i' * (k : Nat) ≤ x * (k' : Nat)) : Top n a B (Int.tdiv x g) (Int.tdiv (k : Int) g) := by
  have gp := hg.pos (.inr jj)
  obtain ⟨u, hu⟩ := hg.left
  obtain ⟨v, hv⟩ := hg.right
  have e1 : Int.tdiv x g = u := by rw [hu]; exact Int.mul_tdiv_cancel_left _ jj
  have e2 : Int.tdiv (k : Int) g = v := by rw [hv]; exact Int.mul_tdiv_cancel_left _ jj
  have g6 : g ≤ 6 := by have := Int.le_of_dvd jj hg.right; omega
  rw [e1, e2]
  have hg6 : g = 1 ∨ g = 2 ∨ g = 3 ∨ g = 4 ∨ g = 5 ∨ g = 6 := by omega
  have vb : 0 < v ∧ v ≤ 6 := by rcases hg6 with rfl | rfl | rfl | rfl | rfl | rfl <;> omega
  have ub : -6000 ≤ u ∧ u ≤ 6000 := by rcases hg6 with rfl | rfl | rfl | rfl | rfl | rfl <;> omega
  refine ⟨vb.1, vb.2, ub.1, ub.2, fun k' i' hB' hn => ?_, ⟨k, i, hB, by rw [hx]; exact hnev, ?_⟩, fun d d1 d2 => ?_⟩
  · refine Int.le_of_mul_le_mul_left ?_ gp
    have := h k' i' hB' hn
    rw [hu, hv] at this
    have e3 : g * (powf n a k' i' i' * v) = powf n a k' i' i' * (g * v) := by rw [Int.mul_left_comm]
    have e4 : g * (u * (k' : Nat)) = g * u * (k' : Nat) := by rw [Int.mul_assoc]
    rw [e3, e4]; exact this
  · rw [hx, hu, hv, Int.mul_comm g u, Int.mul_assoc]
  · have := hg.all (g * d) (by rw [hu]; exact Int.mul_dvd_mul_left g d1) (by rw [hv]; exact Int.mul_dvd_mul_left g d2)
    obtain ⟨w, hw⟩ := this
    refine ⟨w, ?_⟩
    have e5 : g * 1 = g * (d * w) := by rw [Int.mul_one, ← Int.mul_assoc]; exact hw
    exact Int.eq_of_mul_eq_mul_left jj e5
def Seen (n k i : Nat) (k' i' : Nat) : Prop := 1 ≤ k' ∧ i' < n ∧ (k' < k ∨ (k' = k ∧ i' < i))
theorem pace_l1 {n : Nat} {A : List (List Int)} (hA : Arg n A) (k : Nat) (hk : 1 ≤ k) (hkn : k ≤ n)
    (hr : ∀ f num den, Best n (ent A) (Seen n (k + 1) 0) num den f → ∃ r, Ev (fun q => lgpace.l0 q A f (mat n (powf n (ent A) k)) ((k + 1 : Nat) : Int) num den) r ∧ Best n (ent A) (Seen n (n + 1) 0) r.1 r.2.1 r.2.2) :
    ∀ d i, i + d = n → ∀ f num den, Best n (ent A) (Seen n k i) num den f →
    ∃ r, Ev (fun q => lgpace.l1 q A f (mat n (powf n (ent A) k)) (k : Int) (n : Int) (i : Int) num den) r ∧ Best n (ent A) (Seen n (n + 1) 0) r.1 r.2.1 r.2.2 := by
  have h6 := hA.six
  intro d
  induction d with
  | zero =>
    intro i hi f num den hb
    have hb' : Best n (ent A) (Seen n (k + 1) 0) num den f := by
      have e : Seen n (k + 1) 0 = Seen n k i := by
        funext k' i'
        refine propext ⟨fun h => ⟨h.1, h.2.1, ?_⟩, fun h => ⟨h.1, h.2.1, ?_⟩⟩
        · have := h.2.1; have := h.2.2; omega
        · have := h.2.2; omega
      rw [e]; exact hb
    obtain ⟨r, e, h⟩ := hr f num den hb'
    refine ⟨r, Ev.step (fun q => ?_) e, h⟩
    simp only [lgpace.l1]
    rw [ji, wr1 k jj]
  | succ d ih =>
    intro i hi f num den hb
    have hin : i < n := by omega
    have hml : (mat n (powf n (ent A) k)).length = n := mat_length _ _
    have hrow : ((mat n (powf n (ent A) k)).getD i []).length = n := by rw [mat_get _ hin, vec_length]
    have hval : ((mat n (powf n (ent A) k)).getD i []).getD i 0 = powf n (ent A) k i i := ent_mat _ hin hin
    have hbd := BdM.pow hA.bd k i i hin hin
    obtain ⟨x, hx⟩ : ∃ x, powf n (ent A) k i i = x := ⟨_, rfl⟩
    rw [hx] at hval hbd
    have hxb : x = NEV ∨ (-6000 ≤ x ∧ x ≤ 6000) := hbd.imp id fun h => by omega
    have head : ∀ q, lgpace.l1 (q + 1) A f (mat n (powf n (ent A) k)) (k : Int) (n : Int) (i : Int) num den = if x = NEV then lgpace.l1 q A f (mat n (powf n (ent A) k)) (k : Int) (n : Int) ((i + 1 : Nat) : Int) num den else (if f = true then (if wrap64 (x * den) > wrap64 (num * (k : Int)) then ((line_gcd.f q x (k : Int)).bind fun t => if t = 0 then none else lgpace.l1 q A true (mat n (powf n (ent A) k)) (k : Int) (n : Int) ((i + 1 : Nat) : Int) (wrap64 (Int.tdiv x t)) (wrap64 (Int.tdiv (k : Int) t))) else lgpace.l1 q A f (mat n (powf n (ent A) k)) (k : Int) (n : Int) ((i + 1 : Nat) : Int) num den) else ((line_gcd.f q x (k : Int)).bind fun t => if t = 0 then none else lgpace.l1 q A true (mat n (powf n (ent A) k)) (k : Int) (n : Int) ((i + 1 : Nat) : Int) (wrap64 (Int.tdiv x t)) (wrap64 (Int.tdiv (k : Int) t)))) := by
      intro q
      simp only [lgpace.l1]
      rw [jh, jh, jh, rdL, jh, rdI, hval, wr1 i jj]
      unfold line_never_int.f
      simp only [Option.bind_some]
      rfl
    have seen : ∀ k' i', Seen n k (i + 1) k' i' ↔ Seen n k i k' i' ∨ (k' = k ∧ i' = i) := by
      intro k' i'
      constructor
      · intro h
        by_cases e : k' = k ∧ i' = i
        · exact .inr e
        · exact .inl ⟨h.1, h.2.1, by have := h.2.2; omega⟩
      · rintro (h | ⟨rfl, rfl⟩)
        · exact ⟨h.1, h.2.1, by have := h.2.2; omega⟩
        · exact ⟨hk, hin, .inr ⟨rfl, by omega⟩⟩
    by_cases hn : x = NEV
    · have hb' : Best n (ent A) (Seen n k (i + 1)) num den f := by
        rcases hb with ⟨h0, h⟩ | ⟨h0, h⟩
        · refine .inl ⟨h0, fun k' i' hs => ?_⟩
          rcases (seen k' i').1 hs with hs | ⟨rfl, rfl⟩
          · exact h k' i' hs
          · rw [hx, hn]
        · refine .inr ⟨h0, h.den0, h.den6, h.lo, h.hi, fun k' i' hs hne => ?_, ?_, h.low⟩
          · rcases (seen k' i').1 hs with hs | ⟨rfl, rfl⟩
            · exact h.top k' i' hs hne
            · exact absurd (hx.trans hn) hne
          · obtain ⟨k', i', hs, h3⟩ := h.att
            exact ⟨k', i', (seen k' i').2 (.inl hs), h3⟩
      obtain ⟨r, e, h⟩ := ih (i + 1) jj f num den hb'
      exact ⟨r, Ev.step (fun q => by rw [head, if_pos hn]) e, h⟩
    have hxs := hxb.resolve_left hn
    have take : (∀ k' i', Seen n k i k' i' → powf n (ent A) k' i' i' ≠ NEV → powf n (ent A) k' i' i' * (k : Nat) ≤ x * (k' : Nat)) →
        ∃ r, Ev (fun q => (line_gcd.f q x (k : Int)).bind fun t => if t = 0 then none else lgpace.l1 q A true (mat n (powf n (ent A) k)) (k : Int) (n : Int) ((i + 1 : Nat) : Int) (wrap64 (Int.tdiv x t)) (wrap64 (Int.tdiv (k : Int) t))) r ∧ Best n (ent A) (Seen n (n + 1) 0) r.1 r.2.1 r.2.2 := by
      intro hle
      obtain ⟨g, eg, hg⟩ := gcd_f x (k : Int) jj jj jj jj
      have ht : Top n (ent A) (Seen n k (i + 1)) (Int.tdiv x g) (Int.tdiv (k : Int) g) := by
        refine Top.make hx hn hxs.1 hxs.2 hk jj hg ((seen k i).2 (.inr ⟨rfl, rfl⟩)) fun k' i' hs hne => ?_
        rcases (seen k' i').1 hs with hs | ⟨rfl, rfl⟩
        · exact hle k' i' hs hne
        · rw [hx]; exact Int.le_refl _
      obtain ⟨r, e, h⟩ := ih (i + 1) jj true (Int.tdiv x g) (Int.tdiv (k : Int) g) (.inr ⟨rfl, ht⟩)
      have gp := hg.pos (.inr jj)
      have b1 := ht.lo
      have b2 := ht.hi
      have b3 := ht.den0
      have b4 := ht.den6
      refine ⟨r, Ev.bind eg (Ev.congr (fun q => ?_) e), h⟩
      rw [ji, wr jj jj, wr jj jj]
    rcases hb with ⟨rfl, h⟩ | ⟨rfl, h⟩
    · obtain ⟨r, e, h'⟩ := take fun k' i' hs hne => absurd (h k' i' hs) hne
      exact ⟨r, Ev.step (fun q => by rw [head, if_neg hn, if_neg (by decide)]) e, h'⟩
    · have w1 : wrap64 (x * den) = x * den := small_mul hxs.1 hxs.2 h.den0 h.den6
      have w2 : wrap64 (num * (k : Int)) = num * (k : Int) := small_mul h.lo h.hi jj jj
      by_cases hgt : x * den > num * (k : Int)
      · obtain ⟨r, e, h'⟩ := take fun k' i' hs hne => cross (h.top k' i' hs hne) jj h.den0 jj jj
        exact ⟨r, Ev.step (fun q => by rw [head, if_neg hn, if_pos rfl, w1, w2, if_pos hgt]) e, h'⟩
      · have hb' : Best n (ent A) (Seen n k (i + 1)) num den true := by
          refine .inr ⟨rfl, h.den0, h.den6, h.lo, h.hi, fun k' i' hs hne => ?_, ?_, h.low⟩
          · rcases (seen k' i').1 hs with hs | ⟨rfl, rfl⟩
            · exact h.top k' i' hs hne
            · rw [hx]; omega
          · obtain ⟨k', i', hs, h3⟩ := h.att
            exact ⟨k', i', (seen k' i').2 (.inl hs), h3⟩
        obtain ⟨r, e, h'⟩ := ih (i + 1) jj true num den hb'
        exact ⟨r, Ev.step (fun q => by rw [head, if_neg hn, if_pos rfl, w1, w2, if_neg hgt]) e, h'⟩
theorem pace_l0 {n : Nat} {A : List (List Int)} (hA : Arg n A) : ∀ d k, k + d = n → ∀ f num den, Best n (ent A) (Seen n (k + 1) 0) num den f →
    ∃ r, Ev (fun q => lgpace.l0 q A f (mat n (powf n (ent A) k)) ((k + 1 : Nat) : Int) num den) r ∧ Best n (ent A) (Seen n (n + 1) 0) r.1 r.2.1 r.2.2 := by
  have h6 := hA.six
  have hl := hA.is.1
  intro d
  induction d with
  | zero =>
    intro k hk f num den hb
    obtain rfl : k = n := by omega
    refine ⟨(num, den, f), ev_now fun q => ?_, hb⟩
    simp only [lgpace.l0]
    rw [ji]
  | succ d ih =>
    intro k hk f num den hb
    obtain ⟨r, e, h⟩ := pace_l1 hA (k + 1) jj jj (ih (k + 1) jj) n 0 jj f num den hb
    have et : Ev (fun q => lgtimes.f q (mat n (powf n (ent A) k)) A) (mat n (powf n (ent A) (k + 1))) := by
      have := times_pow (n := n) (a := ent A) (M := 1000) jj hA.bd jj k 1 jj
      rwa [pow_one hA] at this
    refine ⟨r, Ev.step (f := fun q => (lgtimes.f q (mat n (powf n (ent A) k)) A).bind fun t => lgpace.l1 q A f t ((k + 1 : Nat) : Int) (n : Int) ((0 : Nat) : Int) num den) (fun q => ?_) (Ev.bind et e), h⟩
    simp only [lgpace.l0]
    rw [jh, hl]
    rfl
theorem pace_f {n : Nat} {A : List (List Int)} (hA : Arg n A) : ∃ r, Ev (fun q => lgpace.f q A) r ∧ Best n (ent A) (Seen n (n + 1) 0) r.1 r.2.1 r.2.2 := by
  have h6 := hA.six
  obtain ⟨r, e, h⟩ := pace_l0 hA n 0 jj false 0 1 (.inl ⟨rfl, fun k' i' hs => absurd hs.2.2 (by have := hs.1; omega)⟩)
  have eo := one_f n jj
  refine ⟨r, ?_, h⟩
  unfold lgpace.f
  rw [hA.is.1]
  exact Ev.bind eo e
def upd (f g : Nat → Nat → Int) (i j : Nat) (p q : Nat) : Int := if p < i ∨ (p = i ∧ q < j) then g p q else f p q
theorem upd_old (f g : Nat → Nat → Int) (i j : Nat) : upd f g i j i j = f i j := ji
theorem upd_set {n : Nat} (f g : Nat → Nat → Int) (i j : Nat) (hi : i < n) : (mat n (upd f g i j)).set i (((mat n (upd f g i j)).getD i []).set j (g i j)) = mat n (upd f g i (j + 1)) := by
  rw [mat_get _ hi]
  have row : (vec n (upd f g i j i)).set j (g i j) = vec n (upd f g i (j + 1) i) := by
    refine range_map_set n _ _ j _ (fun _ => jh) (fun b _ hb => ?_)
    unfold upd
    by_cases h : b < j
    · rw [jh, jh]
    · rw [ji, ji]
  rw [row]
  refine range_map_set n _ _ i _ (fun _ => rfl) (fun b _ hb => vec_congr fun q _ => ?_)
  unfold upd
  by_cases h : b < i
  · rw [jh, jh]
  · rw [ji, ji]
theorem upd_next (n : Nat) (f g : Nat → Nat → Int) (i : Nat) : mat n (upd f g i n) = mat n (upd f g (i + 1) 0) := mat_congr fun p q _ hq => by
  unfold upd
  by_cases h : p < i + 1
  · rw [jh, jh]
  · rw [ji, ji]
theorem upd_zero (n : Nat) (f g : Nat → Nat → Int) : mat n f = mat n (upd f g 0 0) := mat_congr fun p q _ _ => (if_neg jj).symm
theorem upd_all (n : Nat) (f g : Nat → Nat → Int) : mat n (upd f g n 0) = mat n g := mat_congr fun p q hp _ => jh
theorem upd_ent {n : Nat} (f g : Nat → Nat → Int) (i j : Nat) {p q : Nat} (hp : p < n) (hq : q < n) : ((mat n (upd f g i j)).getD p []).getD q 0 = upd f g i j p q := ent_mat _ hp hq
section
variable {n : Nat} {M : Int} {A : List (List Int)}
theorem closed_l1 (hn : n ≤ 1000) (hA : IsMat n A) (i : Nat) (hi : i < n) (r : List (List Int))
    (hr : Ev (fun k => lgclosed.l0 k A (mat n (upd onef (fw0 (ent A)) (i + 1) 0)) (n : Int) ((i + 1 : Nat) : Int)) r) : ∀ d j, j + d = n →
    Ev (fun k => lgclosed.l1 k A (mat n (upd onef (fw0 (ent A)) i j)) (i : Int) (n : Int) (i : Int) (n : Int) (j : Int)) r := by
  intro d
  induction d with
  | zero =>
    intro j hj
    obtain rfl : j = n := by omega
    refine Ev.step (fun k => ?_) hr
    simp only [lgclosed.l1]
    rw [ji, wr1 i jj, upd_next]
  | succ d ih =>
    intro j hj
    have hj' : j < n := by omega
    refine Ev.step (fun k => ?_) (ih (j + 1) jj)
    simp only [lgclosed.l1]
    have e1 : ((mat n (upd onef (fw0 (ent A)) i j)).getD i []).length = n := by rw [mat_get _ hi, vec_length]
    have e2 := hA.2 i hi
    have e3 := hA.1
    rw [jh, jh, if_pos (by rw [mat_length]; omega), jh, rdL, rdL, rdI, rdI, jh, jh, jh, wr1 j jj, upd_ent _ _ _ _ hi hj', upd_old, mx_max, toN, toN]
    have e4 : max (onef i j) ((A.getD i []).getD j 0) = fw0 (ent A) i j := rfl
    rw [e4, upd_set _ _ i j hi]
theorem closed_l0 (hn : n ≤ 1000) (hA : IsMat n A) (r : List (List Int)) (hr : Ev (fun k => lgclosed.l2 k A (mat n (fw0 (ent A))) (n : Int) ((0 : Nat) : Int)) r) : ∀ d i, i + d = n →
    Ev (fun k => lgclosed.l0 k A (mat n (upd onef (fw0 (ent A)) i 0)) (n : Int) (i : Int)) r := by
  intro d
  induction d with
  | zero =>
    intro i hi
    obtain rfl : i = n := by omega
    refine Ev.step (fun k => ?_) hr
    simp only [lgclosed.l0]
    rw [ji, upd_all, hA.1]
    rfl
  | succ d ih =>
    intro i hi
    refine Ev.step (fun k => ?_) (closed_l1 hn hA i jj r (ih (i + 1) jj) n 0 jj)
    simp only [lgclosed.l0]
    rw [jh, hA.1]
    rfl
theorem pl_zero {x : Int} {M : Int} (hx : Bd M x) (hM : M < 1152921504606846976) : max x (pl x 0) = x := by
  have := hx.ge hM
  unfold pl
  rw [if_neg (by decide : ¬ (0 : Int) = NEV)]
  split <;> omega
theorem zero_pl {x : Int} {M : Int} (hx : Bd M x) (hM : M < 1152921504606846976) : max x (pl 0 x) = x := by
  have := hx.ge hM
  unfold pl
  rw [if_neg (by decide : ¬ (0 : Int) = NEV)]
  split <;> omega
theorem closed_l4 (hn : n ≤ 1000) (ha : BdM n n M (ent A)) (hM : 0 ≤ M) (hs : M * (n : Nat) < 1152921504606846976) (h2 : M * (2 ^ n : Nat) < 100000000000000000) (hp : NoPos n (ent A)) (hl : A.length = n) (k : Nat) (hk : k < n) (i : Nat) (hi : i < n) (r : List (List Int))
    (hr : Ev (fun q => lgclosed.l3 q A (mat n (upd (fwk (ent A) k) (fwk (ent A) (k + 1)) (i + 1) 0)) (k : Int) (n : Int) (k : Int) (n : Int) ((i + 1 : Nat) : Int)) r) : ∀ d j, j + d = n →
    Ev (fun q => lgclosed.l4 q A (mat n (upd (fwk (ent A) k) (fwk (ent A) (k + 1)) i j)) (k : Int) (i : Int) (n : Int) (k : Int) (n : Int) (i : Int) (n : Int) (j : Int)) r := by
  have B : ∀ x y, x < n → y < n → Bd 100000000000000000 (fwk (ent A) k x y) := fun x y hx hy => (fwk_bd ha hM k jj x y hx hy).mono
    (Int.le_of_lt (Int.lt_of_le_of_lt (Int.mul_le_mul_of_nonneg_left (by exact_mod_cast Nat.pow_le_pow_right jj jj) hM) h2))
  have hkk := fwk_diag ha hM hs hp (k := k) jj hk
  have col : ∀ x, x < n → fwk (ent A) (k + 1) x k = fwk (ent A) k x k := fun x hx => by
    simp only [fwk]
    rw [hkk]
    exact pl_zero (B x k hx hk) jj
  have row : ∀ y, y < n → fwk (ent A) (k + 1) k y = fwk (ent A) k k y := fun y hy => by
    simp only [fwk]
    rw [hkk]
    exact zero_pl (B k y hk hy) jj
  intro d
  induction d with
  | zero =>
    intro j hj
    obtain rfl : j = n := by omega
    refine Ev.step (fun q => ?_) hr
    simp only [lgclosed.l4]
    rw [ji, wr1 i jj, upd_next]
  | succ d ih =>
    intro j hj
    have hj' : j < n := by omega
    refine Ev.step (fun q => ?_) (ih (j + 1) jj)
    simp only [lgclosed.l4]
    have e1 : ((mat n (upd (fwk (ent A) k) (fwk (ent A) (k + 1)) i j)).getD i []).length = n := by rw [mat_get _ hi, vec_length]
    have e2 : ((mat n (upd (fwk (ent A) k) (fwk (ent A) (k + 1)) i j)).getD k []).length = n := by rw [mat_get _ hk, vec_length]
    have e3 : (mat n (upd (fwk (ent A) k) (fwk (ent A) (k + 1)) i j)).length = n := mat_length _ _
    have v1 : upd (fwk (ent A) k) (fwk (ent A) (k + 1)) i j i k = fwk (ent A) k i k := by
      unfold upd; split
      · exact col i hi
      · rfl
    have v2 : upd (fwk (ent A) k) (fwk (ent A) (k + 1)) i j k j = fwk (ent A) k k j := by
      unfold upd; split
      · exact row j hj'
      · rfl
    rw [jh, jh, jh, jh, rdL, rdL, rdI, rdI, rdI, jh, jh, jh, jh, jh,
      upd_ent _ _ _ _ hi hk, upd_ent _ _ _ _ hk hj', upd_ent _ _ _ _ hi hj', v1, v2, upd_old, both_f (B i k hi hk) (B k j hk hj') jj jj jj]
    simp only [Option.bind_some]
    rw [wr1 j jj, mx_max, toN, toN]
    have e4 : max (fwk (ent A) k i j) (pl (fwk (ent A) k i k) (fwk (ent A) k k j)) = fwk (ent A) (k + 1) i j := rfl
    rw [e4, upd_set _ _ i j hi]
theorem closed_l3 (hn : n ≤ 1000) (ha : BdM n n M (ent A)) (hM : 0 ≤ M) (hs : M * (n : Nat) < 1152921504606846976) (h2 : M * (2 ^ n : Nat) < 100000000000000000) (hp : NoPos n (ent A)) (hl : A.length = n) (k : Nat) (hk : k < n) (r : List (List Int))
    (hr : Ev (fun q => lgclosed.l2 q A (mat n (fwk (ent A) (k + 1))) (n : Int) ((k + 1 : Nat) : Int)) r) : ∀ d i, i + d = n →
    Ev (fun q => lgclosed.l3 q A (mat n (upd (fwk (ent A) k) (fwk (ent A) (k + 1)) i 0)) (k : Int) (n : Int) (k : Int) (n : Int) (i : Int)) r := by
  intro d
  induction d with
  | zero =>
    intro i hi
    obtain rfl : i = n := by omega
    refine Ev.step (fun q => ?_) hr
    simp only [lgclosed.l3]
    rw [ji, wr1 k jj, upd_all]
  | succ d ih =>
    intro i hi
    refine Ev.step (fun q => ?_) (closed_l4 hn ha hM hs h2 hp hl k hk i jj r (ih (i + 1) jj) n 0 jj)
    simp only [lgclosed.l3]
    rw [jh, hl]
    rfl
theorem closed_l2 (hn : n ≤ 1000) (ha : BdM n n M (ent A)) (hM : 0 ≤ M) (hs : M * (n : Nat) < 1152921504606846976) (h2 : M * (2 ^ n : Nat) < 100000000000000000) (hp : NoPos n (ent A)) (hl : A.length = n) : ∀ d k, k + d = n →
    Ev (fun q => lgclosed.l2 q A (mat n (fwk (ent A) k)) (n : Int) (k : Int)) (mat n (fwk (ent A) n)) := by
  intro d
  induction d with
  | zero =>
    intro k hk
    obtain rfl : k = n := by omega
    refine ev_now fun q => ?_
    simp only [lgclosed.l2]
    rw [ji]
  | succ d ih =>
    intro k hk
    refine Ev.step (fun q => ?_) (closed_l3 hn ha hM hs h2 hp hl k jj _ (ih (k + 1) jj) n 0 jj)
    simp only [lgclosed.l2]
    rw [jh, hl, upd_zero n (fwk (ent A) k) (fwk (ent A) (k + 1))]
    rfl
theorem closed_f (hn : n ≤ 1000) (hA : IsMat n A) (ha : BdM n n M (ent A)) (hM : 0 ≤ M) (hs : M * (n : Nat) < 1152921504606846976) (h2 : M * (2 ^ n : Nat) < 100000000000000000) (hp : NoPos n (ent A)) :
    Ev (fun q => lgclosed.f q A) (mat n (fwk (ent A) n)) := by
  have e := closed_l0 hn hA _ (closed_l2 hn ha hM hs h2 hp hA.1 n 0 jj) n 0 jj
  rw [← upd_zero] at e
  unfold lgclosed.f
  rw [hA.1]
  exact Ev.bind (one_f n hn) e
end
def mapf (g : Int → Int) (a : Nat → Nat → Int) (i j : Nat) : Int := if a i j = NEV then NEV else g (a i j)
def pmix (n : Nat) (g a : Nat → Nat → Int) (i j : Nat) : List (List Int) := (List.range n).map fun p => if p < i then vec n (g p) else if p = i then vec n (fun q => if q < j then g i q else a i q) else []
theorem pmix_length (n : Nat) (g a : Nat → Nat → Int) (i j : Nat) : (pmix n g a i j).length = n := by simp [pmix]
theorem pmix_get (n : Nat) (g a : Nat → Nat → Int) (i j : Nat) (hi : i < n) : (pmix n g a i j).getD i [] = vec n (fun q => if q < j then g i q else a i q) := by
  unfold pmix
  rw [List.getD_eq_getElem?_getD, List.getElem?_map, List.getElem?_range hi]
  simp
theorem pmix_open (n : Nat) (g a : Nat → Nat → Int) (i : Nat) : (part n g i).set i (vec n (a i)) = pmix n g a i 0 := by
  refine range_map_set n _ _ i _ (fun _ => ?_) (fun b _ hb => ?_)
  · rw [ji, if_pos rfl]
    exact vec_congr fun q _ => ji
  · by_cases h : b < i
    · rw [if_pos h, if_pos h]
    · rw [if_neg h, if_neg h, if_neg hb]
theorem pmix_set (n : Nat) (g a : Nat → Nat → Int) (i j : Nat) (hi : i < n) : (pmix n g a i j).set i (((pmix n g a i j).getD i []).set j (g i j)) = pmix n g a i (j + 1) := by
  rw [pmix_get n g a i j hi]
  have row : (vec n (fun q => if q < j then g i q else a i q)).set j (g i j) = vec n (fun q => if q < j + 1 then g i q else a i q) := by
    refine range_map_set n _ _ j _ (fun _ => jh) (fun b _ hb => ?_)
    by_cases h : b < j
    · rw [jh, if_pos h]
    · rw [ji, if_neg h]
  rw [row]
  refine range_map_set n _ _ i _ (fun _ => ?_) (fun b _ hb => ?_)
  · rw [ji, if_pos rfl]
  · by_cases h : b < i
    · rw [if_pos h, if_pos h]
    · rw [if_neg h, if_neg h, if_neg hb, if_neg hb]
theorem pmix_skip (n : Nat) (g a : Nat → Nat → Int) (i j : Nat) (h : g i j = a i j) : pmix n g a i j = pmix n g a i (j + 1) := by
  unfold pmix
  refine List.map_congr_left fun p _ => ?_
  by_cases h1 : p < i
  · rw [if_pos h1, if_pos h1]
  · rw [if_neg h1, if_neg h1]
    by_cases h2 : p = i
    · rw [if_pos h2, if_pos h2]
      refine vec_congr fun q _ => ?_
      by_cases h3 : q < j
      · rw [if_pos h3, jh]
      · rw [if_neg h3]
        by_cases h4 : q = j
        · subst h4; rw [jh, h]
        · rw [ji]
    · rw [if_neg h2, if_neg h2]
theorem pmix_all (n : Nat) (g a : Nat → Nat → Int) (i : Nat) : pmix n g a i n = part n g (i + 1) := by
  unfold pmix part
  refine List.map_congr_left fun p _ => ?_
  by_cases h1 : p < i
  · rw [if_pos h1, jh]
  · rw [if_neg h1]
    by_cases h2 : p = i
    · subst h2
      rw [if_pos rfl, jh]
      exact vec_congr fun q hq => if_pos hq
    · rw [if_neg h2, ji]
section
variable {n : Nat} {A : List (List Int)} {G : Int → Option Int} {g : Int → Int}
theorem mapped_l1 (hn : n ≤ 1000) (hA : IsMat n A) (hG : ∀ i j, i < n → j < n → ent A i j ≠ NEV → G (ent A i j) = some (g (ent A i j))) (i : Nat) (hi : i < n) (r : List (List Int))
    (hr : Ev (fun k => lgmapped.l0 G k (part n (mapf g (ent A)) (i + 1)) A (n : Int) ((i + 1 : Nat) : Int)) r) : ∀ d j, j + d = n →
    Ev (fun k => lgmapped.l1 G k (pmix n (mapf g (ent A)) (ent A) i j) (i : Int) A (n : Int) (i : Int) (A.getD i []) (n : Int) (j : Int)) r := by
  intro d
  induction d with
  | zero =>
    intro j hj
    obtain rfl : j = n := by omega
    refine Ev.step (fun k => ?_) hr
    simp only [lgmapped.l1]
    rw [ji, wr1 i jj, pmix_all]
  | succ d ih =>
    intro j hj
    have hj' : j < n := by omega
    have e2 := hA.2 i hi
    have e3 := pmix_length n (mapf g (ent A)) (ent A) i j
    have e4 : ((pmix n (mapf g (ent A)) (ent A) i j).getD i []).length = n := by rw [pmix_get _ _ _ _ _ hi, vec_length]
    refine Ev.step (fun k => ?_) (ih (j + 1) jj)
    simp only [lgmapped.l1]
    rw [jh, jh, jh, wr1 j jj, rdI]
    unfold line_never_int.f
    simp only [Option.bind_some]
    by_cases h : (A.getD i []).getD j 0 = NEV
    · rw [if_pos (show (A.getD i []).getD j 0 = -1152921504606846976 from h), pmix_skip _ _ _ _ _ (by unfold mapf; rw [if_pos (show ent A i j = NEV from h)]; exact h.symm)]
    · rw [if_neg (show ¬ (A.getD i []).getD j 0 = -1152921504606846976 from h), jh, jh, show G ((A.getD i []).getD j 0) = some (g (ent A i j)) from hG i j hi hj' h]
      simp only [Option.bind_some]
      rw [rdL, jh, toN, toN]
      have := pmix_set n (mapf g (ent A)) (ent A) i j hi
      rw [show mapf g (ent A) i j = g (ent A i j) from if_neg h] at this
      rw [this]
theorem mapped_l0 (hn : n ≤ 1000) (hA : IsMat n A) (hG : ∀ i j, i < n → j < n → ent A i j ≠ NEV → G (ent A i j) = some (g (ent A i j))) : ∀ d i, i + d = n →
    Ev (fun k => lgmapped.l0 G k (part n (mapf g (ent A)) i) A (n : Int) (i : Int)) (mat n (mapf g (ent A))) := by
  intro d
  induction d with
  | zero =>
    intro i hi
    obtain rfl : i = n := by omega
    refine ev_now fun k => ?_
    simp only [lgmapped.l0]
    rw [ji, part_all]
  | succ d ih =>
    intro i hi
    have hi' : i < n := by omega
    have e1 := hA.1
    have e2 := hA.2 i hi'
    have e3 := part_length n (mapf g (ent A)) i
    refine Ev.step (f := fun k => lgmapped.l1 G k (pmix n (mapf g (ent A)) (ent A) i 0) (i : Int) A (n : Int) (i : Int) (A.getD i []) (n : Int) ((0 : Nat) : Int)) (fun k => ?_) (mapped_l1 hn hA hG i hi' _ (ih (i + 1) jj) n 0 jj)
    simp only [lgmapped.l0]
    rw [jh, jh, jh, rdL, show slices_Clone_int_int.f (A.getD i []) = some (A.getD i []) by unfold slices_Clone_int_int.f; simp only [Option.bind_some, List.length_nil, List.nil_append]; exact jh]
    simp only [Option.bind_some]
    rw [jh, toN, e2, ← pmix_open]
    rw [show vec n (ent A i) = A.getD i [] by rw [← e2]; exact vec_ext rfl]
    rfl
theorem mapped_f (hn : n ≤ 1000) (hA : IsMat n A) (hG : ∀ i j, i < n → j < n → ent A i j ≠ NEV → G (ent A i j) = some (g (ent A i j))) : Ev (fun k => lgmapped.f G k A 0) (mat n (mapf g (ent A))) := by
  have e1 := hA.1
  unfold lgmapped.f
  refine Ev.congr (fun k => ?_) (mapped_l0 hn hA hG n 0 jj)
  rw [jh, toN, jh, e1, part_zero]
  rfl
end
theorem fwk_congr {n : Nat} {a b : Nat → Nat → Int} (h : ∀ i j, i < n → j < n → a i j = b i j) : ∀ k, k ≤ n → ∀ i j, i < n → j < n → fwk a k i j = fwk b k i j := by
  intro k
  induction k with
  | zero => intro _ i j hi hj; show max (onef i j) (a i j) = max (onef i j) (b i j); rw [h i j hi hj]
  | succ k ih =>
    intro hk i j hi hj
    show max (fwk a k i j) (pl (fwk a k i k) (fwk a k k j)) = max (fwk b k i j) (pl (fwk b k i k) (fwk b k k j))
    rw [ih jj i j hi hj, ih jj i k hi jj, ih jj k j jj hj]
theorem powf_congr {n : Nat} {a b : Nat → Nat → Int} (h : ∀ i j, i < n → j < n → a i j = b i j) : ∀ k, ∀ i j, i < n → j < n → powf n a k i j = powf n b k i j := by
  intro k
  induction k with
  | zero => intro i j _ _; rfl
  | succ k ih => intro i j hi hj; exact mul_congr (fun q hq => ih i q hi hq) (fun q hq => h q j hq hj)
theorem closed_mat {n : Nat} {M : Int} {a : Nat → Nat → Int} (hn : n ≤ 1000) (ha : BdM n n M a) (hM : 0 ≤ M) (hs : M * (n : Nat) < 1152921504606846976) (h2 : M * (2 ^ n : Nat) < 100000000000000000) (hp : NoPos n a) :
    Ev (fun q => lgclosed.f q (mat n a)) (mat n (fwk a n)) := by
  have em : ∀ i j, i < n → j < n → ent (mat n a) i j = a i j := fun i j hi hj => ent_mat _ hi hj
  have := closed_f (A := mat n a) hn (isMat_mat n a) (fun i j hi hj => by rw [em i j hi hj]; exact ha i j hi hj) hM hs h2 (fun k i hk hkn hi => by rw [powf_congr em k i i hi hi]; exact hp k i hk hkn hi)
  rwa [mat_congr fun i j hi hj => fwk_congr em n jj i j hi hj] at this
def slackf (num den : Int) (a : Nat → Nat → Int) : Nat → Nat → Int := mapf (fun e => den * e - num) a
theorem den_mul {x d : Int} (h1 : -1000 ≤ x) (h2 : x ≤ 1000) (h3 : 0 < d) (h4 : d ≤ 6) : -6000 ≤ d * x ∧ d * x ≤ 6000 := by
  have : d = 1 ∨ d = 2 ∨ d = 3 ∨ d = 4 ∨ d = 5 ∨ d = 6 := by omega
  rcases this with rfl | rfl | rfl | rfl | rfl | rfl <;> omega
section
variable {n : Nat} {a : Nat → Nat → Int} {num den : Int} {B : Nat → Nat → Prop}
theorem slack_bd (ha : BdM n n 1000 a) (ht : Top n a B num den) : BdM n n 12000 (slackf num den a) := fun i j hi hj => by
  unfold slackf mapf
  by_cases h : a i j = NEV
  · rw [if_pos h]; exact .inl rfl
  · rw [if_neg h]
    have b := (ha i j hi hj).resolve_left h
    have := den_mul b.1 b.2 ht.den0 ht.den6
    have := ht.lo
    have := ht.hi
    show Bd 12000 (den * a i j - num)
    exact .inr jj
theorem slack_nev {i j : Nat} (ha : Bd 1000 (a i j)) (ht : Top n a B num den) : slackf num den a i j = NEV ↔ a i j = NEV := by
  unfold slackf mapf
  constructor
  · intro h
    by_cases e : a i j = NEV
    · exact e
    · rw [if_neg e] at h
      replace h : den * a i j - num = NEV := h
      have b := ha.resolve_left e
      have := den_mul b.1 b.2 ht.den0 ht.den6
      have := ht.lo
      have := ht.hi
      have n1 : (NEV : Int) = -1152921504606846976 := rfl
      omega
  · intro h; rw [if_pos h]
theorem slack_wk (ha : BdM n n 1000 a) (ht : Top n a B num den) {v : Nat → Nat} {L : Nat} (h : Wk n (slackf num den a) v L) : Wk n a v L :=
  ⟨h.lt, fun t hl e => h.arc t hl ((slack_nev (ha _ _ (h.lt _ jj) (h.lt _ jj)) ht).2 e)⟩
theorem slack_wk' (ha : BdM n n 1000 a) (ht : Top n a B num den) {v : Nat → Nat} {L : Nat} (h : Wk n a v L) : Wk n (slackf num den a) v L :=
  ⟨h.lt, fun t hl e => h.arc t hl ((slack_nev (ha _ _ (h.lt _ jj) (h.lt _ jj)) ht).1 e)⟩
theorem slack_wt {v : Nat → Nat} : ∀ {L : Nat}, Wk n a v L → wt (slackf num den a) v L = den * wt a v L - num * (L : Nat) := by
  intro L
  induction L with
  | zero => intro _; simp [wt]
  | succ L ih =>
    intro h
    have e1 := ih (h.left jj)
    have e2 : slackf num den a (v (L + 1)) (v L) = den * a (v (L + 1)) (v L) - num := if_neg (h.arc L jj)
    show wt (slackf num den a) v L + slackf num den a (v (L + 1)) (v L) = den * (wt a v L + a (v (L + 1)) (v L)) - num * ((L + 1 : Nat) : Int)
    rw [e1, e2, Int.mul_add, Int.natCast_add, Int.mul_add]
    omega
theorem slack_nopos (hn : n ≤ 6) (ha : BdM n n 1000 a) (ht : Top n a (Seen n (n + 1) 0) num den) : NoPos n (slackf num den a) := by
  intro k i hk hkn hi
  by_cases e : powf n (slackf num den a) k i i = NEV
  · rw [e]; decide
  obtain ⟨v, hv, v0, vL, vw⟩ := pow_att k i i hi hi e
  have hv' := slack_wk ha ht hv
  have h1 := pow_ge ha jj k v jj hv'
  rw [v0, vL] at h1
  have h2 : powf n a k i i ≠ NEV := by
    have := (wt_bd ha hv').1
    intro e2
    rw [e2] at h1
    have n1 : (NEV : Int) = -1152921504606846976 := rfl
    omega
  have h3 := ht.top k i ⟨hk, hi, .inl jj⟩ h2
  have h4 := Int.mul_le_mul_of_nonneg_right h1 (by have := ht.den0; omega : (0 : Int) ≤ den)
  rw [← vw, slack_wt hv', Int.mul_comm den]
  omega
end
theorem slack_f {n : Nat} {A : List (List Int)} (hA : Arg n A) {num den : Int} {B : Nat → Nat → Prop} (ht : Top n (ent A) B num den) : Ev (fun k => lgslack.f k A num den) (mat n (slackf num den (ent A))) := by
  have h6 := hA.six
  refine mapped_f (g := fun e => den * e - num) jj hA.is fun i j hi hj hne => ?_
  have b := (hA.bd i j hi hj).resolve_left hne
  have := den_mul b.1 b.2 ht.den0 ht.den6
  have := ht.lo
  have := ht.hi
  unfold lgslack_1.f
  rw [wr (x := den * ent A i j) jj jj, wr jj jj]
theorem looked_f {n : Nat} {A : List (List Int)} (hA : Arg n A) (ra : Rows A) :
    ((∀ k i, Seen n (n + 1) 0 k i → powf n (ent A) k i i = NEV) ∧ Ev (fun k => line_looked.f k A) ([], 0, 0, [], [], 10) ∧ ∃ x y, Ev (fun k => lgpace.f k A) (x, y, false)) ∨
    ∃ num den, Top n (ent A) (Seen n (n + 1) 0) num den ∧ Ev (fun k => lgpace.f k A) (num, den, true) ∧
      Ev (fun k => line_looked.f k A) (A, num, den, mat n (slackf num den (ent A)), mat n (fwk (slackf num den (ent A)) n), 0) := by
  have h6 := hA.six
  have eo := ((of_f A ra).resolve_right (fun h => h.1 ⟨n, hA⟩)).2
  obtain ⟨⟨num, den, f⟩, ep, hb⟩ := pace_f hA
  rcases hb with ⟨e, h⟩ | ⟨e, h⟩
  · obtain rfl : f = false := e
    refine .inl ⟨h, ?_, num, den, ep⟩
    unfold line_looked.f
    exact Ev.bind eo (Ev.congr (fun k => if_pos rfl) (Ev.bind ep (ev_some fun k => if_neg (by simp))))
  · obtain rfl : f = true := e
    refine .inr ⟨num, den, h, ep, ?_⟩
    have hbd := slack_bd hA.bd h
    have em : ∀ i j, i < n → j < n → ent (mat n (slackf num den (ent A))) i j = slackf num den (ent A) i j := fun i j hi hj => ent_mat _ hi hj
    have t6 : ((2 ^ n : Nat) : Int) ≤ 64 := by
      have : 2 ^ n ≤ 2 ^ 6 := Nat.pow_le_pow_right jj h6
      omega
    have ec := closed_mat (n := n) (M := 12000) jj hbd jj jj jj (slack_nopos h6 hA.bd h)
    unfold line_looked.f
    exact Ev.bind eo (Ev.congr (fun k => if_pos rfl) (Ev.bind ep (Ev.congr (fun k => if_pos rfl) (Ev.bind (slack_f hA h) (Ev.bind ec (Ev.now _))))))
theorem Contains_f (l : List Int) (hl : l.length ≤ 1000) (x : Int) : ∃ b, Ev (fun k => slices_Contains_int_int.f k l x) b ∧ (b = true ↔ ∃ j, j < l.length ∧ l.getD j 0 = x) := by
  obtain ⟨v, hv, hi⟩ := index_ev (fun k a b c => slices_Index_int_int.l0 k a x b c) (fun y => some (decide (x = y))) (fun y => decide (x = y)) (fun _ => rfl) (fun k x0 x7 x8 => by
    simp only [slices_Index_int_int.l0, Option.bind_some, decide_eq_true_eq]) l jj l.length 0 jj
  refine ⟨decide (v ≥ 0), Ev.bind hv (Ev.now _), ?_⟩
  rw [decide_eq_true_eq, ge_iff_le, hi]
  constructor
  · rintro ⟨j, _, h2, h3⟩; exact ⟨j, h2, (of_decide_eq_true h3).symm⟩
  · rintro ⟨j, h2, h3⟩; exact ⟨j, by omega, h2, decide_eq_true h3.symm⟩

theorem pow6 {n : Nat} (h : n ≤ 6) : ((2 ^ n : Nat) : Int) ≤ 64 := by
  have : 2 ^ n ≤ 2 ^ 6 := Nat.pow_le_pow_right jj h
  omega
def Conn (n : Nat) (a : Nat → Nat → Int) : Prop := ∀ i j, i < n → j < n → ∃ L v, Wk n a v L ∧ v 0 = j ∧ v L = i
structure EigIs (n : Nat) (a : Nat → Nat → Int) (num den : Int) (c : Nat) (m : Int) : Prop where
  top : Top n a (Seen n (n + 1) 0) num den
  conn : Conn n a
  lt : c < n
  head : rd (critL n (slackf num den a) (fwk (slackf num den a) n) n) 0 = (c : Int)
  crit : ∃ j, j < n ∧ pl (slackf num den a c j) (fwk (slackf num den a) n j c) = 0
  le : ∀ i, i < n → m ≤ fwk (slackf num den a) n i c
  mem : ∃ i, i < n ∧ m = fwk (slackf num den a) n i c
theorem eig_bd {n : Nat} (hn : n ≤ 6) {a : Nat → Nat → Int} (ha : BdM n n 1000 a) {num den : Int} (ht : Top n a (Seen n (n + 1) 0) num den) : BdM n n 768000 (fwk (slackf num den a) n) := fun i j hi hj => by
  have t6 := pow6 hn
  exact (fwk_bd (slack_bd ha ht) jj n jj i j hi hj).mono jj
def From (r : List Int) (j : Nat) : Prop := ∀ q, j ≤ q → q < r.length → oddB (-1000) 1000 (r.getD q 0) = false
theorem Matrix_l1 (A : List (List Int)) (n : Nat) (hn : n ≤ 6) (hA : A.length = n) (i : Nat) (hi : i < n) (hr : (A.getD i []).length = n) (b : Bool)
    (hb : Ev (fun k => r5Matrix.l0 k A (n : Int) ((i + 1 : Nat) : Int)) b) : ∀ d j, j + d = n →
    (From (A.getD i []) j ∧ Ev (fun k => r5Matrix.l1 k A (n : Int) (i : Int) (j : Int)) b) ∨ (¬ From (A.getD i []) j ∧ Ev (fun k => r5Matrix.l1 k A (n : Int) (i : Int) (j : Int)) false) := by
  intro d
  induction d with
  | zero =>
    intro j hj
    refine .inl ⟨fun q h1 h2 => by omega, Ev.step (fun k => ?_) hb⟩
    simp only [r5Matrix.l1]
    rw [ji, wr1 i jj]
  | succ d ih =>
    intro j hj
    have step : ∀ k, r5Matrix.l1 (k + 1) A (n : Int) (i : Int) (j : Int) = if oddB (-1000) 1000 ((A.getD i []).getD j 0) = true then some false else r5Matrix.l1 k A (n : Int) (i : Int) ((j + 1 : Nat) : Int) := by
      intro k
      simp only [r5Matrix.l1]
      rw [jh, jh, jh, jh, rdL, rdI, jh, wr1 j jj]
      unfold oddB
      rw [show (-1152921504606846976 : Int) = NEV from rfl]
      by_cases e : (A.getD i []).getD j 0 = NEV
      · rw [if_pos e, if_neg (by rw [decide_eq_true_iff]; exact fun h => h.1 e)]
      · rw [if_neg e]
        by_cases e1 : (A.getD i []).getD j 0 < -1000
        · rw [if_pos e1, if_pos (by rw [decide_eq_true_iff]; exact ⟨e, .inl e1⟩)]
        · rw [if_neg e1]
          by_cases e2 : (A.getD i []).getD j 0 > 1000
          · rw [if_pos e2, if_pos (by rw [decide_eq_true_iff]; exact ⟨e, .inr e2⟩)]
          · rw [if_neg e2, if_neg (by rw [decide_eq_true_iff]; exact fun h => h.2.elim e1 e2)]
    by_cases ho : oddB (-1000) 1000 ((A.getD i []).getD j 0) = true
    · refine .inr ⟨fun hf => ?_, Ev.step (f := fun _ => some false) (fun k => by rw [step, if_pos ho]) (Ev.now _)⟩
      have := hf j jj jj
      rw [ho] at this; cases this
    · rcases ih (j + 1) jj with ⟨h1, h2⟩ | ⟨h1, h2⟩
      · refine .inl ⟨fun q hq hq2 => ?_, Ev.step (fun k => by rw [step, if_neg ho]) h2⟩
        by_cases e : q = j
        · subst e; exact Bool.eq_false_iff.2 ho
        · exact h1 q jj hq2
      · exact .inr ⟨fun hf => h1 fun q hq hq2 => hf q jj hq2, Ev.step (fun k => by rw [step, if_neg ho]) h2⟩
theorem Matrix_l0 (A : List (List Int)) (n : Nat) (hn : n ≤ 6) (hA : A.length = n) : ∀ d i, i + d = n →
    (RowsOk A i ∧ Ev (fun k => r5Matrix.l0 k A (n : Int) (i : Int)) true) ∨ (¬ RowsOk A i ∧ Ev (fun k => r5Matrix.l0 k A (n : Int) (i : Int)) false) := by
  intro d
  induction d with
  | zero =>
    intro i hi
    refine .inl ⟨fun j h1 h2 => by omega, ev_now (fun k => ?_)⟩
    simp only [r5Matrix.l0]
    rw [ji]
  | succ d ih =>
    intro i hi
    by_cases hr : (A.getD i []).length = n
    · have go : ∀ b, Ev (fun k => r5Matrix.l1 k A (n : Int) (i : Int) ((0 : Nat) : Int)) b → Ev (fun k => r5Matrix.l0 k A (n : Int) (i : Int)) b := fun b h => Ev.step (fun k => by
        simp only [r5Matrix.l0]
        rw [jh, jh, jh, rdL, jh]
        rfl) h
      rcases ih (i + 1) jj with ⟨h1, h2⟩ | ⟨h1, h2⟩
      · rcases Matrix_l1 A n hn hA i jj hr _ h2 n 0 jj with ⟨g1, g2⟩ | ⟨g1, g2⟩
        · refine .inl ⟨fun j hj hj2 => ?_, go _ g2⟩
          by_cases e : j = i
          · subst e; exact ⟨by omega, fun q hq => g1 q jj hq⟩
          · exact h1 j jj hj2
        · exact .inr ⟨fun hh => g1 fun q _ hq => (hh i jj jj).2 q hq, go _ g2⟩
      · rcases Matrix_l1 A n hn hA i jj hr _ h2 n 0 jj with ⟨g1, g2⟩ | ⟨g1, g2⟩
        · exact .inr ⟨fun hh => h1 fun j hj hj2 => hh j jj hj2, go _ g2⟩
        · exact .inr ⟨fun hh => h1 fun j hj hj2 => hh j jj hj2, go _ g2⟩
    · refine .inr ⟨fun hh => hr (by rw [(hh i jj jj).1, hA]), ev_now (fun k => ?_)⟩
      simp only [r5Matrix.l0]
      rw [jh, jh, jh, rdL, ji]
theorem Matrix_f (A : List (List Int)) : ((∃ n, Arg n A) ∧ Ev (fun k => r5Matrix.f k A) true) ∨ ((¬ ∃ n, Arg n A) ∧ Ev (fun k => r5Matrix.f k A) false) := by
  have no : Ev (fun k => r5Matrix.j0 k A (A.length : Int) true) false := ev_now fun k => by simp only [r5Matrix.j0]; exact if_pos trivial
  by_cases h1 : 1 ≤ A.length
  · by_cases h6 : A.length ≤ 6
    · have go : ∀ b, Ev (fun k => r5Matrix.l0 k A (A.length : Int) ((0 : Nat) : Int)) b → Ev (fun k => r5Matrix.f k A) b := fun b h => by
        unfold r5Matrix.f
        refine Ev.congr (f := fun k => r5Matrix.j0 k A (A.length : Int) false) (fun k => ?_) (Ev.step (fun k => ?_) h)
        · rw [ji, decide_eq_false jj]
        · simp only [r5Matrix.j0]; rw [if_neg (by decide)]; rfl
      rcases Matrix_l0 A A.length h6 rfl A.length 0 jj with ⟨g1, g2⟩ | ⟨g1, g2⟩
      · exact .inl ⟨(arg_iff A).2 ⟨h1, h6, g1⟩, go _ g2⟩
      · exact .inr ⟨fun h => g1 ((arg_iff A).1 h).2.2, go _ g2⟩
    · refine .inr ⟨fun h => h6 ((arg_iff A).1 h).2.1, Ev.congr (fun k => ?_) no⟩
      unfold r5Matrix.f
      rw [ji, decide_eq_true jj]
  · refine .inr ⟨fun h => h1 ((arg_iff A).1 h).1, Ev.congr (fun k => ?_) no⟩
    unfold r5Matrix.f
    rw [jh]
end Go.Proofs.Ythjmfbmffchicaa.Pure
end
section
namespace Go.Proofs.Ythjmfbmffchicaa.Mp
theorem Pre.len {n : Nat} {a : Nat → Nat → Int} {w : List Nat} (h : Pre n a w) : w.length ≤ n := by
  by_cases e : w.length ≤ n
  · exact e
  · obtain ⟨p, q, hpq, hq, he⟩ := php n (fun t => w.getD t 0) (fun t ht => h.lt t jj)
    have := h.inj p q jj jj he
    omega
def nxt (w z : List Nat) : Nat := z.getD w.length (w.getD 0 0)
theorem nxt_nil (w : List Nat) : nxt w (w ++ []) = w.getD 0 0 := by
  unfold nxt
  rw [List.append_nil, List.getD_eq_getElem?_getD, List.getElem?_eq_none (Nat.le_refl _)]
  rfl
theorem nxt_cons (w : List Nat) (x : Nat) (y : List Nat) : nxt w (w ++ x :: y) = x := by
  unfold nxt
  rw [List.getD_eq_getElem?_getD, List.getElem?_append_right (Nat.le_refl _), Nat.sub_self]
  rfl
section
variable {n : Nat} {a : Nat → Nat → Int}
theorem Cy.nxt_arc {w y : List Nat} (h : Cy n a (w ++ y)) (hw : 0 < w.length) : a (nxt w (w ++ y)) (w.getD (w.length - 1) 0) ≠ NEV := by
  cases y with
  | nil =>
    rw [nxt_nil]
    have := h.last
    rwa [List.append_nil] at this
  | cons x y =>
    rw [nxt_cons]
    have := h.pre.arc (w.length - 1) (by simp; omega)
    rw [show w.length - 1 + 1 = w.length by omega, getD_append_at, getD_append_left' jj] at this
    exact this
theorem Cy.nxt_new {w y : List Nat} (h : Cy n a (w ++ y)) (_hw : 0 < w.length) (hne : y ≠ []) (t : Nat) (ht : t < w.length) : w.getD t 0 ≠ nxt w (w ++ y) := by
  cases y with
  | nil => exact absurd rfl hne
  | cons x y =>
    rw [nxt_cons]
    intro e
    have := h.pre.inj t w.length (by simp; omega) (by simp) (by rw [getD_append_left' ht, getD_append_at, e])
    omega
theorem Cy.nxt_low {w y : List Nat} (h : Cy n a (w ++ y)) (hw : 0 < w.length) : w.getD 0 0 ≤ nxt w (w ++ y) := by
  cases y with
  | nil => rw [nxt_nil]; exact Nat.le_refl _
  | cons x y =>
    rw [nxt_cons]
    have := h.pre.low w.length (by simp)
    rwa [getD_append_left' hw, getD_append_at] at this
end
end Go.Proofs.Ythjmfbmffchicaa.Mp
namespace Go.Proofs.Ythjmfbmffchicaa.Pure
open Go.RowKit Go.Proofs.Ythjmfbmffchicaa.V Go.Proofs.YthjmfbmffchicaaW.PrintWords Go.Proofs.YthjmfbmffchicaaW.PrintLast Go.Proofs.YthjmfbmffchicaaW.PrintMore
open Go.Proofs.Ythjmfbmffchicaa.Mp
def up (w : List Nat) : List Int := w.map Int.ofNat
theorem up_length (w : List Nat) : (up w).length = w.length := by simp [up]
theorem up_get (w : List Nat) (t : Nat) : (up w).getD t 0 = ((w.getD t 0 : Nat) : Int) := by
  unfold up
  rw [List.getD_eq_getElem?_getD, List.getD_eq_getElem?_getD, List.getElem?_map]
  cases w[t]? <;> rfl
theorem up_append (w : List Nat) (x : Nat) : up w ++ [(x : Int)] = up (w ++ [x]) := by simp [up]
theorem up_inj {w z : List Nat} (h : up w = up z) : w = z := by
  unfold up at h
  exact List.map_inj_right (fun x y e => Int.ofNat.inj e) |>.1 h
theorem has_l0 (l : List Int) (hl : l.length ≤ 1000000) (x : Int) : ∀ d j, j + d = l.length → ∃ b, Ev (fun k => r5has.l0 k l x (j : Int)) b ∧ (b = true ↔ ∃ t, j ≤ t ∧ t < l.length ∧ l.getD t 0 = x) := by
  intro d
  induction d with
  | zero =>
    intro j hj
    refine ⟨false, ev_now fun k => ?_, fun h => absurd h (by decide), fun ⟨t, h1, h2, _⟩ => by omega⟩
    simp only [r5has.l0]
    rw [ji]
  | succ d ih =>
    intro j hj
    by_cases e : l.getD j 0 = x
    · refine ⟨true, ev_now fun k => ?_, fun _ => ⟨j, by omega, by omega, e⟩, fun _ => rfl⟩
      simp only [r5has.l0]
      rw [jh, jh, rdI, if_pos e]
    · obtain ⟨b, hb, hbi⟩ := ih (j + 1) jj
      refine ⟨b, Ev.step (fun k => ?_) hb, ?_⟩
      · simp only [r5has.l0]
        rw [jh, jh, rdI, if_neg e, wr1 j jj]
      · rw [hbi]
        constructor
        · rintro ⟨t, h1, h2, h3⟩; exact ⟨t, by omega, h2, h3⟩
        · rintro ⟨t, h1, h2, h3⟩
          by_cases e2 : t = j
          · subst e2; exact absurd h3 e
          · exact ⟨t, by omega, h2, h3⟩
theorem has_f (l : List Int) (hl : l.length ≤ 1000000) (x : Int) : ∃ b, Ev (fun k => r5has.f k l x) b ∧ (b = true ↔ ∃ t, t < l.length ∧ l.getD t 0 = x) := by
  obtain ⟨b, hb, hbi⟩ := has_l0 l hl x l.length 0 jj
  exact ⟨b, hb, hbi.trans ⟨fun ⟨t, _, h⟩ => ⟨t, h⟩, fun ⟨t, h⟩ => ⟨t, by omega, h⟩⟩⟩
section
def Goes (n : Nat) (a : Nat → Nat → Int) (w : List Nat) (i : Nat) (c : List Int) : Prop := ∃ y, c = up (w ++ y) ∧ Cy n a (w ++ y) ∧ i ≤ nxt w (w ++ y)
end
theorem cyclesFrom_l0 {n : Nat} {A : List (List Int)} (hA : Arg n A) (w : List Nat) (hw : Pre n (ent A) w) (B : Nat) (hB : 1 ≤ B) (hB2 : B ≤ 100000)
    (hrec : ∀ x, x < n → Pre n (ent A) (w ++ [x]) → ∃ R, Ev (fun k => r5cyclesFrom.f k A (up (w ++ [x]))) R ∧ (∀ c, c ∈ R ↔ ∃ y, c = up ((w ++ [x]) ++ y) ∧ Cy n (ent A) ((w ++ [x]) ++ y)) ∧ R.length ≤ B) :
    ∀ d i, i + d = n → w.getD 0 0 ≤ i → ∀ acc : List (List Int), acc.length + d * B ≤ 1000000 → ∃ r, Ev (fun k => r5cyclesFrom.l0 k A (up w) acc ((w.getD (w.length - 1) 0 : Nat) : Int) (i : Int)) r ∧ (∀ c, c ∈ r ↔ c ∈ acc ∨ Goes n (ent A) w i c) ∧ r.length ≤ acc.length + d * B := by
  have h6 := hA.six
  have hl := hA.is.1
  have hwl := Pre.len hw
  have hw0 := hw.ne
  have hlast : w.getD (w.length - 1) 0 < n := hw.lt _ jj
  have ul := up_length w
  intro d
  induction d with
  | zero =>
    intro i hi hf acc hacc
    refine ⟨acc, ev_now fun k => ?_, fun c => ⟨fun h => .inl h, fun h => h.elim id fun ⟨y, _, hy, h2⟩ => ?_⟩, by omega⟩
    · rw [r5cyclesFrom.l0]
      rw [ji]
    · exfalso
      cases y with
      | nil => rw [nxt_nil] at h2; have := hw.lt 0 hw0; omega
      | cons x y =>
        have := hy.pre.lt w.length (by simp)
        rw [nxt_cons] at h2
        rw [getD_append_at] at this
        omega
  | succ d ih =>
    intro i hi hf acc hacc
    have hi' : i < n := by omega
    have e2 := hA.is.2 i hi'
    rw [Nat.add_mul, Nat.one_mul] at hacc
    have same : (∀ y, Cy n (ent A) (w ++ y) → nxt w (w ++ y) ≠ i) → ∀ c, Goes n (ent A) w (i + 1) c ↔ Goes n (ent A) w i c := by
      intro h c
      constructor
      · rintro ⟨y, h1, h2, h3⟩; exact ⟨y, h1, h2, by omega⟩
      · rintro ⟨y, h1, h2, h3⟩; exact ⟨y, h1, h2, by have := h y h2; omega⟩
    have skip : (∀ y, Cy n (ent A) (w ++ y) → nxt w (w ++ y) ≠ i) → ∀ {g : Nat → Option (List (List Int))}, (∀ k, g (k + 1) = r5cyclesFrom.l0 k A (up w) acc ((w.getD (w.length - 1) 0 : Nat) : Int) ((i + 1 : Nat) : Int)) → ∃ r, Ev g r ∧ (∀ c, c ∈ r ↔ c ∈ acc ∨ Goes n (ent A) w i c) ∧ r.length ≤ acc.length + (d + 1) * B := by
      intro hn g hg
      obtain ⟨r, hr, hm, hlr⟩ := ih (i + 1) jj jj acc jj
      refine ⟨r, Ev.step hg hr, fun c => ?_, by rw [Nat.add_mul, Nat.one_mul]; omega⟩
      rw [hm, same hn]
    have rw1 : (A.getD i []).getD (w.getD (w.length - 1) 0) 0 = ent A i (w.getD (w.length - 1) 0) := rfl
    by_cases c1 : ent A i (w.getD (w.length - 1) 0) = NEV
    · refine skip (fun y hy e => ?_) (fun k => ?_)
      · have := hy.nxt_arc hw0
        rw [e] at this
        exact this c1
      · rw [r5cyclesFrom.l0]
        rw [jh, jh, jh, rdL, jh, rdI, rw1, if_pos (show ent A i (w.getD (w.length - 1) 0) = -1152921504606846976 from c1), wr1 i jj]
    have pre : ∀ k, r5cyclesFrom.l0 (k + 1) A (up w) acc ((w.getD (w.length - 1) 0 : Nat) : Int) (i : Int) = if (i : Int) = ((w.getD 0 0 : Nat) : Int) then r5cyclesFrom.l0 k A (up w) (acc ++ [up w]) ((w.getD (w.length - 1) 0 : Nat) : Int) ((i + 1 : Nat) : Int) else ((r5has.f k (up w) (i : Int)).bind fun t => if t = true then r5cyclesFrom.l0 k A (up w) acc ((w.getD (w.length - 1) 0 : Nat) : Int) ((i + 1 : Nat) : Int) else ((r5cyclesFrom.f k A (up (w ++ [i]))).bind fun t => if acc.length + t.length < 5864062014805 then r5cyclesFrom.l0 k A (up w) (acc ++ t) ((w.getD (w.length - 1) 0 : Nat) : Int) ((i + 1 : Nat) : Int) else none)) := fun k => by
      rw [r5cyclesFrom.l0]
      rw [jh, jh, jh, rdL, jh, rdI, rw1, if_neg (show ¬ ent A i (w.getD (w.length - 1) 0) = -1152921504606846976 from c1), if_pos (by simp only [List.length_nil]; omega)]
      simp only [Option.bind_some, List.nil_append]
      rw [jh, show rd (up w) 0 = ((w.getD 0 0 : Nat) : Int) from up_get w 0, if_pos (show acc.length < 5864062014805 by omega), if_pos (show (up w).length < 17592186044416 by omega), wr1 i jj, up_append]
    by_cases c2 : i = w.getD 0 0
    · obtain ⟨r, hr, hm, hlr⟩ := ih (i + 1) jj jj (acc ++ [up w]) (by simp; omega)
      refine ⟨r, Ev.step (fun k => (pre k).trans (if_pos jj)) hr, fun c => ?_, by rw [Nat.add_mul, Nat.one_mul]; simp at hlr; omega⟩
      rw [hm, List.mem_append, List.mem_singleton]
      constructor
      · rintro ((h | h) | ⟨y, h1, h2, h3⟩)
        · exact .inl h
        · exact .inr ⟨[], by rw [List.append_nil]; exact h, by rw [List.append_nil]; exact ⟨hw, by rw [← c2]; exact c1⟩, by rw [nxt_nil]; omega⟩
        · exact .inr ⟨y, h1, h2, by omega⟩
      · rintro (h | ⟨y, h1, h2, h3⟩)
        · exact .inl (.inl h)
        · by_cases e : y = []
          · subst e
            rw [List.append_nil] at h1
            exact .inl (.inr h1)
          · have := h2.nxt_new hw0 e 0 hw0
            exact .inr ⟨y, h1, h2, by omega⟩
    · have c2' : ¬ (i : Int) = ((w.getD 0 0 : Nat) : Int) := fun e => c2 (Int.ofNat.inj e)
      obtain ⟨b, hb, hbi⟩ := has_f (up w) jj (i : Int)
      have hbi' : b = true ↔ ∃ t, t < w.length ∧ w.getD t 0 = i := by
        rw [hbi]
        constructor
        · rintro ⟨t, h1, h2⟩
          rw [up_get] at h2
          exact ⟨t, by omega, by omega⟩
        · rintro ⟨t, h1, h2⟩
          exact ⟨t, by omega, by rw [up_get, h2]⟩
      by_cases c3 : b = true
      · obtain ⟨t, ht, hti⟩ := hbi'.1 c3
        obtain ⟨r, hr, hm, hlr⟩ := ih (i + 1) jj jj acc jj
        refine ⟨r, Ev.step (fun k => (pre k).trans (if_neg c2')) (Ev.bind hb (Ev.congr (fun k => if_pos c3) hr)), fun c => ?_, by rw [Nat.add_mul, Nat.one_mul]; omega⟩
        rw [hm, same fun y hy e => ?_]
        by_cases e2 : y = []
        · subst e2; rw [nxt_nil] at e; exact c2 e.symm
        · exact hy.nxt_new hw0 e2 t ht (by rw [hti, e])
      · have hnew : ∀ t, t < w.length → w.getD t 0 ≠ i := fun t ht e => c3 (hbi'.2 ⟨t, ht, e⟩)
        have hpre := hw.snoc hi' hf hnew c1
        obtain ⟨R, eR, hR, lR⟩ := hrec i hi' hpre
        obtain ⟨r, hr, hm, hlr⟩ := ih (i + 1) jj jj (acc ++ R) (by simp; omega)
        refine ⟨r, Ev.step (fun k => (pre k).trans (if_neg c2')) (Ev.bind hb (Ev.congr (fun k => if_neg c3) (Ev.bind eR (Ev.congr (fun k => jh) hr)))), fun c => ?_, by rw [Nat.add_mul, Nat.one_mul]; simp at hlr; omega⟩
        rw [hm, List.mem_append, hR]
        constructor
        · rintro ((h | ⟨y, h1, h2⟩) | ⟨y, h1, h2, h3⟩)
          · exact .inl h
          · rw [List.append_assoc] at h1 h2
            exact .inr ⟨[i] ++ y, h1, h2, by show i ≤ nxt w (w ++ i :: y); rw [nxt_cons]; exact Nat.le_refl _⟩
          · exact .inr ⟨y, h1, h2, by omega⟩
        · rintro (h | ⟨y, h1, h2, h3⟩)
          · exact .inl (.inl h)
          · by_cases e : nxt w (w ++ y) = i
            · cases y with
              | nil => rw [nxt_nil] at e; exact absurd e.symm c2
              | cons x y =>
                rw [nxt_cons] at e
                subst e
                exact .inl (.inr ⟨y, by rw [List.append_assoc]; exact h1, by rw [List.append_assoc]; exact h2⟩)
            · exact .inr ⟨y, h1, h2, by omega⟩
theorem cyclesFrom_f {n : Nat} {A : List (List Int)} (hA : Arg n A) : ∀ d w, d ≤ 5 → Pre n (ent A) w → n ≤ w.length + d → ∃ R, Ev (fun k => r5cyclesFrom.f k A (up w)) R ∧ (∀ c, c ∈ R ↔ ∃ y, c = up (w ++ y) ∧ Cy n (ent A) (w ++ y)) ∧ R.length ≤ 6 ^ (d + 1) := by
  have h6 := hA.six
  intro d
  induction d with
  | zero =>
    intro w _ hw hn
    have hwl := Pre.len hw
    have hw0 := hw.ne
    have ul := up_length w
    have f0 : w.getD 0 0 < n := hw.lt 0 hw0
    obtain ⟨r, hr, hm, hlr⟩ := cyclesFrom_l0 hA w hw 1 jj jj (fun x _ hp => by have := Pre.len hp; simp at this; omega) (n - w.getD 0 0) (w.getD 0 0) jj jj [] (by simp only [List.length_nil]; omega)
    refine ⟨r, Ev.step (fun k => ?_) hr, fun c => ?_, by simp at hlr ⊢; omega⟩
    · rw [r5cyclesFrom.f]
      have e : wrap64 (((up w).length : Int) - 1) = ((w.length - 1 : Nat) : Int) := by rw [wr jj jj]; omega
      rw [e, jh, jh, jh, rdI, up_get, show rd (up w) 0 = ((w.getD 0 0 : Nat) : Int) from up_get w 0]
    · rw [hm]
      constructor
      · rintro (h | ⟨y, h1, h2, _⟩)
        · cases h
        · exact ⟨y, h1, h2⟩
      · rintro ⟨y, h1, h2⟩; exact .inr ⟨y, h1, h2, h2.nxt_low hw0⟩
  | succ d ih =>
    intro w hd hw hn
    have hwl := Pre.len hw
    have hw0 := hw.ne
    have ul := up_length w
    have f0 : w.getD 0 0 < n := hw.lt 0 hw0
    have hb1 : 1 ≤ 6 ^ (d + 1) := Nat.pow_pos jj
    have hb2 : 6 ^ (d + 1) ≤ 6 ^ 5 := Nat.pow_le_pow_right jj jj
    have e5 : (6 : Nat) ^ 5 = 7776 := by decide
    have hb3 : (n - w.getD 0 0) * 6 ^ (d + 1) ≤ 6 * 6 ^ (d + 1) := Nat.mul_le_mul_right _ jj
    obtain ⟨r, hr, hm, hlr⟩ := cyclesFrom_l0 hA w hw (6 ^ (d + 1)) hb1 jj (fun x _ hp => ih (w ++ [x]) jj hp (by simp; omega)) (n - w.getD 0 0) (w.getD 0 0) jj jj [] (by simp only [List.length_nil]; omega)
    refine ⟨r, Ev.step (fun k => ?_) hr, fun c => ?_, by rw [Nat.pow_succ]; simp only [List.length_nil] at hlr; omega⟩
    · rw [r5cyclesFrom.f]
      have e : wrap64 (((up w).length : Int) - 1) = ((w.length - 1 : Nat) : Int) := by rw [wr jj jj]; omega
      rw [e, jh, jh, jh, rdI, up_get, show rd (up w) 0 = ((w.getD 0 0 : Nat) : Int) from up_get w 0]
    · rw [hm]
      constructor
      · rintro (h | ⟨y, h1, h2, _⟩)
        · cases h
        · exact ⟨y, h1, h2⟩
      · rintro ⟨y, h1, h2⟩; exact .inr ⟨y, h1, h2, h2.nxt_low hw0⟩
theorem Cycles_l0 {n : Nat} {A : List (List Int)} (hA : Arg n A) : ∀ d i, i + d = n → ∀ acc : List (List Int), acc.length + d * 46656 ≤ 1000000 → ∃ r, Ev (fun k => r5Cycles.l0 k A acc (i : Int)) r ∧ (∀ c, c ∈ r ↔ c ∈ acc ∨ ∃ z, c = up z ∧ Cy n (ent A) z ∧ i ≤ z.getD 0 0) ∧ r.length ≤ 1000000 := by
  have h6 := hA.six
  have hl := hA.is.1
  intro d
  induction d with
  | zero =>
    intro i hi acc hacc
    refine ⟨acc, ev_now fun k => ?_, fun c => ⟨fun h => .inl h, fun h => h.elim id fun ⟨z, _, hz, h2⟩ => by have := hz.pre.lt 0 hz.pre.ne; omega⟩, by omega⟩
    simp only [r5Cycles.l0]
    rw [ji]
  | succ d ih =>
    intro i hi acc hacc
    rw [Nat.add_mul, Nat.one_mul] at hacc
    have hp : Pre n (ent A) [i] := by
      refine ⟨by simp, fun t ht => ?_, fun s t hs ht _ => by simp at hs ht; omega, fun t ht => ?_, fun t ht => by simp at ht⟩
      · simp at ht; subst ht; show i < n; omega
      · simp at ht; subst ht; exact Nat.le_refl _
    obtain ⟨R, eR, hR, lR⟩ := cyclesFrom_f hA 5 [i] jj hp (by simp; omega)
    have e6 : (6 : Nat) ^ (5 + 1) = 46656 := by decide
    obtain ⟨r, hr, hm, hlr⟩ := ih (i + 1) jj (acc ++ R) (by simp; omega)
    refine ⟨r, Ev.step (f := fun k => (r5cyclesFrom.f k A (up [i])).bind fun t => if acc.length + t.length < 5864062014805 then r5Cycles.l0 k A (acc ++ t) ((i + 1 : Nat) : Int) else none) (fun k => ?_) (Ev.bind eR (Ev.congr (fun k => jh) hr)), fun c => ?_, hlr⟩
    · simp only [r5Cycles.l0]
      rw [jh, wr1 i jj]
      rfl
    · rw [hm, List.mem_append, hR]
      constructor
      · rintro ((h | ⟨y, h1, h2⟩) | ⟨z, h1, h2, h3⟩)
        · exact .inl h
        · exact .inr ⟨[i] ++ y, h1, h2, by show i ≤ i; exact Nat.le_refl _⟩
        · exact .inr ⟨z, h1, h2, by omega⟩
      · rintro (h | ⟨z, h1, h2, h3⟩)
        · exact .inl (.inl h)
        · by_cases e : z.getD 0 0 = i
          · cases z with
            | nil => have := h2.pre.ne; simp at this
            | cons x y =>
              have : x = i := e
              subst this
              exact .inl (.inr ⟨y, h1, h2⟩)
          · exact .inr ⟨z, h1, h2, by omega⟩
theorem Cycles_f {n : Nat} {A : List (List Int)} (hA : Arg n A) : ∃ R, Ev (fun k => r5Cycles.f k A) R ∧ (∀ c, c ∈ R ↔ ∃ z, c = up z ∧ Cy n (ent A) z) ∧ R.length ≤ 1000000 := by
  have h6 := hA.six
  obtain ⟨r, hr, hm, hlr⟩ := Cycles_l0 hA n 0 jj [] (by simp; omega)
  refine ⟨r, hr, fun c => ?_, hlr⟩
  rw [hm]
  constructor
  · rintro (h | ⟨z, h1, h2, _⟩)
    · cases h
    · exact ⟨z, h1, h2⟩
  · rintro ⟨z, h1, h2⟩; exact .inr ⟨z, h1, h2, Nat.zero_le _⟩
end Go.Proofs.Ythjmfbmffchicaa.Pure
end
section
namespace Go.Proofs.Ythjmfbmffchicaa.Pure
open Go.RowKit Go.Proofs.Ythjmfbmffchicaa.V Go.Proofs.YthjmfbmffchicaaW.PrintWords Go.Proofs.YthjmfbmffchicaaW.PrintLast Go.Proofs.YthjmfbmffchicaaW.PrintMore Go.Proofs.Ythjmfbmffchicaa.Mp
def cw (a : Nat → Nat → Int) (z : List Nat) : Int := wt a (cyc z) z.length
theorem add_ok (x y : Int) (i : Nat) (hi : i ≤ 6) (h1 : -(1000 * (i : Int)) ≤ x) (h2 : x ≤ 1000 * (i : Int)) (h3 : -1000 ≤ y) (h4 : y ≤ 1000) : wrap64 (x + y) = x + y := wr jj jj
theorem tmodN (i L : Nat) : Int.tmod (i : Int) (L : Int) = ((i % L : Nat) : Int) := rfl
section
variable {n : Nat} {A : List (List Int)}
theorem cw_bd (hA : Arg n A) {z : List Nat} (h : Cy n (ent A) z) : -6000 ≤ cw (ent A) z ∧ cw (ent A) z ≤ 6000 ∧ 1 ≤ z.length ∧ z.length ≤ 6 := by
  have := wt_bd hA.bd h.wk
  have := h.len
  have := hA.six
  have := h.pre.ne
  unfold cw
  omega
theorem weight_l0 (hA : Arg n A) {z : List Nat} (h : Cy n (ent A) z) : ∀ d i, i + d = z.length → Ev (fun k => r5weight.l0 k A (up z) (wt (ent A) (cyc z) i) (i : Int)) (cw (ent A) z) := by
  have hl := hA.is.1
  have uz := up_length z
  have b := cw_bd hA h
  have hwk := h.wk
  intro d
  induction d with
  | zero =>
    intro i hi
    obtain rfl : i = z.length := by omega
    refine ev_now fun k => ?_
    simp only [r5weight.l0]
    rw [ji]
    rfl
  | succ d ih =>
    intro i hi
    have hi' : i < z.length := by omega
    have i6 : i ≤ 6 := by omega
    obtain ⟨r, hm, c1, em⟩ : ∃ r, r < z.length ∧ z.getD r 0 = cyc z (i + 1) ∧ Int.tmod (wrap64 ((i : Int) + 1)) ((up z).length : Int) = (r : Int) := ⟨(i + 1) % z.length, Nat.mod_lt _ jj, rfl, by rw [wr1 i jj, uz]; rfl⟩
    have c2 : z.getD i 0 = cyc z i := (cyc_lt hi').symm
    have l1 := hwk.lt (i + 1) jj
    have l2 := hwk.lt i jj
    have e2 := hA.is.2 _ l1
    have g1 : rd (up z) (r : Int) = ((cyc z (i + 1) : Nat) : Int) := by rw [← c1]; exact up_get z r
    have g2 : rd (up z) (i : Int) = ((cyc z i : Nat) : Int) := by rw [← c2]; exact up_get z i
    have w1 := wt_bd hA.bd (hwk.left (p := i) jj)
    have w2 := (hA.bd _ _ l1 l2).resolve_left (hwk.arc i hi')
    refine Ev.step (fun k => ?_) (ih (i + 1) jj)
    simp only [r5weight.l0]
    rw [em, g1, g2]
    clear em g1 g2 c1 c2
    rw [jh, ji, jh, jh, jh, jh, jh, jh, rdL, jh, rdI, wr1 i jj]
    show r5weight.l0 k A (up z) (wrap64 (wt (ent A) (cyc z) i + ent A (cyc z (i + 1)) (cyc z i))) _ = _
    rw [add_ok _ _ i i6 w1.1 w1.2 w2.1 w2.2]
    rfl
theorem weight_f (hA : Arg n A) {z : List Nat} (h : Cy n (ent A) z) : Ev (fun k => r5weight.f k A (up z)) (cw (ent A) z) := weight_l0 hA h z.length 0 jj
end
theorem drop_cons {x : List Nat} {j : Nat} (h : j < x.length) : x.drop j = x.getD j 0 :: x.drop (j + 1) := by
  rw [List.drop_eq_getElem_cons h, List.getD_eq_getElem?_getD, List.getElem?_eq_getElem h]
  rfl
theorem less_l0 (x y : List Nat) (_hx : x.length ≤ 1000000) (hy : y.length ≤ 1000000) : ∀ d j, j + d = x.length → j ≤ y.length → ∃ b, Ev (fun k => r5less.l0 k (up x) (up y) (j : Int)) b ∧ (b = true ↔ x.drop j < y.drop j) := by
  have ux := up_length x
  have uy := up_length y
  intro d
  have short : ∀ j, j ≤ x.length → j ≤ y.length → (j = x.length ∨ j = y.length) → (decide (((up x).length : Int) < ((up y).length : Int)) = true ↔ x.drop j < y.drop j) := by
    intro j h1 h2 h3
    rw [decide_eq_true_iff]
    by_cases e1 : j = x.length
    · by_cases e2 : j = y.length
      · rw [List.drop_eq_nil_of_le jj, List.drop_eq_nil_of_le jj]
        exact ⟨fun h => by omega, fun h => absurd h (List.not_lt_nil _)⟩
      · rw [List.drop_eq_nil_of_le (by omega : x.length ≤ j), drop_cons (by omega : j < y.length)]
        exact ⟨fun _ => List.nil_lt_cons _ _, fun _ => by omega⟩
    · have e2 : j = y.length := by omega
      rw [List.drop_eq_nil_of_le (by omega : y.length ≤ j)]
      exact ⟨fun h => by omega, fun h => absurd h (List.not_lt_nil _)⟩
  induction d with
  | zero =>
    intro j hj hjy
    refine ⟨_, ?_, short j jj hjy (.inl jj)⟩
    refine Ev.step (f := fun k => r5less.j1 k (up x) (up y) (j : Int) false) (fun k => ?_) (ev_now fun k => ?_)
    · simp only [r5less.l0]
      rw [ji]
    · simp only [r5less.j1]
      rw [if_neg (by decide)]
  | succ d ih =>
    intro j hj hjy
    have step1 : ∀ k, r5less.l0 (k + 1) (up x) (up y) (j : Int) = r5less.j1 k (up x) (up y) (j : Int) (decide ((j : Int) < ((up y).length : Int))) := fun k => by
      simp only [r5less.l0]
      rw [jh]
    by_cases e1 : j < y.length
    · have st : ∀ k, r5less.j1 (k + 1) (up x) (up y) (j : Int) (decide ((j : Int) < ((up y).length : Int))) = if ((x.getD j 0 : Nat) : Int) = ((y.getD j 0 : Nat) : Int) then r5less.l0 k (up x) (up y) ((j + 1 : Nat) : Int) else some (decide (((x.getD j 0 : Nat) : Int) < ((y.getD j 0 : Nat) : Int))) := fun k => by
        simp only [r5less.j1]
        rw [if_pos (by rw [decide_eq_true_iff]; omega), jh, jh, jh, rdI, rdI, up_get, up_get, wr1 j jj]
      rw [drop_cons (by omega : j < x.length), drop_cons e1]
      by_cases e2 : x.getD j 0 = y.getD j 0
      · obtain ⟨b, hb, hbi⟩ := ih (j + 1) jj jj
        refine ⟨b, Ev.step step1 (Ev.step (fun k => (st k).trans (if_pos jj)) hb), ?_⟩
        rw [hbi, List.cons_lt_cons_iff, e2]
        exact ⟨fun h => .inr ⟨rfl, h⟩, fun h => h.elim (fun h => absurd h (Nat.lt_irrefl _)) (fun h => h.2)⟩
      · refine ⟨_, Ev.step step1 (ev_now fun k => (st k).trans (if_neg (fun e => e2 (Int.ofNat.inj e)))), ?_⟩
        rw [decide_eq_true_iff, List.cons_lt_cons_iff]
        exact ⟨fun h => .inl jj, fun h => h.elim (fun h => by omega) (fun h => absurd h.1 e2)⟩
    · refine ⟨_, ?_, short j jj hjy (.inr jj)⟩
      refine Ev.step step1 (ev_now fun k => ?_)
      simp only [r5less.j1]
      rw [if_neg (by rw [decide_eq_true_iff]; omega)]
theorem less_f (x y : List Nat) (hx : x.length ≤ 1000000) (hy : y.length ≤ 1000000) : ∃ b, Ev (fun k => r5less.f k (up x) (up y)) b ∧ (b = true ↔ x < y) := by
  obtain ⟨b, hb, hbi⟩ := less_l0 x y hx hy x.length 0 jj jj
  exact ⟨b, hb, hbi⟩
theorem rgcd_eq : ∀ k a b, r5gcd.l0 k a b = line_gcd.l0 k a b
  | 0, _, _ => rfl
  | k + 1, a, b => by
    simp only [r5gcd.l0, line_gcd.l0]
    by_cases h : b = 0
    · rw [if_pos h, if_pos h]
    · rw [if_neg h, if_neg h, rgcd_eq k]
def AsGood (a : Nat → Nat → Int) (b c : List Nat) : Prop :=
  cw a c * (b.length : Nat) < cw a b * (c.length : Nat) ∨ (cw a c * (b.length : Nat) = cw a b * (c.length : Nat) ∧ (b.length < c.length ∨ (b.length = c.length ∧ ¬ c < b)))
theorem AsGood.mean {a : Nat → Nat → Int} {b c : List Nat} (h : AsGood a b c) : cw a c * (b.length : Nat) ≤ cw a b * (c.length : Nat) := by
  rcases h with h | h
  · omega
  · omega
theorem frac_lt {p q r : Int} {x y z : Nat} (hx : 0 < x) (hy : 0 < y) (hz : 0 < z) (h1 : p * (y : Nat) ≤ q * (x : Nat)) (h2 : q * (z : Nat) ≤ r * (y : Nat)) : p * (z : Nat) ≤ r * (x : Nat) ∧ (p * (z : Nat) = r * (x : Nat) → p * (y : Nat) = q * (x : Nat) ∧ q * (z : Nat) = r * (y : Nat)) := by
  have a1 := Int.mul_le_mul_of_nonneg_right h1 (by omega : (0 : Int) ≤ (z : Nat))
  have a2 := Int.mul_le_mul_of_nonneg_right h2 (by omega : (0 : Int) ≤ (x : Nat))
  have e1 : p * (y : Nat) * (z : Nat) = p * (z : Nat) * (y : Nat) := by rw [Int.mul_assoc, Int.mul_comm (y : Int), ← Int.mul_assoc]
  have e2 : q * (x : Nat) * (z : Nat) = q * (z : Nat) * (x : Nat) := by rw [Int.mul_assoc, Int.mul_comm (x : Int), ← Int.mul_assoc]
  have e3 : r * (y : Nat) * (x : Nat) = r * (x : Nat) * (y : Nat) := by rw [Int.mul_assoc, Int.mul_comm (y : Int), ← Int.mul_assoc]
  refine ⟨Int.le_of_mul_le_mul_right (a := (y : Int)) jj jj, fun h => ?_⟩
  have e4 : p * (z : Nat) * (y : Nat) = r * (x : Nat) * (y : Nat) := by rw [h]
  have b1 : p * (y : Nat) * (z : Nat) = q * (x : Nat) * (z : Nat) := by omega
  have b2 : q * (z : Nat) * (x : Nat) = r * (y : Nat) * (x : Nat) := by omega
  exact ⟨Int.eq_of_mul_eq_mul_right jj b1, Int.eq_of_mul_eq_mul_right jj b2⟩
theorem AsGood.refl {a : Nat → Nat → Int} (b : List Nat) : AsGood a b b := .inr ⟨rfl, .inr ⟨rfl, List.lt_irrefl b⟩⟩
theorem AsGood.trans {a : Nat → Nat → Int} {b c d : List Nat} (hb : 0 < b.length) (hc : 0 < c.length) (hd : 0 < d.length) (h1 : AsGood a b c) (h2 : AsGood a c d) : AsGood a b d := by
  have f := frac_lt hd hc hb h2.mean h1.mean
  by_cases e : cw a d * (b.length : Nat) = cw a b * (d.length : Nat)
  · have f2 := f.2 e
    refine .inr ⟨e, ?_⟩
    rcases h1 with h1 | ⟨_, h1⟩
    · omega
    rcases h2 with h2 | ⟨_, h2⟩
    · omega
    rcases h1 with h1 | ⟨l1, h1⟩
    · rcases h2 with h2 | ⟨l2, h2⟩ <;> exact .inl jj
    · rcases h2 with h2 | ⟨l2, h2⟩
      · exact .inl jj
      · refine .inr ⟨by omega, fun h3 => ?_⟩
        by_cases h4 : d < c
        · exact h2 h4
        · exact h1 (List.lt_of_le_of_lt (List.not_lt.1 h4) h3)
  · exact .inl jj
section
variable {n : Nat} {A : List (List Int)}
theorem best_l0 (hA : Arg n A) (R : List (List Int)) (hR : ∀ c, c ∈ R → ∃ z, c = up z ∧ Cy n (ent A) z) (hl : R.length ≤ 1000000) : ∀ d j, j + d = R.length → ∀ b, Cy n (ent A) b → (∀ t z, t < j → R.getD t [] = up z → AsGood (ent A) b z) →
    ∃ b', Cy n (ent A) b' ∧ Ev (fun k => r5best.l0 k A (up b) R (j : Int)) (up b') ∧ ∀ z, up z ∈ R → AsGood (ent A) b' z := by
  intro d
  induction d with
  | zero =>
    intro j hj b hb hg
    refine ⟨b, hb, ev_now fun k => ?_, fun z hz => ?_⟩
    · simp only [r5best.l0]
      rw [ji]
    · obtain ⟨t, ht, e⟩ := List.getElem_of_mem hz
      exact hg t z jj (by rw [List.getD_eq_getElem?_getD, List.getElem?_eq_getElem ht]; exact e)
  | succ d ih =>
    intro j hj b hb hg
    have hj' : j < R.length := by omega
    have gj : R.getD j [] = R[j] := by rw [List.getD_eq_getElem?_getD, List.getElem?_eq_getElem hj']; rfl
    obtain ⟨c, hc, hcy⟩ := hR R[j] (List.getElem_mem hj')
    rw [hc] at gj
    have bb := cw_bd hA hb
    have bc := cw_bd hA hcy
    have ub := up_length b
    have uc := up_length c
    have m1 : -36000 ≤ cw (ent A) c * (b.length : Nat) ∧ cw (ent A) c * (b.length : Nat) ≤ 36000 := by
      have k1 := Int.mul_le_mul_of_nonneg_right bc.1 (by omega : (0 : Int) ≤ (b.length : Nat))
      have k2 := Int.mul_le_mul_of_nonneg_right bc.2.1 (by omega : (0 : Int) ≤ (b.length : Nat))
      omega
    have m2 : -36000 ≤ cw (ent A) b * (c.length : Nat) ∧ cw (ent A) b * (c.length : Nat) ≤ 36000 := by
      have k1 := Int.mul_le_mul_of_nonneg_right bb.1 (by omega : (0 : Int) ≤ (c.length : Nat))
      have k2 := Int.mul_le_mul_of_nonneg_right bb.2.1 (by omega : (0 : Int) ≤ (c.length : Nat))
      omega
    have w1 : wrap64 (cw (ent A) c * ((up b).length : Int)) = cw (ent A) c * (b.length : Nat) := by rw [ub, wr jj jj]
    have w2 : wrap64 (cw (ent A) b * ((up c).length : Int)) = cw (ent A) b * (c.length : Nat) := by rw [uc, wr jj jj]
    have step : ∀ k, r5best.l0 (k + 1) A (up b) R (j : Int) = (r5weight.f k A (up c)).bind fun t => (r5weight.f k A (up b)).bind fun u => if wrap64 (t * ((up b).length : Int)) > wrap64 (u * ((up c).length : Int)) then r5best.l0 k A (up c) R ((j + 1 : Nat) : Int) else if wrap64 (t * ((up b).length : Int)) = wrap64 (u * ((up c).length : Int)) then (if ((up c).length : Int) < ((up b).length : Int) then r5best.l0 k A (up c) R ((j + 1 : Nat) : Int) else if ((up c).length : Int) = ((up b).length : Int) then ((r5less.f k (up c) (up b)).bind fun t => if t = true then r5best.l0 k A (up c) R ((j + 1 : Nat) : Int) else r5best.l0 k A (up b) R ((j + 1 : Nat) : Int)) else r5best.l0 k A (up b) R ((j + 1 : Nat) : Int)) else r5best.l0 k A (up b) R ((j + 1 : Nat) : Int) := fun k => by
      simp only [r5best.l0]
      rw [jh, jh, ji, rdL, gj, wr1 j jj]
    have take : AsGood (ent A) c b → ∃ b', Cy n (ent A) b' ∧ Ev (fun k => r5best.l0 k A (up c) R ((j + 1 : Nat) : Int)) (up b') ∧ ∀ z, up z ∈ R → AsGood (ent A) b' z := fun hcb => ih (j + 1) jj c hcy fun t z ht hz => by
      by_cases e : t = j
      · subst e
        rw [gj] at hz
        rw [← up_inj hz]
        exact AsGood.refl c
      · have hbz := hg t z jj hz
        have hzR : up z ∈ R := by rw [← hz, List.getD_eq_getElem?_getD, List.getElem?_eq_getElem (by omega : t < R.length)]; exact List.getElem_mem _
        obtain ⟨z', hz', hcz⟩ := hR _ hzR
        rw [up_inj hz'] at hbz ⊢
        exact AsGood.trans jj jj hcz.pre.ne hcb hbz
    have keep : AsGood (ent A) b c → ∃ b', Cy n (ent A) b' ∧ Ev (fun k => r5best.l0 k A (up b) R ((j + 1 : Nat) : Int)) (up b') ∧ ∀ z, up z ∈ R → AsGood (ent A) b' z := fun hbc => ih (j + 1) jj b hb fun t z ht hz => by
      by_cases e : t = j
      · subst e
        rw [gj] at hz
        rw [← up_inj hz]
        exact hbc
      · exact hg t z jj hz
    have ec := weight_f hA hcy
    have eb := weight_f hA hb
    by_cases c1 : cw (ent A) c * (b.length : Nat) > cw (ent A) b * (c.length : Nat)
    · obtain ⟨b', h1, h2, h3⟩ := take (.inl c1)
      exact ⟨b', h1, Ev.step step (Ev.bind ec (Ev.bind eb (Ev.congr (fun k => if_pos (by rw [w1, w2]; exact c1)) h2))), h3⟩
    · by_cases c2 : cw (ent A) c * (b.length : Nat) = cw (ent A) b * (c.length : Nat)
      · by_cases c3 : c.length < b.length
        · obtain ⟨b', h1, h2, h3⟩ := take (.inr ⟨c2.symm, .inl c3⟩)
          exact ⟨b', h1, Ev.step step (Ev.bind ec (Ev.bind eb (Ev.congr (fun k => if_neg (by rw [w1, w2]; exact c1)) (Ev.congr (fun k => if_pos (by rw [w1, w2]; exact c2)) (Ev.congr (fun k => jh) h2))))), h3⟩
        · by_cases c4 : c.length = b.length
          · obtain ⟨t, et, hti⟩ := less_f c b jj jj
            by_cases c5 : t = true
            · obtain ⟨b', h1, h2, h3⟩ := take (.inr ⟨c2.symm, .inr ⟨c4, fun h => List.lt_asymm h (hti.1 c5)⟩⟩)
              exact ⟨b', h1, Ev.step step (Ev.bind ec (Ev.bind eb (Ev.congr (fun k => if_neg (by rw [w1, w2]; exact c1)) (Ev.congr (fun k => if_pos (by rw [w1, w2]; exact c2)) (Ev.congr (fun k => ji) (Ev.congr (fun k => jh) (Ev.bind et (Ev.congr (fun k => if_pos c5) h2)))))))), h3⟩
            · obtain ⟨b', h1, h2, h3⟩ := keep (.inr ⟨c2, .inr ⟨c4.symm, fun h => c5 (hti.2 h)⟩⟩)
              exact ⟨b', h1, Ev.step step (Ev.bind ec (Ev.bind eb (Ev.congr (fun k => if_neg (by rw [w1, w2]; exact c1)) (Ev.congr (fun k => if_pos (by rw [w1, w2]; exact c2)) (Ev.congr (fun k => ji) (Ev.congr (fun k => jh) (Ev.bind et (Ev.congr (fun k => if_neg c5) h2)))))))), h3⟩
          · obtain ⟨b', h1, h2, h3⟩ := keep (.inr ⟨c2, .inl jj⟩)
            exact ⟨b', h1, Ev.step step (Ev.bind ec (Ev.bind eb (Ev.congr (fun k => if_neg (by rw [w1, w2]; exact c1)) (Ev.congr (fun k => if_pos (by rw [w1, w2]; exact c2)) (Ev.congr (fun k => ji) (Ev.congr (fun k => ji) h2)))))), h3⟩
      · obtain ⟨b', h1, h2, h3⟩ := keep (.inl jj)
        exact ⟨b', h1, Ev.step step (Ev.bind ec (Ev.bind eb (Ev.congr (fun k => if_neg (by rw [w1, w2]; exact c1)) (Ev.congr (fun k => if_neg (by rw [w1, w2]; exact c2)) h2)))), h3⟩
theorem best_f (hA : Arg n A) : ((∀ z, ¬ Cy n (ent A) z) ∧ Ev (fun k => r5best.f k A) []) ∨ ∃ b, Cy n (ent A) b ∧ Ev (fun k => r5best.f k A) (up b) ∧ ∀ z, Cy n (ent A) z → AsGood (ent A) b z := by
  obtain ⟨R, eR, hR, lR⟩ := Cycles_f hA
  by_cases h0 : R = []
  · subst h0
    refine .inl ⟨fun z hz => (by have := (hR (up z)).2 ⟨z, rfl, hz⟩; cases this), ?_⟩
    unfold r5best.f
    refine Ev.bind eR (ev_now fun k => ?_)
    simp only [r5best.l0]
    rw [if_neg (by simp)]
  · have h1 : 0 < R.length := List.length_pos_iff.2 h0
    obtain ⟨c, hc, hcy⟩ := (hR R[0]).1 (List.getElem_mem h1)
    have g0 : R.getD 0 [] = up c := by rw [List.getD_eq_getElem?_getD, List.getElem?_eq_getElem h1]; exact hc
    obtain ⟨b, hb, eb, hg⟩ := best_l0 hA R (fun c hc => (hR c).1 hc) lR (R.length - 1) 1 jj c hcy (fun t z ht hz => by
      obtain rfl : t = 0 := by omega
      rw [g0] at hz
      rw [← up_inj hz]
      exact AsGood.refl c)
    refine .inr ⟨b, hb, ?_, fun z hz => hg z ((hR (up z)).2 ⟨z, rfl, hz⟩)⟩
    unfold r5best.f
    refine Ev.bind eR (Ev.step (fun k => ?_) eb)
    simp only [r5best.l0]
    rw [jh, jh, if_pos (by simp)]
    show r5best.l0 k A (R.getD 0 []) R _ = _
    rw [g0, show wrap64 ((0 : Int) + 1) = ((1 : Nat) : Int) from wr1 0 jj]
theorem RSpeed_f (hA : Arg n A) : ((∀ z, ¬ Cy n (ent A) z) ∧ (∀ k i, Seen n (n + 1) 0 k i → powf n (ent A) k i i = NEV) ∧ Ev (fun k => r5best.f k A) [] ∧ Ev (fun k => r5Speed.f k A) (0, 0, 10)) ∨
    ∃ b num den, Cy n (ent A) b ∧ Ev (fun k => r5best.f k A) (up b) ∧ (∀ z, Cy n (ent A) z → AsGood (ent A) b z) ∧ Top n (ent A) (Seen n (n + 1) 0) num den ∧ cw (ent A) b * den = num * (b.length : Nat) ∧ Ev (fun k => r5Speed.f k A) (num, den, 0) := by
  have h6 := hA.six
  have eM : Ev (fun k => r5Matrix.f k A) true := by
    rcases Matrix_f A with ⟨_, h⟩ | ⟨h, _⟩
    · exact h
    · exact absurd ⟨n, hA⟩ h
  rcases best_f hA with ⟨hno, eb⟩ | ⟨b, hb, eb, hg⟩
  · refine .inl ⟨hno, fun k i hS => ?_, eb, ?_⟩
    · by_cases e : powf n (ent A) k i i = NEV
      · exact e
      · exfalso
        obtain ⟨v, hv, v0, vL, vw⟩ := pow_att k i i hS.2.1 hS.2.1 e
        have hm := mean_le (num := -1000000) (den := 1) (fun c hc => absurd hc (hno c)) k v hv (by rw [v0, vL])
        have := (wt_bd hA.bd hv).1
        have := hS.1
        omega
    · unfold r5Speed.f
      exact Ev.bind eM (Ev.congr (fun k => if_pos rfl) (Ev.bind eb (ev_some fun k => if_pos rfl)))
  · have bb := cw_bd hA hb
    have ub := up_length b
    have hmean : ∀ (L : Nat) (v : Nat → Nat), Wk n (ent A) v L → v 0 = v L → wt (ent A) v L * ((b.length : Nat) : Int) ≤ cw (ent A) b * (L : Nat) := mean_le (fun c hc => (hg c hc).mean)
    have hwk := hb.wk
    have e0 : cyc b 0 = cyc b b.length := by rw [cyc_zero, cyc_len]
    have hi := hwk.lt 0 jj
    have hge := pow_ge hA.bd jj b.length (cyc b) jj hwk
    rw [← e0] at hge
    have n1 : (NEV : Int) = -1152921504606846976 := rfl
    have hne : powf n (ent A) b.length (cyc b 0) (cyc b 0) ≠ NEV := fun e => by
      rw [e] at hge
      have := bb.1
      unfold cw at this
      omega
    have hx : powf n (ent A) b.length (cyc b 0) (cyc b 0) = cw (ent A) b := by
      obtain ⟨v, hv, v0, vL, vw⟩ := pow_att b.length _ _ hi hi hne
      have := hmean b.length v hv (by rw [v0, vL])
      rw [vw] at this
      have := Int.le_of_mul_le_mul_right this jj
      unfold cw at this ⊢
      omega
    obtain ⟨g, eg, hgc⟩ := gcd_f (cw (ent A) b) (b.length : Int) jj jj jj jj
    have gp := hgc.pos (.inr jj)
    have hT := Top.make (B := Seen n (n + 1) 0) hx jj bb.1 bb.2.1 bb.2.2.1 bb.2.2.2 hgc ⟨bb.2.2.1, hi, .inl (by have := hb.len; omega)⟩ (fun k' i' hS hn => by
      obtain ⟨v, hv, v0, vL, vw⟩ := pow_att k' i' i' hS.2.1 hS.2.1 hn
      rw [← vw]
      exact hmean k' v hv (by rw [v0, vL]))
    have eg' : Ev (fun k => r5gcd.f k (cw (ent A) b) ((up b).length : Int)) g := by
      rw [ub]
      refine Ev.congr (fun k => ?_) eg
      exact rgcd_eq k _ _
    have hval : cw (ent A) b * Int.tdiv (b.length : Int) g = Int.tdiv (cw (ent A) b) g * (b.length : Nat) := by
      obtain ⟨u, hu⟩ := hgc.left
      obtain ⟨v, hv⟩ := hgc.right
      have e1 : Int.tdiv (cw (ent A) b) g = u := by rw [hu]; exact Int.mul_tdiv_cancel_left _ jj
      have e2 : Int.tdiv (b.length : Int) g = v := by rw [hv]; exact Int.mul_tdiv_cancel_left _ jj
      rw [e1, e2, hu, hv, Int.mul_comm g u, Int.mul_assoc]
    refine .inr ⟨b, _, _, hb, eb, hg, hT, hval, ?_⟩
    have dd := hT.den0
    have d6 := hT.den6
    have l1 := hT.lo
    have l2 := hT.hi
    have epace : Ev (fun k => r5pace.f k A (up b)) (Int.tdiv (cw (ent A) b) g, Int.tdiv (b.length : Int) g) := by
      unfold r5pace.f
      refine Ev.bind (weight_f hA hb) (Ev.bind eg' (ev_some fun k => ?_))
      rw [ji, wr (x := Int.tdiv (cw (ent A) b) g) jj jj, ub, ← Int.tdiv_eq_ediv_of_nonneg (by omega : (0 : Int) ≤ (b.length : Int)), wr jj jj]
    unfold r5Speed.f
    exact Ev.bind eM (Ev.congr (fun k => if_pos rfl) (Ev.bind eb (Ev.congr (fun k => ji) (Ev.bind epace (Ev.now _)))))
end
theorem copr' {p q : Int} {m : Nat} (hp : ∀ d : Int, d ∣ p → d ∣ q → d ∣ 1) (h : q ∣ p * (m : Nat)) : q ∣ (m : Int) := by
  have hc : Nat.Coprime q.natAbs p.natAbs := by
    have h1 := hp ((Nat.gcd q.natAbs p.natAbs : Nat) : Int) (Int.ofNat_dvd_left.2 (Nat.gcd_dvd_right _ _)) (Int.ofNat_dvd_left.2 (Nat.gcd_dvd_left _ _))
    exact Nat.dvd_one.1 (Int.natCast_dvd_natCast.1 h1)
  have h2 : q.natAbs ∣ p.natAbs * m := by
    have := Int.natAbs_dvd_natAbs.2 h
    rwa [Int.natAbs_mul, Int.natAbs_natCast] at this
  exact Int.natAbs_dvd.1 (Int.natCast_dvd_natCast.2 (hc.dvd_of_dvd_mul_left h2))
theorem Top.uniq {n : Nat} {a : Nat → Nat → Int} {num den num' den' : Int} (h : Top n a (Seen n (n + 1) 0) num den) (h' : Top n a (Seen n (n + 1) 0) num' den') : num = num' ∧ den = den' := by
  have d0 := h.den0
  have d0' := h'.den0
  have cross1 : ∀ {p q p' q' : Int}, Top n a (Seen n (n + 1) 0) p q → Top n a (Seen n (n + 1) 0) p' q' → p * q' ≤ p' * q := by
    intro p q p' q' t t'
    obtain ⟨k, i, hB, hne, he⟩ := t.att
    have h2 := t'.top k i hB hne
    have q0 := t.den0
    have hk := hB.1
    have hk0 : (0 : Int) < (k : Nat) := by omega
    refine Int.le_of_mul_le_mul_right (a := ((k : Nat) : Int)) ?_ hk0
    have e1 : p * q' * (k : Nat) = p * (k : Nat) * q' := by rw [Int.mul_assoc, Int.mul_comm q', ← Int.mul_assoc]
    have e2 : p' * q * (k : Nat) = p' * (k : Nat) * q := by rw [Int.mul_assoc, Int.mul_comm q, ← Int.mul_assoc]
    rw [e1, e2, ← he]
    have := Int.mul_le_mul_of_nonneg_right h2 (Int.le_of_lt q0)
    have e3 : powf n a k i i * q * q' = powf n a k i i * q' * q := by rw [Int.mul_assoc, Int.mul_comm q, ← Int.mul_assoc]
    rw [e3]
    exact this
  have eq : num * den' = num' * den := Int.le_antisymm (cross1 h h') (cross1 h' h)
  obtain ⟨m, rfl⟩ : ∃ m : Nat, den = (m : Int) := ⟨den.toNat, by omega⟩
  obtain ⟨m', rfl⟩ : ∃ m : Nat, den' = (m : Int) := ⟨den'.toNat, by omega⟩
  have a1 : (m : Int) ∣ (m' : Int) := copr' h.low ⟨num', by rw [eq, Int.mul_comm]⟩
  have a2 : (m' : Int) ∣ (m : Int) := copr' h'.low ⟨num, by rw [← eq, Int.mul_comm]⟩
  have e := Nat.dvd_antisymm (Int.natCast_dvd_natCast.1 a1) (Int.natCast_dvd_natCast.1 a2)
  subst e
  exact ⟨Int.eq_of_mul_eq_mul_right jj eq, rfl⟩
theorem vec_next (f : Nat → Int) (j : Nat) : vec j f ++ [f j] = vec (j + 1) f := by simp [vec, List.range_succ]
section
variable {n : Nat} {A : List (List Int)} {num den : Int}
end
section
variable {n : Nat} {M : Int} {s : Nat → Nat → Int}
end
def potf (_n : Nat) (d : Nat → Nat → Int) (j i : Nat) : Int := max 0 (sup (d i) j)
section
variable {n : Nat} {A : List (List Int)}
end
def arcf (s d : Nat → Nat → Int) (i j : Nat) : Int := if crit s d i j = true then 0 else NEV
theorem arc_crit {s d : Nat → Nat → Int} {i j : Nat} : arcf s d i j ≠ NEV ↔ pl (s i j) (d j i) = 0 := by
  unfold arcf crit
  by_cases h : pl (s i j) (d j i) = 0
  · rw [if_pos (beq_iff_eq.2 h)]
    exact ⟨fun _ => h, fun _ => by decide⟩
  · rw [if_neg (fun h2 => h (beq_iff_eq.1 h2))]
    exact ⟨fun h2 => absurd rfl h2, fun h2 => absurd h2 h⟩
structure Ok (n : Nat) (s : Nat → Nat → Int) : Prop where
  one : 1 ≤ n
  six : n ≤ 6
  bd : BdM n n 12000 s
  no : NoPos n s
section
variable {n : Nat} {s : Nat → Nat → Int}
theorem Ok.two (h : Ok n s) : (12000 : Int) * ((2 ^ n : Nat) : Int) < 100000000000000000 := by have := pow6 h.six; omega
theorem Ok.hs (h : Ok n s) : (12000 : Int) * (n : Nat) < 1152921504606846976 := by have := h.six; omega
theorem Ok.pl0 (h : Ok n s) {i j : Nat} (hi : i < n) (hj : j < n) {x : Int} {K : Nat} (hne : s i j ≠ NEV) (hg : Go n s i j K x) (hx : 0 ≤ s i j + x) : arcf s (fwk s n) i j ≠ NEV := by
  obtain ⟨v, hv, v0, vL, vw⟩ := hg
  have h1 := walk_star h.bd jj h.hs h.no h.two jj K hv
  rw [v0, vL, vw] at h1
  have h2 := star_step h.bd jj h.hs h.no h.two jj i j i hi hj hi
  rw [fwk_diag h.bd jj h.hs h.no jj hi] at h2
  refine arc_crit.2 ?_
  unfold pl at h2 ⊢
  rw [if_neg hne, if_neg h1.1] at h2 ⊢
  omega
theorem Ok.back (_h : Ok n s) {i j : Nat} (hi : i < n) (hj : j < n) (hc : arcf s (fwk s n) i j ≠ NEV) : s i j ≠ NEV ∧ ∃ K, Go n s i j K (-(s i j)) := by
  have h1 := arc_crit.1 hc
  have n1 : s i j ≠ NEV := fun e => by rw [e, pl_nev_left] at h1; exact absurd h1 (by decide)
  have n2 : fwk s n j i ≠ NEV := fun e => by rw [e, pl_nev_right] at h1; exact absurd h1 (by decide)
  unfold pl at h1
  rw [if_neg n1, if_neg n2] at h1
  refine ⟨n1, ?_⟩
  rcases fwk_att (a := s) n jj j i hj hi with e | ⟨K, v, hv, v0, vL, vw⟩
  · exact absurd e n2
  · exact ⟨K, v, hv, v0, vL, by omega⟩
theorem Ok.wk (h : Ok n s) {v : Nat → Nat} {L : Nat} (hv : Wk n (arcf s (fwk s n)) v L) : Wk n s v L :=
  ⟨hv.lt, fun t ht => (h.back (hv.lt _ jj) (hv.lt _ jj) (hv.arc t ht)).1⟩
theorem Ok.return_ (h : Ok n s) {v : Nat → Nat} : ∀ {L : Nat}, Wk n (arcf s (fwk s n)) v L → ∃ K, Go n s (v L) (v 0) K (-(wt s v L)) := by
  intro L
  induction L with
  | zero => intro hv; exact ⟨0, Go.nil (hv.lt 0 jj)⟩
  | succ L ih =>
    intro hv
    obtain ⟨K, hK⟩ := ih (hv.left jj)
    obtain ⟨_, K2, hK2⟩ := h.back (hv.lt (L + 1) jj) (hv.lt L jj) (hv.arc L jj)
    refine ⟨K2 + K, ?_⟩
    have := hK2.cat hK
    rwa [show -(s (v (L + 1)) (v L)) + -(wt s v L) = -(wt s v (L + 1)) by show _ = -(wt s v L + s (v (L + 1)) (v L)); omega] at this
theorem Ok.zero (h : Ok n s) {v : Nat → Nat} {L : Nat} (hv : Wk n (arcf s (fwk s n)) v L) (e : v 0 = v L) : wt s v L = 0 := by
  obtain ⟨K, hK⟩ := h.return_ hv
  rw [e] at hK
  have h1 := hK.closed h.bd jj h.hs h.no
  have h2 := closed_le h.bd jj h.hs h.no L v (h.wk hv) e
  omega
theorem Ok.crit (h : Ok n s) {v : Nat → Nat} {L : Nat} (hv : Wk n s v L) (e : v 0 = v L) (e0 : wt s v L = 0) : Wk n (arcf s (fwk s n)) v L := by
  refine ⟨hv.lt, fun t ht => ?_⟩
  obtain ⟨r, rfl⟩ : ∃ r, L = t + 1 + r := ⟨L - (t + 1), by omega⟩
  have w1 := wt_add s v (t + 1) r
  have g1 : Go n s (v 0) (v t) t (wt s v t) := ⟨v, hv.left jj, rfl, rfl, rfl⟩
  have g2 : Go n s (v (t + 1)) (v (t + 1 + r)) r (wt s (fun q => v (q + (t + 1))) r) := ⟨fun q => v (q + (t + 1)), Wk.shift hv, by simp, by show v (r + (t + 1)) = v (t + 1 + r); rw [Nat.add_comm], rfl⟩
  rw [← e] at g2
  have w2 : wt s v (t + 1) = wt s v t + s (v (t + 1)) (v t) := rfl
  exact h.pl0 (hv.lt _ jj) (hv.lt _ jj) (hv.arc t jj) (g2.cat g1) jj
end
section
variable {n : Nat} {A : List (List Int)} {num den : Int}
end
structure Pc (n : Nat) (c : Nat → Nat → Bool) (w : List Nat) : Prop where
  ne : 0 < w.length
  lt : ∀ t, t < w.length → w.getD t 0 < n
  inj : ∀ s t, s < w.length → t < w.length → w.getD s 0 = w.getD t 0 → s = t
  arc : ∀ t, t + 1 < w.length → c (w.getD (t + 1) 0) (w.getD t 0) = true
structure CC (n : Nat) (c : Nat → Nat → Bool) (w : List Nat) : Prop where
  pre : Pc n c w
  last : c (w.getD 0 0) (w.getD (w.length - 1) 0) = true
theorem lex_lt : ∀ (w : List Nat) {x x' : Nat} {y y' : List Nat}, x < x' → w ++ x :: y < w ++ x' :: y'
  | [], _, _, _, _, h => List.Lex.rel h
  | _ :: w, _, _, _, _, h => List.Lex.cons (lex_lt w h)
theorem Pc.len {n : Nat} {c : Nat → Nat → Bool} {w : List Nat} (h : Pc n c w) : w.length ≤ n := by
  by_cases e : w.length ≤ n
  · exact e
  · obtain ⟨p, q, hpq, hq, he⟩ := php n (fun t => w.getD t 0) (fun t ht => h.lt t jj)
    have := h.inj p q jj jj he
    omega
theorem Pc.snoc {n : Nat} {c : Nat → Nat → Bool} {w : List Nat} (h : Pc n c w) {x : Nat} (hx : x < n) (h2 : ∀ t, t < w.length → w.getD t 0 ≠ x) (h3 : c x (w.getD (w.length - 1) 0) = true) : Pc n c (w ++ [x]) := by
  have l : (w ++ [x]).length = w.length + 1 := by simp
  have g1 : ∀ t, t < w.length → (w ++ [x]).getD t 0 = w.getD t 0 := fun t ht => getD_append_left' ht
  have g2 : (w ++ [x]).getD w.length 0 = x := getD_append_at
  have ne := h.ne
  refine ⟨by omega, fun t ht => ?_, fun s t hs ht e => ?_, fun t ht => ?_⟩
  · by_cases e : t < w.length
    · rw [g1 t e]; exact h.lt t e
    · rw [show t = w.length by omega, g2]; exact hx
  · by_cases e1 : s < w.length
    · by_cases e2 : t < w.length
      · rw [g1 s e1, g1 t e2] at e; exact h.inj s t e1 e2 e
      · rw [g1 s e1, show t = w.length by omega, g2] at e; exact absurd e (h2 s e1)
    · by_cases e2 : t < w.length
      · rw [g1 t e2, show s = w.length by omega, g2] at e; exact absurd e.symm (h2 t e2)
      · omega
  · by_cases e : t + 1 < w.length
    · rw [g1 (t + 1) e, g1 t jj]; exact h.arc t e
    · rw [show t + 1 = w.length by omega, g2, g1 t jj, show t = w.length - 1 by omega]; exact h3
def Hop (n m : Nat) (c : Nat → Nat → Bool) (w : List Nat) (i : Nat) (z : List Nat) : Prop := z.length = m ∧ CC n c z ∧ ∃ x y, z = w ++ x :: y ∧ i ≤ x
def Least (P : List Nat → Prop) (r : List Int) : Prop := (r = [] ∧ ∀ z, ¬ P z) ∨ ∃ z, r = up z ∧ P z ∧ ∀ z', P z' → ¬ z' < z
theorem Least.congr {P Q : List Nat → Prop} {r : List Int} (h : Least P r) (e : ∀ z, P z ↔ Q z) : Least Q r := by
  rcases h with ⟨h1, h2⟩ | ⟨z, h1, h2, h3⟩
  · exact .inl ⟨h1, fun z hz => h2 z ((e z).2 hz)⟩
  · exact .inr ⟨z, h1, (e z).1 h2, fun z' hz => h3 z' ((e z').2 hz)⟩
section
variable {n m : Nat} {c : Nat → Nat → Bool} {w : List Nat}
theorem Hop.lt {i : Nat} {z : List Nat} (h : Hop n m c w i z) : ∃ x y, z = w ++ x :: y ∧ i ≤ x ∧ x < n ∧ (∀ t, t < w.length → w.getD t 0 ≠ x) ∧ (0 < w.length → c x (w.getD (w.length - 1) 0) = true) := by
  obtain ⟨_, hz, x, y, rfl, hx⟩ := h
  have l : (w ++ x :: y).length = w.length + (y.length + 1) := by simp
  have g : (w ++ x :: y).getD w.length 0 = x := getD_append_at
  refine ⟨x, y, rfl, hx, ?_, fun t ht e => ?_, fun h0 => ?_⟩
  · have := hz.pre.lt w.length jj
    rwa [g] at this
  · have h1 : (w ++ x :: y).getD t 0 = w.getD t 0 := getD_append_left' ht
    have := hz.pre.inj t w.length jj jj (by rw [h1, g, e])
    omega
  · have := hz.pre.arc (w.length - 1) jj
    rwa [show w.length - 1 + 1 = w.length by omega, g, getD_append_left' jj] at this
theorem Hop.skip {i : Nat} (hs : (∃ t, t < w.length ∧ w.getD t 0 = i) ∨ (0 < w.length ∧ c i (w.getD (w.length - 1) 0) = false)) (z : List Nat) : Hop n m c w (i + 1) z ↔ Hop n m c w i z := by
  constructor
  · rintro ⟨h1, h2, x, y, h3, h4⟩; exact ⟨h1, h2, x, y, h3, by omega⟩
  · intro h
    obtain ⟨x, y, e, hx, _, h1, h2⟩ := h.lt
    refine ⟨h.1, h.2.1, x, y, e, ?_⟩
    by_cases e2 : x = i
    · subst e2
      rcases hs with ⟨t, ht, ht2⟩ | ⟨h0, hc⟩
      · exact absurd ht2 (h1 t ht)
      · rw [h2 h0] at hc; cases hc
    · omega
theorem clone_f (l : List Int) (h : l.length ≤ 1000) : slices_Clone_int_int.f l = some l := by
  unfold slices_Clone_int_int.f
  simp only [Option.bind_some, List.length_nil, List.nil_append]
  rw [jh]
theorem cycle_l0 (hn : n ≤ 6) (L S D : List (List Int)) (u v : Int) (hS : S.length = n) (hc : ∀ i j, i < n → j < n → llcritical.f L u v S D (i : Int) (j : Int) = some (c i j)) (hw : Pc n c w) (hm : m ≤ 6)
    (hrec : ∀ x, Pc n c (w ++ [x]) → ∃ r, Ev (fun k => llcycle.f k L u v S D (up (w ++ [x])) (m : Int)) r ∧ Least (fun z => z.length = m ∧ CC n c z ∧ ∃ y, z = (w ++ [x]) ++ y) r) :
    ∀ d i, i + d = n → ∃ r, Ev (fun k => llcycle.l0 k (up w) (m : Int) ((w.getD (w.length - 1) 0 : Nat) : Int) (n : Int) (i : Int) L u v S D) r ∧ Least (Hop n m c w i) r := by
  have ul := up_length w
  have wl := hw.len
  have ne := hw.ne
  intro d
  induction d with
  | zero =>
    intro i hi
    refine ⟨[], ev_now fun k => ?_, .inl ⟨rfl, fun z h => ?_⟩⟩
    · simp only [llcycle.l0]
      rw [ji]
    · obtain ⟨x, y, _, h1, h2, _⟩ := h.lt
      omega
  | succ d ih =>
    intro i hi
    obtain ⟨r, hr, hL⟩ := ih (i + 1) jj
    obtain ⟨b, eb, hb⟩ := Contains_f (up w) jj (i : Int)
    have skip : Ev (fun k => llcycle.j1 k (up w) (m : Int) ((w.getD (w.length - 1) 0 : Nat) : Int) (i : Int) (n : Int) (i : Int) true L u v S D) r := by
      refine Ev.step (fun k => ?_) hr
      simp only [llcycle.j1]
      rw [if_pos trivial, wr1 i jj]
    have lastlt : w.getD (w.length - 1) 0 < n := hw.lt _ jj
    have into : ∀ {r0 : List Int}, Ev (fun k => if b = true then llcycle.j1 k (up w) (m : Int) ((w.getD (w.length - 1) 0 : Nat) : Int) (i : Int) (n : Int) (i : Int) true L u v S D else llcycle.j1 k (up w) (m : Int) ((w.getD (w.length - 1) 0 : Nat) : Int) (i : Int) (n : Int) (i : Int) (!(c i (w.getD (w.length - 1) 0))) L u v S D) r0 → Ev (fun k => llcycle.l0 k (up w) (m : Int) ((w.getD (w.length - 1) 0 : Nat) : Int) (n : Int) (i : Int) L u v S D) r0 := fun {r0} h => by
      refine Ev.step (f := fun k => (slices_Contains_int_int.f k (up w) (i : Int)).bind fun t => if t = true then llcycle.j1 k (up w) (m : Int) ((w.getD (w.length - 1) 0 : Nat) : Int) (i : Int) (n : Int) (i : Int) true L u v S D else llcycle.j1 k (up w) (m : Int) ((w.getD (w.length - 1) 0 : Nat) : Int) (i : Int) (n : Int) (i : Int) (!(c i (w.getD (w.length - 1) 0))) L u v S D) (fun k => ?_) (Ev.bind eb h)
      simp only [llcycle.l0]
      rw [jh, hc i _ jj lastlt]
      rfl
    cases b with
    | true =>
      obtain ⟨t, h1, h2⟩ := hb.1 rfl
      rw [up_get] at h2
      exact ⟨r, into (Ev.congr (fun k => if_pos rfl) skip), hL.congr (Hop.skip (.inl ⟨t, by omega, by omega⟩))⟩
    | false =>
      by_cases hcr : c i (w.getD (w.length - 1) 0) = true
      · have new : ∀ t, t < w.length → w.getD t 0 ≠ i := fun t ht e => by
          have := hb.2 ⟨t, by omega, by rw [up_get, e]⟩
          cases this
        obtain ⟨q, eq, hq⟩ := hrec i (hw.snoc jj new hcr)
        have at_i : ∀ z, Hop n m c w i z ↔ (z.length = m ∧ CC n c z ∧ ∃ y, z = (w ++ [i]) ++ y) ∨ Hop n m c w (i + 1) z := fun z => by
          constructor
          · rintro ⟨h1, h2, x, y, h3, h4⟩
            by_cases e : x = i
            · subst e
              exact .inl ⟨h1, h2, y, by rw [h3, List.append_assoc]; rfl⟩
            · exact .inr ⟨h1, h2, x, y, h3, by omega⟩
          · rintro (⟨h1, h2, y, h3⟩ | ⟨h1, h2, x, y, h3, h4⟩)
            · exact ⟨h1, h2, i, y, by rw [h3, List.append_assoc]; rfl, Nat.le_refl _⟩
            · exact ⟨h1, h2, x, y, h3, by omega⟩
        have down : ∀ r0, Ev (fun k => if (q.length : Int) = 0 then llcycle.l0 k (up w) (m : Int) ((w.getD (w.length - 1) 0 : Nat) : Int) (n : Int) ((i + 1 : Nat) : Int) L u v S D else some q) r0 → Ev (fun k => llcycle.l0 k (up w) (m : Int) ((w.getD (w.length - 1) 0 : Nat) : Int) (n : Int) (i : Int) L u v S D) r0 := fun r0 h => by
          refine into (Ev.congr (fun k => if_neg (by decide)) ?_)
          rw [hcr]
          refine Ev.step (f := fun k => (llcycle.f k L u v S D (up (w ++ [i])) (m : Int)).bind fun t => if (t.length : Int) = 0 then llcycle.l0 k (up w) (m : Int) ((w.getD (w.length - 1) 0 : Nat) : Int) (n : Int) ((i + 1 : Nat) : Int) L u v S D else some t) (fun k => ?_) (Ev.bind eq h)
          simp only [llcycle.j1]
          rw [if_neg (by decide), clone_f _ jj]
          simp only [Option.bind_some]
          rw [jh, up_append, wr1 i jj]
        rcases hq with ⟨h1, h2⟩ | ⟨z, h1, h2, h3⟩
        · refine ⟨r, down r (Ev.congr (fun k => if_pos (by rw [h1]; rfl)) hr), hL.congr fun z => ?_⟩
          rw [at_i]
          exact ⟨.inr, fun h => h.elim (fun h => absurd h (h2 z)) id⟩
        · have hz : 0 < z.length := h2.2.1.pre.ne
          have ulz := up_length z
          refine ⟨q, down q (ev_some fun k => if_neg (by rw [h1]; omega)), .inr ⟨z, h1, (at_i z).2 (.inl h2), fun z' hz' => ?_⟩⟩
          rcases (at_i z').1 hz' with h | ⟨_, _, x, y, h4, h5⟩
          · exact h3 z' h
          · obtain ⟨_, _, y2, h6⟩ := h2
            rw [h4, h6, List.append_assoc]
            exact List.lt_asymm (lex_lt w (by omega : i < x))
      · have hcf : c i (w.getD (w.length - 1) 0) = false := Bool.eq_false_iff.2 hcr
        refine ⟨r, into (Ev.congr (fun k => if_neg (by decide)) (by rw [hcf]; exact skip)), hL.congr (Hop.skip (.inr ⟨ne, hcf⟩))⟩
theorem cycle_f (hn : n ≤ 6) (L S D : List (List Int)) (u v : Int) (hS : S.length = n) (hc : ∀ i j, i < n → j < n → llcritical.f L u v S D (i : Int) (j : Int) = some (c i j)) (hm : m ≤ 6) :
    ∀ d (w : List Nat), w.length + d = m → Pc n c w → ∃ r, Ev (fun k => llcycle.f k L u v S D (up w) (m : Int)) r ∧ Least (fun z => z.length = m ∧ CC n c z ∧ ∃ y, z = w ++ y) r := by
  intro d
  induction d with
  | zero =>
    intro w hw hp
    have ul := up_length w
    have ne := hp.ne
    have e : wrap64 (((up w).length : Int) - 1) = ((w.length - 1 : Nat) : Int) := by rw [wr jj jj]; omega
    have hcc := hc (w.getD 0 0) (w.getD (w.length - 1) 0) (hp.lt _ ne) (hp.lt _ jj)
    have only : ∀ z, (z.length = m ∧ CC n c z ∧ ∃ y, z = w ++ y) → z = w := fun z ⟨h1, _, y, h3⟩ => by
      subst h3
      have : y = [] := by
        cases y with
        | nil => rfl
        | cons a y => simp at h1; omega
      rw [this, List.append_nil]
    have st : ∀ r0, (if c (w.getD 0 0) (w.getD (w.length - 1) 0) = true then up w else []) = r0 → Ev (fun k => llcycle.f k L u v S D (up w) (m : Int)) r0 := fun r0 h => by
      refine ev_now fun k => ?_
      simp only [llcycle.f]
      rw [e, jh, jh, jh, jh, rdI, up_get, show rd (up w) 0 = ((w.getD 0 0 : Nat) : Int) from up_get w 0, hcc]
      simp only [Option.bind_some]
      rw [clone_f _ (by have := hp.len; omega)]
      simp only [Option.bind_some]
      rw [← h]
      split <;> rfl
    by_cases h : c (w.getD 0 0) (w.getD (w.length - 1) 0) = true
    · refine ⟨up w, st _ (if_pos h), .inr ⟨w, rfl, ⟨by omega, ⟨hp, h⟩, [], (List.append_nil w).symm⟩, fun z hz => ?_⟩⟩
      rw [only z hz]
      exact List.lt_irrefl w
    · refine ⟨[], st _ (if_neg h), .inl ⟨rfl, fun z hz => ?_⟩⟩
      have := only z hz
      subst this
      exact h hz.2.1.last
  | succ d ih =>
    intro w hw hp
    have ul := up_length w
    have ne := hp.ne
    have e : wrap64 (((up w).length : Int) - 1) = ((w.length - 1 : Nat) : Int) := by rw [wr jj jj]; omega
    obtain ⟨r, hr, hL⟩ := cycle_l0 hn L S D u v hS hc hp hm (fun x hx => ih (w ++ [x]) (by simp; omega) hx) n 0 jj
    refine ⟨r, Ev.step (fun k => ?_) hr, hL.congr fun z => ?_⟩
    · simp only [llcycle.f]
      rw [e, jh, jh, ji, rdI, up_get, hS]
      rfl
    · constructor
      · rintro ⟨h1, h2, x, y, h3, _⟩; exact ⟨h1, h2, x :: y, h3⟩
      · rintro ⟨h1, h2, y, h3⟩
        cases y with
        | nil => rw [h3, List.append_nil] at h1; omega
        | cons x y => exact ⟨h1, h2, x, y, h3, Nat.zero_le _⟩
end
structure First (n : Nat) (c : Nat → Nat → Bool) (z : List Nat) : Prop where
  cc : CC n c z
  short : ∀ z', CC n c z' → z.length ≤ z'.length
  head : ∀ z', CC n c z' → z'.length = z.length → z.getD 0 0 ≤ z'.getD 0 0
  least : ∀ z', CC n c z' → z'.length = z.length → z'.getD 0 0 = z.getD 0 0 → ¬ z' < z
theorem single (n : Nat) (c : Nat → Nat → Bool) (i : Nat) (hi : i < n) : Pc n c [i] := by
  refine ⟨by simp, fun t ht => ?_, fun s t hs ht _ => by simp at hs ht; omega, fun t ht => by simp at ht⟩
  simp at ht; subst ht; exact hi
theorem headed {z : List Nat} {i : Nat} (h : z.getD 0 0 = i) (h0 : 0 < z.length) : ∃ y, z = [i] ++ y := by
  cases z with
  | nil => simp at h0
  | cons a y => exact ⟨y, by rw [← h]; rfl⟩
section
variable {n m : Nat} {c : Nat → Nat → Bool}
theorem Cycle_l1 (hn : n ≤ 6) (L S D : List (List Int)) (u v : Int) (hS : S.length = n) (hc : ∀ i j, i < n → j < n → llcritical.f L u v S D (i : Int) (j : Int) = some (c i j)) (hm : m ≤ 6) (hm1 : 1 ≤ m)
    (hsh : ∀ z, CC n c z → m ≤ z.length)
    (hr : (∀ z, CC n c z → m + 1 ≤ z.length) → ∃ z, First n c z ∧ Ev (fun k => line_Cycle.l0 k ((m + 1 : Nat) : Int) L u v S D) (up z, 0)) :
    ∀ d i, i + d = n → (∀ z, CC n c z → z.length = m → i ≤ z.getD 0 0) → ∃ z, First n c z ∧ Ev (fun k => line_Cycle.l1 k (m : Int) (n : Int) (i : Int) L u v S D) (up z, 0) := by
  intro d
  induction d with
  | zero =>
    intro i hi hd
    obtain ⟨z, hz, h⟩ := hr fun z hz => by
      have h1 := hsh z hz
      by_cases e : z.length = m
      · have := hd z hz e
        have := hz.pre.lt 0 hz.pre.ne
        omega
      · omega
    refine ⟨z, hz, Ev.step (fun k => ?_) h⟩
    simp only [line_Cycle.l1]
    rw [ji, wr1 m jj]
  | succ d ih =>
    intro i hi hd
    have hp := single n c i jj
    obtain ⟨r, er, hL⟩ := cycle_f hn L S D u v hS hc hm (m - 1) [i] (by simp; omega) hp
    have st : ∀ r0, Ev (fun k => if (r.length : Int) = 0 then line_Cycle.l1 k (m : Int) (n : Int) ((i + 1 : Nat) : Int) L u v S D else some (r, 0)) r0 → Ev (fun k => line_Cycle.l1 k (m : Int) (n : Int) (i : Int) L u v S D) r0 := fun r0 h => by
      refine Ev.step (f := fun k => (llcycle.f k L u v S D (up [i]) (m : Int)).bind fun t => if (t.length : Int) = 0 then line_Cycle.l1 k (m : Int) (n : Int) ((i + 1 : Nat) : Int) L u v S D else some (t, 0)) (fun k => ?_) (Ev.bind er h)
      simp only [line_Cycle.l1]
      rw [jh, wr1 i jj]
      rfl
    rcases hL with ⟨h1, h2⟩ | ⟨z, h1, ⟨h2, h3, y, h4⟩, h5⟩
    · obtain ⟨z, hz, h⟩ := ih (i + 1) jj fun z hz e => by
        have h3 := hd z hz e
        by_cases e2 : z.getD 0 0 = i
        · exact absurd ⟨e, hz, headed e2 hz.pre.ne⟩ (h2 z)
        · omega
      exact ⟨z, hz, st _ (Ev.congr (fun k => if_pos (by rw [h1]; rfl)) h)⟩
    · have hz0 := h3.pre.ne
      have ulz := up_length z
      have e0 : z.getD 0 0 = i := by rw [h4]; rfl
      refine ⟨z, ⟨h3, fun z' hz' => by have := hsh z' hz'; omega, fun z' hz' e => by have := hd z' hz' jj; omega, fun z' hz' e e2 => ?_⟩, st _ (ev_some fun k => ?_)⟩
      · exact h5 z' ⟨by omega, hz', headed jj hz'.pre.ne⟩
      · rw [if_neg (by rw [h1]; omega), h1]
theorem Cycle_l0 (hn : n ≤ 6) (L S D : List (List Int)) (u v : Int) (hS : S.length = n) (hc : ∀ i j, i < n → j < n → llcritical.f L u v S D (i : Int) (j : Int) = some (c i j)) {b : List Nat} (hb : CC n c b) :
    ∀ d m, m + d = b.length → 1 ≤ m → (∀ z, CC n c z → m ≤ z.length) → ∃ z, First n c z ∧ Ev (fun k => line_Cycle.l0 k (m : Int) L u v S D) (up z, 0) := by
  have hb6 := hb.pre.len
  intro d
  induction d with
  | zero =>
    intro m hm hm1 hs
    obtain ⟨z, hz, h⟩ := Cycle_l1 hn L S D u v hS hc jj hm1 hs (fun h => by have := h b hb; omega) n 0 jj (fun _ _ _ => Nat.zero_le _)
    refine ⟨z, hz, Ev.step (fun k => ?_) h⟩
    simp only [line_Cycle.l0]
    rw [hS]
    rfl
  | succ d ih =>
    intro m hm hm1 hs
    obtain ⟨z, hz, h⟩ := Cycle_l1 hn L S D u v hS hc jj hm1 hs (fun h => ih (m + 1) jj jj h) n 0 jj (fun _ _ _ => Nat.zero_le _)
    refine ⟨z, hz, Ev.step (fun k => ?_) h⟩
    simp only [line_Cycle.l0]
    rw [hS]
    rfl
end
section
variable {n : Nat} {A : List (List Int)} {num den : Int}
theorem cc_walk (hA : Arg n A) (ht : Top n (ent A) (Seen n (n + 1) 0) num den) {z : List Nat} (h : CC n (crit (slackf num den (ent A)) (fwk (slackf num den (ent A)) n)) z) : Wk n (ent A) (cyc z) z.length ∧ cw (ent A) z * den = num * (z.length : Nat) := by
  have ok : Ok n (slackf num den (ent A)) := ⟨hA.one, hA.six, slack_bd hA.bd ht, slack_nopos hA.six hA.bd ht⟩
  have hp := h.pre
  have h1 : Wk n (arcf (slackf num den (ent A)) (fwk (slackf num den (ent A)) n)) (cyc z) z.length := by
    have yes : ∀ i j, crit (slackf num den (ent A)) (fwk (slackf num den (ent A)) n) i j = true → arcf (slackf num den (ent A)) (fwk (slackf num den (ent A)) n) i j ≠ NEV := fun i j e => by
      unfold arcf
      rw [if_pos e]
      decide
    refine ⟨fun t _ => hp.lt _ (Nat.mod_lt _ hp.ne), fun t ht => ?_⟩
    rw [cyc_lt ht]
    by_cases e : t + 1 < z.length
    · rw [cyc_lt e]; exact yes _ _ (hp.arc t e)
    · have e2 : t + 1 = z.length := by omega
      rw [e2, cyc_len]
      have := h.last
      rw [show z.length - 1 = t by omega] at this
      exact yes _ _ this
  have e0 : cyc z 0 = cyc z z.length := by rw [cyc_zero, cyc_len]
  have hw := slack_wk hA.bd ht (ok.wk h1)
  have hz := ok.zero h1 e0
  rw [slack_wt hw] at hz
  refine ⟨hw, ?_⟩
  unfold cw
  rw [Int.mul_comm _ den]
  omega
theorem cy_cc (hA : Arg n A) (ht : Top n (ent A) (Seen n (n + 1) 0) num den) {z : List Nat} (h : Cy n (ent A) z) (hm : cw (ent A) z * den = num * (z.length : Nat)) : CC n (crit (slackf num den (ent A)) (fwk (slackf num den (ent A)) n)) z := by
  have ok : Ok n (slackf num den (ent A)) := ⟨hA.one, hA.six, slack_bd hA.bd ht, slack_nopos hA.six hA.bd ht⟩
  have hp := h.pre
  have hw := h.wk
  have e0 : cyc z 0 = cyc z z.length := by rw [cyc_zero, cyc_len]
  have hz0 : wt (slackf num den (ent A)) (cyc z) z.length = 0 := by
    rw [slack_wt hw]
    unfold cw at hm
    rw [Int.mul_comm den, hm]
    omega
  have hcr := ok.crit (slack_wk' hA.bd ht hw) e0 hz0
  have yes : ∀ i j, arcf (slackf num den (ent A)) (fwk (slackf num den (ent A)) n) i j ≠ NEV → crit (slackf num den (ent A)) (fwk (slackf num den (ent A)) n) i j = true := fun i j e => by
    unfold crit
    rw [beq_iff_eq]
    exact arc_crit.1 e
  refine ⟨⟨hp.ne, hp.lt, hp.inj, fun t ht => ?_⟩, ?_⟩
  · have := hcr.arc t jj
    rw [cyc_lt ht, cyc_lt jj] at this
    exact yes _ _ this
  · have ne := hp.ne
    have := hcr.arc (z.length - 1) jj
    rw [show z.length - 1 + 1 = z.length by omega, cyc_len, cyc_lt jj] at this
    exact yes _ _ this
end
def tra (a : Nat → Nat → Int) (i j : Nat) : Int := a j i
theorem pl_comm (a b : Int) : pl a b = pl b a := by
  unfold pl
  by_cases h1 : a = NEV
  · by_cases h2 : b = NEV
    · rw [if_pos h1, if_pos h2]
    · rw [if_pos h1, if_neg h2, if_pos h1]
  · by_cases h2 : b = NEV
    · rw [if_neg h1, if_pos h2, if_pos h2]
    · rw [if_neg h1, if_neg h2, if_neg h2, if_neg h1, Int.add_comm]
section
variable {n : Nat} {a : Nat → Nat → Int} {num den : Int}
theorem pow_tra (ha : BdM n n 1000 a) : ∀ k : Nat, k ≤ 1000 → ∀ i j, i < n → j < n → powf n (tra a) k i j = powf n a k j i
  | 0, _, i, j, _, _ => by
    show onef i j = onef j i
    unfold onef
    by_cases h : i = j
    · rw [if_pos h, if_pos h.symm]
    · rw [if_neg h, if_neg (fun e => h e.symm)]
  | k + 1, hk, i, j, hi, hj => by
    have ih := pow_tra ha k jj
    have h1 := pow_add ha jj 1 k jj (x := j) (y := i) hj hi
    have h2 : powf n a (k + 1) j i = powf n a (1 + k) j i := by rw [Nat.add_comm]
    rw [h2, h1]
    show sup (fun q => pl (powf n (tra a) k i q) (tra a q j)) n = sup (fun q => pl (powf n a 1 j q) (powf n a k q i)) n
    refine sup_congr fun q hq => ?_
    rw [ih i q hi hq, pl_comm, show powf n a 1 j q = a j q from one_mul ha jj hj hq]
    rfl
theorem Top.move {b : Nat → Nat → Int} (h : Top n a (Seen n (n + 1) 0) num den) (e : ∀ k i, Seen n (n + 1) 0 k i → powf n b k i i = powf n a k i i) : Top n b (Seen n (n + 1) 0) num den := by
  refine ⟨h.den0, h.den6, h.lo, h.hi, fun k i hS hne => ?_, ?_, h.low⟩
  · rw [e k i hS] at hne ⊢
    exact h.top k i hS hne
  · obtain ⟨k, i, hS, hne, he⟩ := h.att
    exact ⟨k, i, hS, by rw [e k i hS]; exact hne, by rw [e k i hS]; exact he⟩
theorem Top.tra (hn : n ≤ 6) (ha : BdM n n 1000 a) (h : Top n a (Seen n (n + 1) 0) num den) : Top n (tra a) (Seen n (n + 1) 0) num den :=
  h.move fun k i hS => pow_tra ha k (by have := hS.2.2; omega) i i hS.2.1 hS.2.1
def shf (n : Nat) (a : Nat → Nat → Int) (t : Nat) (m : Int) (i j : Nat) : Int := pl (a ((i + t) % n) ((j + t) % n)) m
def bac (n t i : Nat) : Nat := (i + (n - t % n)) % n
theorem bac_lt (h : 1 ≤ n) (t i : Nat) : bac n t i < n := Nat.mod_lt _ h
theorem shf_bac (h : 1 ≤ n) (t : Nat) {i : Nat} (hi : i < n) : (bac n t i + t) % n = i := by
  unfold bac
  have h1 := Nat.mod_lt t h
  rw [Nat.add_mod, Nat.mod_mod, ← Nat.add_mod]
  have h2 := Nat.div_add_mod t n
  rw [show i + (n - t % n) + t = i + n * (t / n + 1) by rw [Nat.mul_add, Nat.mul_one]; omega, Nat.add_mul_mod_self_left, Nat.mod_eq_of_lt hi]
theorem shf_nev {t : Nat} {m : Int} (hm : -500 ≤ m ∧ m ≤ 500) {i j : Nat} (ha : Bd 1000 (a ((i + t) % n) ((j + t) % n))) : (shf n a t m i j ≠ NEV ↔ a ((i + t) % n) ((j + t) % n) ≠ NEV) ∧ (a ((i + t) % n) ((j + t) % n) ≠ NEV → shf n a t m i j = a ((i + t) % n) ((j + t) % n) + m) := by
  unfold shf pl
  unfold Bd at ha
  by_cases h : a ((i + t) % n) ((j + t) % n) = NEV
  · rw [if_pos h]
    exact ⟨⟨fun h2 => absurd rfl h2, fun h2 => absurd h h2⟩, fun h2 => absurd h h2⟩
  · rw [if_neg h, if_neg (by unfold NEV; omega)]
    refine ⟨⟨fun _ => h, fun _ => ?_⟩, fun _ => rfl⟩
    have := ha.resolve_left h
    unfold NEV
    omega
theorem shf_walk (hn1 : 1 ≤ n) (ha : BdM n n 1000 a) {t : Nat} {m : Int} (hm : -500 ≤ m ∧ m ≤ 500) {v : Nat → Nat} : ∀ {L : Nat}, Wk n (shf n a t m) v L → Wk n a (fun q => (v q + t) % n) L ∧ wt (shf n a t m) v L = wt a (fun q => (v q + t) % n) L + m * (L : Nat) := by
  have mod : ∀ x, x % n < n := fun x => Nat.mod_lt _ hn1
  intro L
  induction L with
  | zero => intro _; exact ⟨⟨fun q _ => mod _, fun q hq => by omega⟩, by simp [wt]⟩
  | succ L ih =>
    intro h
    obtain ⟨h1, h2⟩ := ih (h.left jj)
    have harc := h.arc L jj
    have f := shf_nev (n := n) (a := a) (t := t) hm (i := v (L + 1)) (j := v L) (ha _ _ (mod _) (mod _))
    have hne := f.1.1 harc
    refine ⟨⟨fun q _ => mod _, fun q hq => ?_⟩, ?_⟩
    · by_cases e : q = L
      · subst e; exact hne
      · exact h1.arc q jj
    · show wt (shf n a t m) v L + shf n a t m (v (L + 1)) (v L) = wt a (fun q => (v q + t) % n) L + a ((v (L + 1) + t) % n) ((v L + t) % n) + m * ((L + 1 : Nat) : Int)
      rw [h2, f.2 hne, Int.natCast_succ, Int.mul_add]
      omega
theorem bac_walk (hn1 : 1 ≤ n) (ha : BdM n n 1000 a) {t : Nat} {m : Int} (hm : -500 ≤ m ∧ m ≤ 500) {v : Nat → Nat} {L : Nat} (h : Wk n a v L) : Wk n (shf n a t m) (fun q => bac n t (v q)) L ∧ wt (shf n a t m) (fun q => bac n t (v q)) L = wt a v L + m * (L : Nat) := by
  have hw : Wk n (shf n a t m) (fun q => bac n t (v q)) L := by
    refine ⟨fun q _ => bac_lt hn1 t _, fun q hq => ?_⟩
    have f := shf_nev (n := n) (a := a) (t := t) hm (i := bac n t (v (q + 1))) (j := bac n t (v q)) (ha _ _ (Nat.mod_lt _ hn1) (Nat.mod_lt _ hn1))
    refine f.1.2 ?_
    rw [shf_bac hn1 t (h.lt (q + 1) jj), shf_bac hn1 t (h.lt q jj)]
    exact h.arc q hq
  refine ⟨hw, ?_⟩
  rw [(shf_walk hn1 ha hm hw).2]
  congr 1
  exact wt_congr fun q hq => shf_bac hn1 t (h.lt q hq)
theorem Top.shf (hn1 : 1 ≤ n) (hn : n ≤ 6) (ha : BdM n n 1000 a) {t : Nat} {m : Int} (hm : -500 ≤ m ∧ m ≤ 500) (hb : BdM n n 1000 (shf n a t m)) (h : Top n a (Seen n (n + 1) 0) num den) :
    Top n (shf n a t m) (Seen n (n + 1) 0) (num + m * den) den := by
  have d0 := h.den0
  have exp : ∀ (x : Int) (k : Nat), (x + m * (k : Nat)) * den = x * den + m * den * (k : Nat) := fun x k => by rw [Int.add_mul, Int.mul_right_comm]
  have top : ∀ k i, Seen n (n + 1) 0 k i → powf n (Pure.shf n a t m) k i i ≠ NEV → powf n (Pure.shf n a t m) k i i * den ≤ (num + m * den) * (k : Nat) := fun k i hS hne => by
    obtain ⟨v, hv, v0, vL, vw⟩ := pow_att k i i hS.2.1 hS.2.1 hne
    obtain ⟨h1, h2⟩ := shf_walk hn1 ha hm hv
    have hk : k ≤ n := by have := hS.2.2; omega
    have hg : Go n a ((i + t) % n) ((i + t) % n) k (wt a (fun q => (v q + t) % n) k) := ⟨_, h1, by simp only [v0], by simp only [vL], rfl⟩
    obtain ⟨g1, g2⟩ := Go.le_pow ha jj jj hg
    have h3 := h.top k ((i + t) % n) ⟨hS.1, Nat.mod_lt _ hn1, .inl jj⟩ g1
    have h4 := Int.mul_le_mul_of_nonneg_right g2 (show (0 : Int) ≤ den by omega)
    rw [← vw, h2, exp, Int.add_mul]
    omega
  have att : ∃ k i, Seen n (n + 1) 0 k i ∧ powf n (Pure.shf n a t m) k i i ≠ NEV ∧ powf n (Pure.shf n a t m) k i i * den = (num + m * den) * (k : Nat) := by
    obtain ⟨k, i, hS, hne, he⟩ := h.att
    obtain ⟨v, hv, v0, vL, vw⟩ := pow_att k i i hS.2.1 hS.2.1 hne
    obtain ⟨h1, h2⟩ := bac_walk (t := t) hn1 ha hm hv
    have hk : k ≤ n := by have := hS.2.2; omega
    have hg : Go n (Pure.shf n a t m) (bac n t i) (bac n t i) k (wt (Pure.shf n a t m) (fun q => bac n t (v q)) k) := ⟨_, h1, by simp only [v0], by simp only [vL], rfl⟩
    obtain ⟨g1, g2⟩ := Go.le_pow hb jj jj hg
    have hS2 : Seen n (n + 1) 0 k (bac n t i) := ⟨hS.1, bac_lt hn1 t i, .inl jj⟩
    refine ⟨k, bac n t i, hS2, g1, Int.le_antisymm (top k _ hS2 g1) ?_⟩
    have h4 := Int.mul_le_mul_of_nonneg_right g2 (show (0 : Int) ≤ den by omega)
    rw [h2, vw, exp, he] at h4
    rw [Int.add_mul]
    omega
  have lim : -(1000 * den) ≤ num + m * den ∧ num + m * den ≤ 1000 * den := by
    obtain ⟨k, i, hS, hne, he⟩ := att
    have hk1 := hS.1
    have b := (BdM.pow hb k i i hS.2.1 hS.2.1).resolve_left hne
    have b1 := Int.mul_le_mul_of_nonneg_right b.1 (show (0 : Int) ≤ den by omega)
    have b2 := Int.mul_le_mul_of_nonneg_right b.2 (show (0 : Int) ≤ den by omega)
    rw [he] at b1 b2
    have e1 : (1000 : Int) * (k : Nat) * den = 1000 * den * (k : Nat) := by rw [Int.mul_right_comm]
    constructor
    · refine Int.le_of_mul_le_mul_right (a := (k : Int)) ?_ jj
      rw [Int.neg_mul] at b1 ⊢
      omega
    · refine Int.le_of_mul_le_mul_right (a := (k : Int)) ?_ jj
      omega
  have d6 := h.den6
  refine ⟨d0, d6, by omega, by omega, top, att, fun d h1 h2 => h.low d ?_ h2⟩
  have h3 := Int.dvd_sub h1 (Int.dvd_trans h2 (Int.dvd_mul_left m den))
  rwa [show num + m * den - m * den = num by omega] at h3
end
section
variable {n : Nat} {A : List (List Int)} {num den : Int}
theorem Speed_top (hA : Arg n A) (ra : Rows A) (h : Top n (ent A) (Seen n (n + 1) 0) num den) : Ev (fun k => line_Speed.f k A) (num, den, 0) := by
  have eo := ((of_f A ra).resolve_right (fun h => h.1 ⟨n, hA⟩)).2
  obtain ⟨⟨x, y, f⟩, ep, hb⟩ := pace_f hA
  rcases hb with ⟨_, h2⟩ | ⟨e, h2⟩
  · obtain ⟨k, i, hS, hne, _⟩ := h.att
    exact absurd (h2 k i hS) hne
  · obtain rfl : f = true := e
    obtain ⟨e1, e2⟩ := Top.uniq h h2
    have e1 : num = x := e1
    have e2 : den = y := e2
    subst e1
    subst e2
    unfold line_Speed.f
    exact Ev.bind eo (Ev.congr (fun k => if_pos rfl) (Ev.bind ep (ev_some fun k => if_pos rfl)))
def pots (n : Nat) (a : Nat → Nat → Int) (num den : Int) : Nat → Int := potf n (fwk (slackf num den a) n) n
theorem Potential_val (hA : Arg n A) (ht : Top n (ent A) (Seen n (n + 1) 0) num den) (el : Ev (fun k => line_looked.f k A) (A, num, den, mat n (slackf num den (ent A)), mat n (fwk (slackf num den (ent A)) n), 0)) :
    Ev (fun k => line_Potential.f k A) (vec n (pots n (ent A) num den), 0) := by
  have h6 := hA.six
  have hl := hA.is.1
  have hbd := slack_bd hA.bd ht
  have hp := slack_nopos h6 hA.bd ht
  have hB := eig_bd h6 hA.bd ht
  have hz : ∀ j, j < n → Bd 0 ((List.replicate n (0 : Int)).getD j 0) := fun j hj => by
    rw [List.getD_eq_getElem?_getD, List.getElem?_replicate, if_pos hj]
    exact .inr ⟨(by decide : -(0 : Int) ≤ 0), (by decide : (0 : Int) ≤ 0)⟩
  have eo := on_f (n := n) (M := 768000) (N := 0) (A := mat n (fwk (slackf num den (ent A)) n)) (x := List.replicate n 0) jj (isMat_mat n _) (by simp) (fun i j hi hj => by rw [ent_mat _ hi hj]; exact hB i j hi hj) hz jj jj jj
  have e : vec n (onf n (ent (mat n (fwk (slackf num den (ent A)) n))) (fun j => (List.replicate n (0 : Int)).getD j 0)) = vec n (pots n (ent A) num den) := vec_congr fun i hi => by
    have e1 : onf n (ent (mat n (fwk (slackf num den (ent A)) n))) (fun j => (List.replicate n (0 : Int)).getD j 0) i = sup (fwk (slackf num den (ent A)) n i) n := sup_congr fun j hj => by
      rw [ent_mat _ hi hj]
      show pl _ ((List.replicate n (0 : Int)).getD j 0) = _
      rw [List.getD_eq_getElem?_getD, List.getElem?_replicate, if_pos hj]
      show pl (fwk (slackf num den (ent A)) n i j) 0 = _
      unfold pl
      split
      · rename_i h; exact h.symm
      · rw [if_neg (by decide)]; omega
    rw [e1]
    have t6 := pow6 h6
    have dg := fwk_diag hbd jj jj hp (k := n) jj hi
    have := le_sup (h := fwk (slackf num den (ent A)) n i) hi
    rw [dg] at this
    unfold pots potf
    omega
  rw [e] at eo
  unfold line_Potential.f
  refine Ev.bind el (Ev.congr (fun k => if_pos rfl) (Ev.congr (f := fun k => (lgon.f k (mat n (fwk (slackf num den (ent A)) n)) (List.replicate n 0)).bind fun t => some (t, (0 : Int))) (fun k => ?_) (Ev.bind eo (Ev.now _))))
  rw [jh, toN, jh, hl]
theorem pots_cases {a : Nat → Nat → Int} (i : Nat) : pots n a num den i = 0 ∨ (0 < pots n a num den i ∧ ∃ j, j < n ∧ pots n a num den i = fwk (slackf num den a) n i j) := by
  unfold pots potf
  rcases sup_mem (fwk (slackf num den a) n i) n with h | ⟨j, hj, h⟩
  · rw [h]; exact .inl (by unfold NEV; omega)
  · rw [h]
    by_cases h0 : fwk (slackf num den a) n i j ≤ 0
    · exact .inl jj
    · exact .inr ⟨by omega, j, hj, by omega⟩
theorem pots_ge {a : Nat → Nat → Int} (i j : Nat) (hj : j < n) : fwk (slackf num den a) n i j ≤ pots n a num den i := by
  have := le_sup (h := fwk (slackf num den a) n i) hj
  unfold pots potf
  omega
theorem pots_nonneg {a : Nat → Nat → Int} (i : Nat) : 0 ≤ pots n a num den i := by
  unfold pots potf
  omega
theorem pots_bd (hA : Arg n A) (ht : Top n (ent A) (Seen n (n + 1) 0) num den) (i : Nat) (hi : i < n) : pots n (ent A) num den i ≤ 768000 := by
  have hB := eig_bd hA.six hA.bd ht
  rcases pots_cases (n := n) (num := num) (den := den) (a := ent A) i with h | ⟨h0, j, hj, h⟩
  · omega
  · have := hB i j hi hj
    unfold Bd NEV at this
    omega
theorem pots_step (hA : Arg n A) (ht : Top n (ent A) (Seen n (n + 1) 0) num den) (i j : Nat) (hi : i < n) (hj : j < n) (hne : ent A i j ≠ NEV) : den * ent A i j - num + pots n (ent A) num den j ≤ pots n (ent A) num den i := by
  have h6 := hA.six
  have t6 := pow6 h6
  have hbd := slack_bd hA.bd ht
  have hp := slack_nopos h6 hA.bd ht
  have es : slackf num den (ent A) i j = den * ent A i j - num := by
    unfold slackf mapf
    rw [if_neg hne]
  have hs : slackf num den (ent A) i j ≠ NEV := fun e => hne ((slack_nev (hA.bd i j hi hj) ht).1 e)
  rcases pots_cases (n := n) (num := num) (den := den) (a := ent A) j with h | ⟨h0, k, hk, h⟩
  · have h1 := arc_star (n := n) (a := slackf num den (ent A)) i j
    have h2 := pots_ge (n := n) (num := num) (den := den) (a := ent A) i j hj
    omega
  · have h1 := star_step hbd jj jj hp jj jj i j k hi hj hk
    have h2 := pots_ge (n := n) (num := num) (den := den) (a := ent A) i k hk
    have h3 : fwk (slackf num den (ent A)) n j k ≠ NEV := by unfold NEV; omega
    unfold pl at h1
    rw [if_neg hs, if_neg h3] at h1
    omega
theorem pots_zero (hA : Arg n A) (ht : Top n (ent A) (Seen n (n + 1) 0) num den) : ∃ i, i < n ∧ pots n (ent A) num den i = 0 := by
  have h6 := hA.six
  have t6 := pow6 h6
  have h1 := hA.one
  have hbd := slack_bd hA.bd ht
  have hp := slack_nopos h6 hA.bd ht
  rcases pots_cases (n := n) (num := num) (den := den) (a := ent A) 0 with h | ⟨h0, j, hj, h⟩
  · exact ⟨0, h1, h⟩
  · rcases pots_cases (n := n) (num := num) (den := den) (a := ent A) j with h2 | ⟨h3, k, hk, h2⟩
    · exact ⟨j, hj, h2⟩
    · have tr := fwk_tr hbd jj jj hp jj n jj j hj 0 k h1 hk
      have ge := pots_ge (n := n) (num := num) (den := den) (a := ent A) 0 k hk
      have n1 : fwk (slackf num den (ent A)) n 0 j ≠ NEV := by unfold NEV; omega
      have n2 : fwk (slackf num den (ent A)) n j k ≠ NEV := by unfold NEV; omega
      unfold pl at tr
      rw [if_neg n1, if_neg n2] at tr
      omega
end
def Few (p : List (List Int)) : Prop := p.length ≤ 20 ∧ ∀ j, j < p.length → (p.getD j []).length ≤ 20
theorem Few.rows {p : List (List Int)} (h : Few p) : Rows p := fun i hi => by have := h.2 i hi; omega
set_option maxRecDepth 100000 in
theorem alive_ev : Ev (fun k => l5alive.f k) true :=
  Ev.of l5alive.mono (k := 100) (by decide +kernel)
theorem alive_dual : Ev (fun k => (l5alive.f k).bind fun t => some t) true := Ev.bind alive_ev (Ev.now true)
section
variable {n : Nat} {A : List (List Int)} {num den : Int}
theorem dual_last (hA : Arg n A) (ht : Top n (ent A) (Seen n (n + 1) 0) num den) (t : Nat) (m : Int) (hm : -500 ≤ m ∧ m ≤ 500) (w0 w1 e : Int)
    (h : (e = 2 ∧ ¬ BdM n n 1000 (shf n (ent A) t m)) ∨ (e = 0 ∧ w0 = num + m * den ∧ w1 = den)) :
    Ev (fun k => l5LineDuality.j9 k e (mat n (shf n (ent A) t m)) m false num den w0 w1) true := by
  have h6 := hA.six
  rcases h with ⟨rfl, hb⟩ | ⟨rfl, rfl, rfl⟩
  · obtain ⟨b, eb, hw⟩ := within_f (n := n) (A := mat n (shf n (ent A) t m)) jj (isMat_mat n _)
    have hbf : b = false := by
      cases b with
      | false => rfl
      | true => exact absurd (fun i j hi hj => by have := hw rfl i j hi hj; rwa [ent_mat _ hi hj] at this) hb
    subst hbf
    refine Ev.step (f := fun k => (l5within.f k (mat n (shf n (ent A) t m))).bind fun x => if x = true then (if (2 : Int) = 0 then (if w1 = den then (if w0 = (wrap64 (num + (wrap64 (m * den)))) then ((l5alive.f k).bind fun t => (some t)) else (some false)) else (some false)) else (some false)) else ((l5alive.f k).bind fun t => (some t))) (fun k => ?_) (Ev.bind eb (Ev.congr (fun k => if_neg (by decide)) alive_dual))
    simp only [l5LineDuality.j9]
    rw [if_neg (by decide), if_pos trivial]
  · have d0 := ht.den0
    have d6 := ht.den6
    have l1 := ht.lo
    have l2 := ht.hi
    have hmd : -3000 ≤ m * w1 ∧ m * w1 ≤ 3000 := by
      have a1 := Int.mul_le_mul_of_nonneg_right hm.1 (show (0 : Int) ≤ w1 by omega)
      have a2 := Int.mul_le_mul_of_nonneg_right hm.2 (show (0 : Int) ≤ w1 by omega)
      omega
    refine Ev.step (fun k => ?_) alive_dual
    simp only [l5LineDuality.j9]
    rw [if_neg (by decide), if_neg (by decide), if_pos trivial, if_pos trivial, wr (x := m * w1) jj jj, wr jj jj, if_pos rfl]
theorem shift_ix (n t i : Nat) (h1 : t ≤ 255) (h2 : i ≤ 1000) : Int.tmod (wrap64 ((i : Int) + wrap64 (t : Int))) (n : Int) = (((i + t) % n : Nat) : Int) := by
  rw [wr (x := (t : Int)) jj jj, wr jj jj]
  exact tmodN (i + t) n
theorem dual_l2 (hA : Arg n A) (ht : Top n (ent A) (Seen n (n + 1) 0) num den) (t : Nat) (ht255 : t ≤ 255) (m : Int) (hm : -500 ≤ m ∧ m ≤ 500) (z : Bool) (O P : List (List Int)) (i : Nat) (hi : i < n) (hO : O.length ≤ 6) (hP : P.length ≤ 6)
    (hr : Ev (fun k => l5LineDuality.l1 k A (t : Int) (vec n (pots n (ent A) num den)) (n : Int) z (O ++ [vec n (tra (ent A) i)]) (P ++ [vec n (shf n (ent A) t m i)]) m ((i + 1 : Nat) : Int) num den) true) : ∀ d j, j + d = n →
    Ev (fun k => l5LineDuality.l2 k A (t : Int) (vec n (pots n (ent A) num den)) (n : Int) z O P m (i : Int) (vec j (tra (ent A) i)) (vec j (shf n (ent A) t m i)) (j : Int) num den) true := by
  have h6 := hA.six
  have hl := hA.is.1
  have hlr : ∀ p, p < n → (A.getD p []).length = n := hA.is.2
  have vl : ∀ f : Nat → Int, (vec n f).length = n := fun f => vec_length n f
  intro d
  induction d with
  | zero =>
    intro j hj
    obtain rfl : j = n := by omega
    refine Ev.step (fun k => ?_) hr
    simp only [l5LineDuality.l2]
    rw [ji, jh, jh, wr1 i jj]
  | succ d ih =>
    intro j hj
    have hj' : j < n := by omega
    have hi2 : (i + t) % n < n := Nat.mod_lt _ jj
    have hj2 : (j + t) % n < n := Nat.mod_lt _ jj
    have ep : l5plus.f (rd (rd_L1 A ((((i + t) % n : Nat) : Int))) ((((j + t) % n : Nat) : Int))) m = some (shf n (ent A) t m i j) := by
      rw [rdL, rdI]
      exact plus_f (M := 1000) (N := 500) (hA.bd _ _ hi2 hj2) (.inr hm) jj jj jj
    have es : rd (rd_L1 A (j : Int)) (i : Int) = tra (ent A) i j := rfl
    have ea : rd (rd_L1 A (i : Int)) (j : Int) = ent A i j := rfl
    have l1 := vec_length j (tra (ent A) i)
    have l2 := vec_length j (shf n (ent A) t m i)
    have p1 := pots_nonneg (n := n) (num := num) (den := den) (a := ent A) i
    have hrA1 : (rd_L1 A (i : Int)).length = n := by rw [rdL]; exact hlr i hi
    have hrA2 : (rd_L1 A (j : Int)).length = n := by rw [rdL]; exact hlr j hj'
    have hrA3 : (rd_L1 A ((((i + t) % n : Nat) : Int))).length = n := by rw [rdL]; exact hlr _ hi2
    have c1 : (0 : Int) ≤ (((i + t) % n : Nat) : Int) := Int.natCast_nonneg _
    have c2 : (((i + t) % n : Nat) : Int) < (A.length : Int) := by rw [hl]; exact Int.ofNat_lt.2 hi2
    have c3 : (0 : Int) ≤ (((j + t) % n : Nat) : Int) := Int.natCast_nonneg _
    have c4 : (((j + t) % n : Nat) : Int) < ((rd_L1 A ((((i + t) % n : Nat) : Int))).length : Int) := by rw [hrA3]; exact Int.ofNat_lt.2 hj2
    clear hi2 hj2 hrA3
    have up : rd (vec n (pots n (ent A) num den)) (i : Int) = pots n (ent A) num den i := by rw [rdI]; exact vec_get _ hi
    have up2 : rd (vec n (pots n (ent A) num den)) (j : Int) = pots n (ent A) num den j := by rw [rdI]; exact vec_get _ hj'
    have h8 : Ev (fun k => l5LineDuality.j8 k A (t : Int) (vec n (pots n (ent A) num den)) (n : Int) z O P m (i : Int) (vec j (tra (ent A) i)) (vec j (shf n (ent A) t m i)) (j : Int) false num den) true := by
      refine Ev.step (fun k => ?_) (ih (j + 1) jj)
      simp only [l5LineDuality.j8]
      rw [if_neg (by decide), jh, jh, jh, jh, jh, ji, shift_ix n t i ht255 jj, shift_ix n t j ht255 jj, if_pos c1, if_pos c2, if_pos c3, if_pos c4, ep]
      simp only [Option.bind_some]
      rw [jh, es, vec_next, vec_next, wr1 j jj]
    have hd : decide (pots n (ent A) num den i < 0) = false := decide_eq_false jj
    refine Ev.step (fun k => ?_) h8
    simp only [l5LineDuality.l2]
    rw [jh, jh, jh, jh, jh, ea]
    by_cases hne : ent A i j = NEV
    · rw [if_pos (show ent A i j = -1152921504606846976 from hne), if_pos (by rw [vl]; omega), up, hd]
    · have st := pots_step hA ht i j hi hj' hne
      have b0 := (hA.bd i j hi hj').resolve_left hne
      have b1 := den_mul b0.1 b0.2 ht.den0 ht.den6
      have q1 := pots_nonneg (n := n) (num := num) (den := den) (a := ent A) j
      have q2 := pots_bd hA ht j hj'
      have t1 := ht.lo
      have t2 := ht.hi
      rw [if_neg (show ¬ ent A i j = -1152921504606846976 from hne), if_pos (by rw [vl]; omega), if_pos (by rw [vl]; omega), up, up2, wr (x := den * ent A i j) jj jj, wr (x := den * ent A i j - num) jj jj, wr (x := den * ent A i j - num + pots n (ent A) num den j) jj jj, ji, hd]
def zer (u : Nat → Int) (i : Nat) : Bool := (List.range i).any fun q => u q == 0
theorem zer_succ (u : Nat → Int) (i : Nat) : zer u (i + 1) = (zer u i || (u i == 0)) := by
  unfold zer
  rw [List.range_succ, List.any_append]
  simp
def tops (n : Nat) (f : Nat → Nat → Int) (i : Nat) : List (List Int) := (List.range i).map fun p => vec n (f p)
theorem tops_next (n : Nat) (f : Nat → Nat → Int) (i : Nat) : tops n f i ++ [vec n (f i)] = tops n f (i + 1) := by simp [tops, List.range_succ]
theorem tops_len (n : Nat) (f : Nat → Nat → Int) (i : Nat) : (tops n f i).length = i := by simp [tops]
theorem dual_l1 (hA : Arg n A) (ht : Top n (ent A) (Seen n (n + 1) 0) num den) (t : Nat) (ht255 : t ≤ 255) (m : Int) (hm : -500 ≤ m ∧ m ≤ 500) : ∀ d i, i + d = n →
    Ev (fun k => l5LineDuality.l1 k A (t : Int) (vec n (pots n (ent A) num den)) (n : Int) (zer (pots n (ent A) num den) i) (tops n (tra (ent A)) i) (tops n (shf n (ent A) t m) i) m (i : Int) num den) true := by
  have h6 := hA.six
  have h1 := hA.one
  intro d
  induction d with
  | zero =>
    intro i hi
    obtain rfl : i = n := by omega
    have hz : zer (pots i (ent A) num den) i = true := by
      obtain ⟨q, hq, e⟩ := pots_zero hA ht
      unfold zer
      rw [List.any_eq_true]
      exact ⟨q, List.mem_range.2 hq, beq_iff_eq.2 e⟩
    have htr : Top i (ent (mat i (tra (ent A)))) (Seen i (i + 1) 0) num den := (Top.tra h6 hA.bd ht).move fun k p hS => powf_congr (fun x y hx hy => ent_mat _ hx hy) k p p hS.2.1 hS.2.1
    have hAt : Arg i (mat i (tra (ent A))) := ⟨isMat_mat i _, h1, h6, fun x y hx hy => by rw [ent_mat _ hx hy]; exact hA.bd y x hy hx⟩
    have s1 := Speed_top hAt (rows_mat i jj _) htr
    obtain ⟨w0, w1, e, s2, hw⟩ : ∃ w0 w1 e, Ev (fun k => line_Speed.f k (mat i (shf i (ent A) t m))) (w0, w1, e) ∧ ((e = 2 ∧ ¬ BdM i i 1000 (shf i (ent A) t m)) ∨ (e = 0 ∧ w0 = num + m * den ∧ w1 = den)) := by
      by_cases hb : BdM i i 1000 (shf i (ent A) t m)
      · have hAs : Arg i (mat i (shf i (ent A) t m)) := ⟨isMat_mat i _, h1, h6, fun x y hx hy => by rw [ent_mat _ hx hy]; exact hb x y hx hy⟩
        have hts : Top i (ent (mat i (shf i (ent A) t m))) (Seen i (i + 1) 0) (num + m * den) den := (Top.shf h1 h6 hA.bd hm hb ht).move fun k p hS => powf_congr (fun x y hx hy => ent_mat _ hx hy) k p p hS.2.1 hS.2.1
        exact ⟨_, _, _, Speed_top hAs (rows_mat i jj _) hts, .inr ⟨rfl, rfl, rfl⟩⟩
      · have hno : ¬ ∃ q, Arg q (mat i (shf i (ent A) t m)) := fun ⟨q, hq⟩ => by
          have e1 := hq.is.1
          rw [mat_length] at e1
          subst e1
          exact hb fun x y hx hy => by have := hq.bd x y hx hy; rwa [ent_mat _ hx hy] at this
        refine ⟨0, 0, 2, ?_, .inl ⟨rfl, hb⟩⟩
        unfold line_Speed.f
        exact Ev.bind ((of_f _ (rows_mat i jj _)).resolve_left (fun h2 => hno h2.1)).2 (ev_some fun k => if_neg (by decide))
    refine Ev.step (f := fun k => (line_Speed.f k (mat i (tra (ent A)))).bind fun x => (line_Speed.f k (mat i (shf i (ent A) t m))).bind fun y => if x.2.2 = 0 then (l5LineDuality.j9 k y.2.2 (mat i (shf i (ent A) t m)) m (!(x.1 == num) || (!(x.2.1 == den))) num den y.1 y.2.1) else (l5LineDuality.j9 k y.2.2 (mat i (shf i (ent A) t m)) m true num den y.1 y.2.1)) (fun k => ?_) (Ev.bind s1 (Ev.bind s2 (Ev.congr (fun k => if_pos rfl) ?_)))
    · simp only [l5LineDuality.l1]
      rw [ji, hz]
      simp only [if_true]
      rfl
    · simp only [beq_self_eq_true, Bool.not_true, Bool.or_false]
      exact dual_last hA ht t m hm w0 w1 e hw
  | succ d ih =>
    intro i hi
    have hi' : i < n := by omega
    have vl : (vec n (pots n (ent A) num den)).length = n := vec_length n _
    have h := ih (i + 1) jj
    have tl1 := tops_len n (tra (ent A)) i
    have tl2 := tops_len n (shf n (ent A) t m) i
    have h2 := dual_l2 hA ht t ht255 m hm (zer (pots n (ent A) num den) (i + 1)) (tops n (tra (ent A)) i) (tops n (shf n (ent A) t m) i) i hi' jj jj (by rw [tops_next, tops_next]; exact h) n 0 jj
    have hj6 : Ev (fun k => l5LineDuality.j6 k A (t : Int) (vec n (pots n (ent A) num den)) (n : Int) (zer (pots n (ent A) num den) (i + 1)) (tops n (tra (ent A)) i) (tops n (shf n (ent A) t m) i) m (i : Int) num den) true := by
      refine Ev.step (fun k => ?_) h2
      simp only [l5LineDuality.j6]
      rfl
    refine Ev.step (fun k => ?_) hj6
    simp only [l5LineDuality.l1]
    rw [jh, zer_succ]
    cases hz : zer (pots n (ent A) num den) i with
    | true => rw [if_pos rfl, Bool.true_or]
    | false => rw [if_neg (by decide), jh, jh, rdI, vec_get _ hi', Bool.false_or]
theorem next_ix (i L : Nat) (h : i ≤ 1000) : Int.tmod (wrap64 ((i : Int) + 1)) (L : Int) = (((i + 1) % L : Nat) : Int) := by
  rw [wr1 i jj]
  exact tmodN (i + 1) L
theorem dual_l0 (hA : Arg n A) (ht : Top n (ent A) (Seen n (n + 1) 0) num den) (t : Nat) (ht255 : t ≤ 255) (by_ : Int) {z : List Nat} (hz : Wk n (ent A) (cyc z) z.length) (hz1 : 1 ≤ z.length) (hz6 : z.length ≤ 6) (hm : cw (ent A) z * den = num * (z.length : Nat)) : ∀ d i, i + d = z.length →
    Ev (fun k => l5LineDuality.l0 k A by_ (t : Int) (vec n (pots n (ent A) num den)) (up z) (n : Int) (wt (ent A) (cyc z) i) (i : Int) num den) true := by
  have h6 := hA.six
  have hl := hA.is.1
  have hlr : ∀ p, p < n → (A.getD p []).length = n := hA.is.2
  have ul := up_length z
  have d0 := ht.den0
  have d6 := ht.den6
  have bd : ∀ i, i ≤ z.length → -6000 ≤ wt (ent A) (cyc z) i ∧ wt (ent A) (cyc z) i ≤ 6000 := fun i hi => by
    have := wt_bd hA.bd (hz.left hi)
    omega
  intro d
  induction d with
  | zero =>
    intro i hi
    obtain rfl : i = z.length := by omega
    have b := bd z.length (Nat.le_refl _)
    have b1 : wt (ent A) (cyc z) z.length * den ≤ 6000 * den := Int.mul_le_mul_of_nonneg_right b.2 jj
    have b2 : -6000 * den ≤ wt (ent A) (cyc z) z.length * den := Int.mul_le_mul_of_nonneg_right b.1 jj
    have hm' : wt (ent A) (cyc z) z.length * den = num * (z.length : Nat) := hm
    have go : ∀ m : Int, -500 ≤ m ∧ m ≤ 500 → Ev (fun k => l5LineDuality.j4 k A (t : Int) (vec n (pots n (ent A) num den)) (n : Int) false [] [] m num den) true := fun m hm => by
      refine Ev.step (fun k => ?_) (dual_l1 hA ht t ht255 m hm n 0 jj)
      simp only [l5LineDuality.j4]
      rfl
    by_cases h1 : by_ ≥ -500
    · by_cases h2 : by_ ≤ 500
      · have h3 : Ev (fun k => l5LineDuality.j3 k A by_ (t : Int) (vec n (pots n (ent A) num den)) (n : Int) false [] [] 0 (decide (by_ ≤ 500)) num den) true := by
          refine Ev.step (fun k => ?_) (go by_ ⟨h1, h2⟩)
          simp only [l5LineDuality.j3]
          rw [if_pos (decide_eq_true h2)]
        refine Ev.step (fun k => ?_) h3
        simp only [l5LineDuality.l0]
        rw [ji, ul, wr (x := wt (ent A) (cyc z) z.length * den) jj jj, ← hm', wr (x := wt (ent A) (cyc z) z.length * den) jj jj, if_pos rfl, if_pos h1]
      · have h3 : Ev (fun k => l5LineDuality.j3 k A by_ (t : Int) (vec n (pots n (ent A) num den)) (n : Int) false [] [] 0 (decide (by_ ≤ 500)) num den) true := by
          refine Ev.step (fun k => ?_) (go 0 ⟨by omega, by omega⟩)
          simp only [l5LineDuality.j3]
          rw [if_neg (by simpa using h2)]
        refine Ev.step (fun k => ?_) h3
        simp only [l5LineDuality.l0]
        rw [ji, ul, wr (x := wt (ent A) (cyc z) z.length * den) jj jj, ← hm', wr (x := wt (ent A) (cyc z) z.length * den) jj jj, if_pos rfl, if_pos h1]
    · have h3 : Ev (fun k => l5LineDuality.j3 k A by_ (t : Int) (vec n (pots n (ent A) num den)) (n : Int) false [] [] 0 false num den) true := by
        refine Ev.step (fun k => ?_) (go 0 ⟨by omega, by omega⟩)
        simp only [l5LineDuality.j3]
        rw [if_neg (by decide)]
      refine Ev.step (fun k => ?_) h3
      simp only [l5LineDuality.l0]
      rw [ji, ul, wr (x := wt (ent A) (cyc z) z.length * den) jj jj, ← hm', wr (x := wt (ent A) (cyc z) z.length * den) jj jj, if_pos rfl, if_neg h1]
  | succ d ih =>
    intro i hi
    have hi' : i < z.length := by omega
    have b := bd (i + 1) jj
    have b' := bd i jj
    have x1 : cyc z i < n := hz.lt i jj
    have x2 : cyc z (i + 1) < n := hz.lt (i + 1) jj
    have harc := hz.arc i hi'
    have hmod : (i + 1) % z.length < z.length := Nat.mod_lt _ jj
    have r1 : rd (up z) (i : Int) = ((cyc z i : Nat) : Int) := by rw [rdI, up_get, cyc_lt hi']
    have r2 : rd (up z) ((((i + 1) % z.length : Nat) : Int)) = ((cyc z (i + 1) : Nat) : Int) := by rw [rdI, up_get]; rfl
    have c1 : (0 : Int) ≤ (((i + 1) % z.length : Nat) : Int) := Int.natCast_nonneg _
    have c2 : (((i + 1) % z.length : Nat) : Int) < (z.length : Int) := Int.ofNat_lt.2 hmod
    clear hmod
    have r3 : (rd_L1 A ((cyc z (i + 1) : Nat) : Int)).length = n := by rw [rdL]; exact hlr _ x2
    have r4 : rd (rd_L1 A ((cyc z (i + 1) : Nat) : Int)) ((cyc z i : Nat) : Int) = ent A (cyc z (i + 1)) (cyc z i) := rfl
    have ew : wt (ent A) (cyc z) i + ent A (cyc z (i + 1)) (cyc z i) = wt (ent A) (cyc z) (i + 1) := rfl
    refine Ev.step (fun k => ?_) (ih (i + 1) jj)
    simp only [l5LineDuality.l0]
    rw [ul, next_ix i z.length jj, jh, jh, ji, if_pos c1, if_pos c2, r1, r2, ji, ji, ji, ji, jh, jh, jh, r3, jh, r4, if_neg (show ¬ ent A (cyc z (i + 1)) (cyc z i) = -1152921504606846976 from harc), ew, wr jj jj, wr1 i jj]
theorem dual_ok (hA : Arg n A) (ra : Rows A) (ht : Top n (ent A) (Seen n (n + 1) 0) num den) (t : Nat) (ht255 : t ≤ 255) (by_ : Int) {z : List Nat} (hz : Wk n (ent A) (cyc z) z.length) (hz1 : 1 ≤ z.length) (hzn : z.length ≤ n) (hm : cw (ent A) z * den = num * (z.length : Nat)) :
    Ev (fun k => l5LineDuality.j0 k A by_ (t : Int) 0 (vec n (pots n (ent A) num den)) (up z) false num den) true := by
  have _ := ra
  have h6 := hA.six
  have hl := hA.is.1
  have ul := up_length z
  have vl : (vec n (pots n (ent A) num den)).length = n := vec_length n _
  have d0 := ht.den0
  have h0 := dual_l0 hA ht t ht255 by_ hz hz1 jj hm z.length 0 jj
  have h1 : Ev (fun k => l5LineDuality.j1 k A by_ (t : Int) (vec n (pots n (ent A) num den)) (up z) (A.length : Int) (decide (((up z).length : Int) > (A.length : Int))) num den) true := by
    refine Ev.step (fun k => ?_) h0
    simp only [l5LineDuality.j1]
    rw [if_neg (by rw [decide_eq_true_eq]; omega), hl]
    rfl
  refine Ev.step (fun k => ?_) h1
  simp only [l5LineDuality.j0]
  rw [if_neg (by decide), if_pos trivial, ji, jh, ji]
end
theorem dual_err (A : List (List Int)) (a1 a2 e : Int) (u c : List Int) (he : e = 10 ∨ e = 2) : Ev (fun k => l5LineDuality.j0 k A a1 a2 e u c false 0 0) true := by
  refine Ev.step (fun k => ?_) alive_dual
  simp only [l5LineDuality.j0]
  rcases he with rfl | rfl
  · rw [if_neg (by decide), if_neg (by decide), if_pos rfl, if_pos (by decide)]
  · rw [if_neg (by decide), if_neg (by decide), if_neg (by decide), if_pos rfl, if_pos (by decide)]
theorem LineDuality : ∀ (l0 : List (List Int)) (a1 : Int) (a2 : Int), l0.length ≤ 9223372036854775807 → (∀ r ∈ l0, r.length ≤ maxLen ∧ ∀ x ∈ r, (Lit.int .i64 x).wf = true) → (Lit.int .i64 a1).wf = true → (Lit.int .u8 a2).wf = true → ∃ k, l5LineDuality.f k l0 a1 a2 = some true := by
  intro A a1 a2 _ _ _ w2
  have b2 : 0 ≤ a2 ∧ a2 ≤ 255 := bounds_u8 w2
  obtain ⟨t, rfl⟩ := Int.eq_ofNat_of_zero_le b2.1
  have ht255 : t ≤ 255 := by omega
  apply Ev.rounds
  unfold l5LineDuality.f
  obtain ⟨fa, ea, hf⟩ := few_f A
  refine Ev.bind ea ?_
  cases fa with
  | false => exact Ev.congr (fun k => if_neg (by decide)) alive_dual
  | true =>
  have few : Few A := hf rfl
  have ra := few.rows
  refine Ev.congr (fun k => if_pos rfl) ?_
  obtain ⟨x, y, e, u, c, p1, p2, p3, pj⟩ : ∃ x y e u c, Ev (fun k => line_Speed.f k A) (x, y, e) ∧ Ev (fun k => line_Potential.f k A) (u, e) ∧ Ev (fun k => line_Cycle.f k A) (c, e) ∧
    Ev (fun k => l5LineDuality.j0 k A a1 (t : Int) e u c false x y) true := by
    by_cases hA : ∃ n, Arg n A
    · obtain ⟨n, hA⟩ := hA
      have h6 := hA.six
      have eo := ((of_f A ra).resolve_right (fun h => h.1 ⟨n, hA⟩)).2
      rcases looked_f hA ra with ⟨hno, el, x, y, ep⟩ | ⟨num, den, ht, ep, el⟩
      · refine ⟨0, 0, 10, [], [], ?_, ?_, ?_, dual_err A a1 _ 10 [] [] (.inl rfl)⟩
        · unfold line_Speed.f
          exact Ev.bind eo (Ev.congr (fun k => if_pos rfl) (Ev.bind ep (ev_some fun k => if_neg (by simp))))
        · unfold line_Potential.f
          exact Ev.bind el (ev_some fun k => if_neg (by decide))
        · unfold line_Cycle.f
          exact Ev.bind el (ev_some fun k => if_neg (by decide))
      · have hs := slack_bd hA.bd ht
        have hd := eig_bd h6 hA.bd ht
        obtain ⟨b, hb, hbm⟩ : ∃ b, Cy n (ent A) b ∧ cw (ent A) b * den = num * (b.length : Nat) := by
          rcases RSpeed_f hA with ⟨_, hno, _, _⟩ | ⟨b, num', den', hb, _, _, ht', hv, _⟩
          · obtain ⟨k, i, hS, hne, _⟩ := ht.att
            exact absurd (hno k i hS) hne
          · obtain ⟨e1, e2⟩ := Top.uniq ht ht'
            subst e1
            subst e2
            exact ⟨b, hb, hv⟩
        have hcb := cy_cc hA ht hb hbm
        have hb0 := hcb.pre.ne
        obtain ⟨z, hz, ez⟩ := Cycle_l0 h6 A (mat n (slackf num den (ent A))) (mat n (fwk (slackf num den (ent A)) n)) num den (mat_length n _)
          (fun i j hi hj => critical_f A num den hs hd jj jj jj i j hi hj) hcb (b.length - 1) 1 jj jj (fun z hz => hz.pre.ne)
        obtain ⟨hw, hzm⟩ := cc_walk hA ht hz.cc
        refine ⟨num, den, 0, _, up z, Speed_top hA ra ht, Potential_val hA ht el, ?_, dual_ok hA ra ht t ht255 a1 hw hz.cc.pre.ne hz.cc.pre.len hzm⟩
        unfold line_Cycle.f
        exact Ev.bind el (Ev.congr (fun k => if_pos rfl) ez)
    · have eo := ((of_f A ra).resolve_left (fun h2 => hA h2.1)).2
      have el : Ev (fun k => line_looked.f k A) ([], 0, 0, [], [], 2) := by
        unfold line_looked.f
        exact Ev.bind eo (ev_some fun k => if_neg (by decide))
      refine ⟨0, 0, 2, [], [], ?_, ?_, ?_, dual_err A a1 _ 2 [] [] (.inr rfl)⟩
      · unfold line_Speed.f
        exact Ev.bind eo (ev_some fun k => if_neg (by decide))
      · unfold line_Potential.f
        exact Ev.bind el (ev_some fun k => if_neg (by decide))
      · unfold line_Cycle.f
        exact Ev.bind el (ev_some fun k => if_neg (by decide))
  refine Ev.bind p1 (Ev.bind p2 (Ev.bind p3 (Ev.congr (fun k => if_pos rfl) ?_)))
  simp only [bne_self_eq_false]
  exact pj
end Go.Proofs.Ythjmfbmffchicaa.Pure
end
section
namespace Go.Proofs.YthjmfbmffchicaaW.PrintWords
open Go.RowKit Go.Deep
section
variable {H : Type} {enc : TypeId × Value → H} {P : Program} {W : World} {base : Nat} {held : Bool}
theorem reads_int_rows {t e q : TypeId} (ht : P.underlying t = some (.slice e)) (he : P.underlying e = some (.slice q)) (hq : P.underlying q = some (.int .i64))
    (ce : P.cellsOf e = 1) (cq : P.cellsOf q = 1) {a : Option Addr} {len cap : Nat} {d : DataW H} {ps : List MemPlace}
    (h : DataW.Trod enc P W base (fun _ => true) held t (.slice a len cap) d ps) :
    ∃ l : List (List Int), len = l.length ∧ Kd.C (Kd.slice q (Kd.int .i64)) W a l.length l ∧ l.length ≤ cap ∧ ∀ r ∈ l, r.length ≤ maxLen ∧ ∀ x ∈ r, (Lit.int .i64 x).wf = true := by
  obtain ⟨fuel, hf⟩ := h
  rcases open_int_rows ht he hq ce cq hf with ⟨hcs, _⟩ | ⟨b, n, c, A, L, C, Z, hcs, _, hl, hm, _, hr⟩
  · simp [Value.cells] at hcs
    obtain ⟨rfl, rfl, rfl⟩ := hcs
    exact ⟨[], rfl, ⟨rfl, Nat.zero_le _, fun hn => absurd hn (by simp)⟩, Nat.zero_le _, fun r hr => by cases hr⟩
  · simp [Value.cells] at hcs
    obtain ⟨rfl, rfl, rfl⟩ := hcs
    have hlen : ((List.range len).map fun r => (Z r).take (L r)).length = len := by simp
    refine ⟨(List.range len).map fun r => (Z r).take (L r), hlen.symm, ?_, by omega, ?_⟩
    · rw [hlen]
      refine ⟨hlen, by unfold maxLen at hm; omega, fun hn => ⟨b, rfl, fun j p hj => ?_⟩⟩
      have hj2 : j < len := by
        have := (List.getElem?_eq_some_iff.1 hj).1
        simpa using this
      obtain ⟨h1, h2, h3, h4, h5, h6, h7⟩ := hr j jj
      have hp : p = (Z j).take (L j) := by
        rw [List.getElem?_map, List.getElem?_range hj2] at hj
        simpa using hj.symm
      have hpl : p.length = L j := by rw [hp, List.length_take, h4]; omega
      refine ⟨[.slice (A j) (L j) (C j)], rfl, ⟨A j, C j, by rw [hpl], by omega, ?_⟩, fun i u hu => ?_⟩
      · refine ⟨rfl, by unfold maxLen at h3; omega, fun hn' => ?_⟩
        have hA : A j ≠ none := fun e => by have := h6 e; omega
        obtain ⟨a', ha'⟩ := Option.ne_none_iff_exists'.1 hA
        refine ⟨a', ha', fun i x hx => ⟨[.int .i64 x], rfl, rfl, fun i' u hu => ?_⟩⟩
        obtain ⟨hi, hx'⟩ := List.getElem?_eq_some_iff.1 hx
        cases i' with
        | zero =>
          simp at hu
          subst hu
          have hc := (h7 a' ha').2 i jj
          show W.cell? (a'.add (i * (Kd.int .i64).sz + 0)) = _
          rw [show i * (Kd.int .i64).sz + 0 = i from by show i * 1 + 0 = i; omega, hc]
          congr 2
          subst hp
          rw [List.getElem_take] at hx'
          rw [← hx', List.getD_eq_getElem?_getD, List.getElem?_eq_getElem jj]
          rfl
        | succ i' => simp at hu
      · cases i with
        | zero =>
          simp at hu
          subst hu
          show W.cell? (b.add (j * (Kd.slice q (Kd.int .i64)).sz + 0)) = _
          rw [show j * (Kd.slice q (Kd.int .i64)).sz + 0 = j from by show j * 1 + 0 = j; omega]
          exact h1
        | succ i => simp at hu
    · intro r hr'
      obtain ⟨j, hj, rfl⟩ := List.mem_map.1 hr'
      have hj2 : j < len := by simpa using hj
      obtain ⟨h1, h2, h3, h4, h5, h6, h7⟩ := hr j jj
      exact ⟨by rw [List.length_take, h4]; omega, fun x hx => h5 x (List.mem_of_mem_take hx)⟩
end
end Go.Proofs.YthjmfbmffchicaaW.PrintWords
end
