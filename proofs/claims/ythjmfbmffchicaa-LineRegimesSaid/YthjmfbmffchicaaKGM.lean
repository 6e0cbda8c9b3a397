/- What the functions that the law reaches compute, and the plain laws of it, down to the plain statement of the law. Bounds stand in each theorem. -/
import Derived.RowKit
import Derived.Test.YthjmfbmffchicaaKGf4
import Derived.Test.YthjmfbmffchicaaKGf0
import Derived.Test.YthjmfbmffchicaaKGf5
import Derived.Test.YthjmfbmffchicaaKGf1
import Derived.Test.YthjmfbmffchicaaKGf2
import Derived.Test.YthjmfbmffchicaaKGf3
import Derived.OpenShut
import Derived.Deep.Matrix
import Derived.ProofKit
import Derived.Test.YthjmfbmffchicaaKGW
section
namespace Go.Proofs.Ythjmfbmffchicaa.Mp
def NEV : Int := -1152921504606846976
def pl (a b : Int) : Int := if a = NEV then NEV else if b = NEV then NEV else a + b
def sup (h : Nat → Int) : Nat → Int
 | 0 => NEV
 | n + 1 => max (sup h n) (h n)
def Bd (M x : Int) : Prop := x = NEV ∨ (-M ≤ x ∧ x ≤ M)
def mulf (n : Nat) (a b : Nat → Nat → Int) (i j : Nat) : Int := sup (fun k => pl (a i k) (b k j)) n
def onef (i j : Nat) : Int := if i = j then 0 else NEV
def powf (n : Nat) (a : Nat → Nat → Int) : Nat → Nat → Nat → Int
 | 0 => onef
 | k + 1 => mulf n (powf n a k) a
theorem Bd.mono {M N x : Int} (h : Bd M x) (hMN : M ≤ N) : Bd N x := by
 rcases h with h | h
 ·
  exact .inl h
 ·
  exact .inr jj
theorem Bd.ge {M x : Int} (h : Bd M x) (hM : M < 1152921504606846976) : NEV ≤ x := by
 unfold Bd NEV at *; omega
theorem sup_nev (h : Nat → Int) (n : Nat) : NEV ≤ sup h n := by
 induction n with
 | zero => exact Int.le_refl _
 | succ n ih => simp only [sup]; omega
theorem sup_le {h : Nat → Int} {n : Nat} {v : Int} (h0 : NEV ≤ v) (hk : ∀ k, k < n → h k ≤ v) : sup h n ≤ v := by
 induction n with
 | zero => exact h0
 | succ n ih =>
  have h1 := ih (fun k hk' => hk k jj)
  have h2 := hk n jj
  simp only [sup]; omega
theorem le_sup {h : Nat → Int} {n k : Nat} (hk : k < n) : h k ≤ sup h n := by
 induction n with
 | zero => omega
 | succ n ih =>
  simp only [sup]
  by_cases e : k = n
  ·
   subst e; omega
  ·
   have := ih jj; omega
theorem sup_mem (h : Nat → Int) (n : Nat) : sup h n = NEV ∨ ∃ k, k < n ∧ sup h n = h k := by
 induction n with
 | zero => exact .inl rfl
 | succ n ih =>
  simp only [sup]
  by_cases e : h n ≤ sup h n
  ·
   rw [Int.max_eq_left e]
   rcases ih with ih | ⟨k, hk, ih⟩
   ·
    exact .inl ih
   ·
    exact .inr ⟨k, by omega, ih⟩
  ·
   rw [Int.max_eq_right jj]
   exact .inr ⟨n, by omega, rfl⟩
theorem sup_congr {h g : Nat → Int} {n : Nat} (e : ∀ k, k < n → h k = g k) : sup h n = sup g n := by
 induction n with
 | zero => rfl
 | succ n ih => simp only [sup]; rw [ih (fun k hk => e k jj), e n jj]
theorem sup_comm (h : Nat → Nat → Int) (n m : Nat) : sup (fun k => sup (fun l => h k l) m) n = sup (fun l => sup (fun k => h k l) n) m := by
 apply Int.le_antisymm
 ·
  refine sup_le (sup_nev _ _) (fun k hk => sup_le (sup_nev _ _) (fun l hl => ?_))
  exact Int.le_trans (le_sup (h := fun k => h k l) hk) (le_sup (h := fun l => sup (fun k => h k l) n) hl)
 ·
  refine sup_le (sup_nev _ _) (fun l hl => sup_le (sup_nev _ _) (fun k hk => ?_))
  exact Int.le_trans (le_sup (h := fun l => h k l) hl) (le_sup (h := fun k => sup (fun l => h k l) m) hk)
theorem Bd.pl {M N a b : Int} (ha : Bd M a) (hb : Bd N b) : Bd (M + N) (pl a b) := by
 unfold Bd Mp.pl at *
 split
 ·
  exact .inl rfl
 ·
  split
  ·
   exact .inl rfl
  ·
   exact .inr jj
theorem Bd.sup {M : Int} {h : Nat → Int} {n : Nat} (hh : ∀ k, k < n → Bd M (h k)) : Bd M (sup h n) := by
 rcases sup_mem h n with e | ⟨k, hk, e⟩
 ·
  exact .inl e
 ·
  rw [e]; exact hh k hk
theorem pl_assoc {M N K a b c : Int} (ha : Bd M a) (hb : Bd N b) (hc : Bd K c) (hs : M + N + K < 1152921504606846976) (hM : 0 ≤ M) (hN : 0 ≤ N) (hK : 0 ≤ K) :
  pl (pl a b) c = pl a (pl b c) := by
 unfold Bd pl NEV at *
 repeat' split <;> omega
theorem pl_max_left {M N x y c : Int} (hx : Bd M x) (hy : Bd M y) (hc : Bd N c) (hs : M + N < 1152921504606846976) (hM : 0 ≤ M) (hN : 0 ≤ N) :
  pl (max x y) c = max (pl x c) (pl y c) := by
 unfold Bd pl NEV at *
 repeat' split <;> omega
theorem pl_max_right {M N x y c : Int} (hx : Bd M x) (hy : Bd M y) (hc : Bd N c) (hs : M + N < 1152921504606846976) (hM : 0 ≤ M) (hN : 0 ≤ N) :
  pl c (max x y) = max (pl c x) (pl c y) := by
 unfold Bd pl NEV at *
 repeat' split <;> omega
theorem pl_nev_left (c : Int) : pl NEV c = NEV := by simp [pl]
theorem pl_nev_right (c : Int) : pl c NEV = NEV := by simp [pl]
theorem pl_sup_left {M N c : Int} {h : Nat → Int} {n : Nat} (hh : ∀ k, k < n → Bd M (h k)) (hc : Bd N c) (hs : M + N < 1152921504606846976) (hM : 0 ≤ M) (hN : 0 ≤ N) :
  pl (sup h n) c = sup (fun k => pl (h k) c) n := by
 induction n with
 | zero => exact pl_nev_left c
 | succ n ih =>
  simp only [sup]
  rw [pl_max_left (Bd.sup (fun k hk => hh k jj)) (hh n jj) hc hs hM hN, ih (fun k hk => hh k jj)]
theorem pl_sup_right {M N c : Int} {h : Nat → Int} {n : Nat} (hh : ∀ k, k < n → Bd M (h k)) (hc : Bd N c) (hs : M + N < 1152921504606846976) (hM : 0 ≤ M) (hN : 0 ≤ N) :
  pl c (sup h n) = sup (fun k => pl c (h k)) n := by
 induction n with
 | zero => exact pl_nev_right c
 | succ n ih =>
  simp only [sup]
  rw [pl_max_right (Bd.sup (fun k hk => hh k jj)) (hh n jj) hc hs hM hN, ih (fun k hk => hh k jj)]
def BdM (n m : Nat) (M : Int) (a : Nat → Nat → Int) : Prop := ∀ i j, i < n → j < m → Bd M (a i j)
theorem BdM.mul {n m : Nat} {M N : Int} {a b : Nat → Nat → Int} (ha : BdM n n M a) (hb : BdM n m N b) : BdM n m (M + N) (mulf n a b) :=
 fun i j hi hj => Bd.sup fun k hk => (ha i k hi hk).pl (hb k j hk hj)
theorem mul_assoc {n m : Nat} {M N K : Int} {a b c : Nat → Nat → Int} (ha : BdM n n M a) (hb : BdM n n N b) (hc : BdM n m K c) (hs : M + N + K < 1152921504606846976) (hM : 0 ≤ M) (hN : 0 ≤ N) (hK : 0 ≤ K)
  {i j : Nat} (hi : i < n) (hj : j < m) : mulf n (mulf n a b) c i j = mulf n a (mulf n b c) i j := by
 have h1 : mulf n (mulf n a b) c i j = sup (fun k => sup (fun l => pl (pl (a i l) (b l k)) (c k j)) n) n :=
  sup_congr fun k hk => pl_sup_left (fun l hl => (ha i l hi hl).pl (hb l k hl hk)) (hc k j hk hj) hs jj hK
 have h2 : mulf n a (mulf n b c) i j = sup (fun l => sup (fun k => pl (a i l) (pl (b l k) (c k j))) n) n :=
  sup_congr fun l hl => pl_sup_right (fun k hk => (hb l k hl hk).pl (hc k j hk hj)) (ha i l hi hl) jj jj hM
 rw [h1, h2, sup_comm]
 exact sup_congr fun l hl => sup_congr fun k hk => pl_assoc (ha i l hi hl) (hb l k hl hk) (hc k j hk hj) hs hM hN hK
theorem mul_congr {n : Nat} {a a' b b' : Nat → Nat → Int} {i j : Nat} (ha : ∀ k, k < n → a i k = a' i k) (hb : ∀ k, k < n → b k j = b' k j) : mulf n a b i j = mulf n a' b' i j :=
 sup_congr fun k hk => by rw [ha k hk, hb k hk]
theorem one_mul {n m : Nat} {M : Int} {a : Nat → Nat → Int} (ha : BdM n m M a) (hM : M < 1152921504606846976) {i j : Nat} (hi : i < n) (hj : j < m) : mulf n onef a i j = a i j := by
 apply Int.le_antisymm
 ·
  refine sup_le ((ha i j hi hj).ge hM) (fun k hk => ?_)
  show pl (onef i k) (a k j) ≤ a i j
  unfold onef
  by_cases e : i = k
  ·
   subst e
   rw [if_pos rfl]
   unfold pl
   split
   ·
    rename_i h; exact absurd h (by decide)
   ·
    split
    ·
     rename_i h; omega
    ·
     omega
  ·
   rw [if_neg e, pl_nev_left]; exact (ha i j hi hj).ge hM
 ·
  have h := le_sup (h := fun k => pl (onef i k) (a k j)) hi
  have e : pl (onef i i) (a i j) = a i j := by
   unfold onef pl
   rw [if_pos rfl, if_neg (by decide)]
   split
   ·
    rename_i h; exact h.symm
   ·
    omega
  show a i j ≤ sup (fun k => pl (onef i k) (a k j)) n
  simp only [e] at h
  exact h
theorem mul_one {n m : Nat} {M : Int} {a : Nat → Nat → Int} (ha : BdM m n M a) (hM : M < 1152921504606846976) {i j : Nat} (hi : i < m) (hj : j < n) : mulf n a onef i j = a i j := by
 apply Int.le_antisymm
 ·
  refine sup_le ((ha i j hi hj).ge hM) (fun k hk => ?_)
  show pl (a i k) (onef k j) ≤ a i j
  unfold onef
  by_cases e : k = j
  ·
   subst e
   rw [if_pos rfl]
   unfold pl
   split
   ·
    rename_i h; omega
   ·
    split
    ·
     rename_i h; exact absurd h (by decide)
    ·
     omega
  ·
   rw [if_neg e, pl_nev_right]; exact (ha i j hi hj).ge hM
 ·
  have h := le_sup (h := fun k => pl (a i k) (onef k j)) hj
  have e : pl (a i j) (onef j j) = a i j := by
   unfold onef pl
   rw [if_pos rfl]
   split
   ·
    rename_i h; exact h.symm
   ·
    rw [if_neg (by decide)]; omega
  show a i j ≤ sup (fun k => pl (a i k) (onef k j)) n
  simp only [e] at h
  exact h
theorem BdM.one (n : Nat) : BdM n n 0 onef := fun i j _ _ => by
 unfold onef
 split
 ·
  exact .inr jj
 ·
  exact .inl rfl
theorem BdM.pow {n : Nat} {M : Int} {a : Nat → Nat → Int} (ha : BdM n n M a) (k : Nat) : BdM n n (M * k) (powf n a k) := by
 induction k with
 | zero => exact fun i j hi hj => (BdM.one n i j hi hj).mono (by simp)
 | succ k ih =>
  refine fun i j hi hj => (BdM.mul ih ha i j hi hj).mono ?_
  rw [Int.natCast_succ, Int.mul_add]
  omega
theorem pow_add {n : Nat} {M : Int} {a : Nat → Nat → Int} (ha : BdM n n M a) (hM : 0 ≤ M) (j : Nat) : ∀ k : Nat, M * (j + k : Nat) < 1152921504606846976 → ∀ {x y : Nat}, x < n → y < n → powf n a (j + k) x y = mulf n (powf n a j) (powf n a k) x y
 | 0, hs, x, y, hx, hy => by
  refine (mul_one (BdM.pow ha j) ?_ hx hy).symm
  simpa using hs
 | k + 1, hs, x, y, hx, hy => by
  have hs' : M * (j : Nat) + M * (k : Nat) + M < 1152921504606846976 := by
   have : M * ((j + (k + 1) : Nat) : Int) = M * (j : Nat) + M * (k : Nat) + M := by
    rw [show ((j + (k + 1) : Nat) : Int) = (j : Int) + (k : Int) + 1 by omega, Int.mul_add, Int.mul_add]; omega
   omega
  have hs2 : M * ((j + k : Nat) : Int) < 1152921504606846976 := by
   have : M * ((j + k : Nat) : Int) = M * (j : Nat) + M * (k : Nat) := by
    rw [show ((j + k : Nat) : Int) = (j : Int) + (k : Int) by omega, Int.mul_add]
   omega
  have e1 : powf n a (j + (k + 1)) x y = mulf n (mulf n (powf n a j) (powf n a k)) a x y :=
   mul_congr (fun z hz => pow_add ha hM j k hs2 hx hz) (fun _ _ => rfl)
  rw [e1]
  exact mul_assoc (BdM.pow ha j) (BdM.pow ha k) ha hs' (Int.mul_nonneg hM jj) (Int.mul_nonneg hM jj) hM hx hy
def ent (A : List (List Int)) (i j : Nat) : Int := (A.getD i []).getD j 0
def mat (n : Nat) (f : Nat → Nat → Int) : List (List Int) := (List.range n).map fun i => (List.range n).map fun j => f i j
def vec (n : Nat) (f : Nat → Int) : List Int := (List.range n).map f
def IsMat (n : Nat) (A : List (List Int)) : Prop := A.length = n ∧ ∀ i, i < n → (A.getD i []).length = n
theorem yB (n : Nat) (f : Nat → Int) : (vec n f).length = n := by simp [vec]
theorem vec_get {n : Nat} (f : Nat → Int) {i : Nat} (hi : i < n) : (vec n f).getD i 0 = f i := by
 simp [vec, List.getD_eq_getElem?_getD, List.getElem?_range hi]
theorem yE (n : Nat) (f : Nat → Nat → Int) : (mat n f).length = n := by simp [mat]
theorem mat_get {n : Nat} (f : Nat → Nat → Int) {i : Nat} (hi : i < n) : (mat n f).getD i [] = vec n (f i) := by
 simp [mat, vec, List.getD_eq_getElem?_getD, List.getElem?_range hi]
theorem isMat_mat (n : Nat) (f : Nat → Nat → Int) : IsMat n (mat n f) := ⟨yE n f, fun i hi => by rw [mat_get f hi, yB]⟩
theorem ent_mat {n : Nat} (f : Nat → Nat → Int) {i j : Nat} (hi : i < n) (hj : j < n) : ent (mat n f) i j = f i j := by
 unfold ent
 rw [mat_get f hi, vec_get _ hj]
theorem vec_ext {n : Nat} {x : List Int} (hx : x.length = n) : vec n (fun i => x.getD i 0) = x := by
 apply List.ext_getElem
 ·
  rw [yB, hx]
 ·
  intro i h1 h2
  simp [vec, List.getD_eq_getElem?_getD, List.getElem?_eq_getElem h2]
theorem mat_ext {n : Nat} {A : List (List Int)} (hA : IsMat n A) : mat n (ent A) = A := by
 apply List.ext_getElem
 ·
  rw [yE, hA.1]
 ·
  intro i h1 h2
  have hi : i < n := by rw [yE] at h1; exact h1
  have e : (A.getD i []) = A[i] := by simp [List.getD_eq_getElem?_getD, List.getElem?_eq_getElem h2]
  have := vec_ext (hA.2 i hi)
  rw [← e, ← this]
  simp [mat, vec, ent]
theorem vec_congr {n : Nat} {f g : Nat → Int} (h : ∀ i, i < n → f i = g i) : vec n f = vec n g := by
 unfold vec
 exact List.map_congr_left fun i hi => h i (by simpa using hi)
theorem mat_congr {n : Nat} {f g : Nat → Nat → Int} (h : ∀ i j, i < n → j < n → f i j = g i j) : mat n f = mat n g := by
 unfold mat
 exact List.map_congr_left fun i hi => List.map_congr_left fun j hj => h i j (by simpa using hi) (by simpa using hj)
structure Wk (n : Nat) (a : Nat → Nat → Int) (v : Nat → Nat) (L : Nat) : Prop where
 lt : ∀ t, t ≤ L → v t < n
 arc : ∀ t, t < L → a (v (t + 1)) (v t) ≠ NEV
def wt (a : Nat → Nat → Int) (v : Nat → Nat) : Nat → Int
 | 0 => 0
 | L + 1 => wt a v L + a (v (L + 1)) (v L)
theorem wt_congr {a : Nat → Nat → Int} {u v : Nat → Nat} {L : Nat} (h : ∀ t, t ≤ L → u t = v t) : wt a u L = wt a v L := by
 induction L with
 | zero => rfl
 | succ L ih => simp only [wt]; rw [ih (fun t ht => h t jj), h (L + 1) jj, h L jj]
theorem wt_add (a : Nat → Nat → Int) (v : Nat → Nat) (p r : Nat) : wt a v (p + r) = wt a v p + wt a (fun t => v (t + p)) r := by
 induction r with
 | zero => simp [wt]
 | succ r ih =>
  show wt a v (p + r) + a (v (p + r + 1)) (v (p + r)) = wt a v p + (wt a (fun t => v (t + p)) r + a (v (r + 1 + p)) (v (r + p)))
  rw [ih, show p + r + 1 = r + 1 + p by omega, show p + r = r + p by omega]; omega
theorem Wk.shift {n : Nat} {a : Nat → Nat → Int} {v : Nat → Nat} {p r : Nat} (h : Wk n a v (p + r)) : Wk n a (fun t => v (t + p)) r :=
 ⟨fun t ht => h.lt (t + p) jj, fun t ht => by have := h.arc (t + p) jj; rw [show t + 1 + p = t + p + 1 by omega]; exact this⟩
theorem Wk.left {n : Nat} {a : Nat → Nat → Int} {v : Nat → Nat} {p L : Nat} (h : Wk n a v L) (hp : p ≤ L) : Wk n a v p :=
 ⟨fun t ht => h.lt t jj, fun t ht => h.arc t jj⟩
theorem wt_bd {n : Nat} {M : Int} {a : Nat → Nat → Int} {v : Nat → Nat} (ha : BdM n n M a) {L : Nat} (h : Wk n a v L) : -(M * (L : Nat)) ≤ wt a v L ∧ wt a v L ≤ M * (L : Nat) := by
 induction L with
 | zero => simp [wt]
 | succ L ih =>
  have h1 := ih (h.left jj)
  have h2 := (ha _ _ (h.lt (L + 1) jj) (h.lt L jj)).resolve_left (h.arc L jj)
  simp only [wt]
  rw [Int.natCast_succ, Int.mul_add]
  omega
theorem pow_ge {n : Nat} {M : Int} {a : Nat → Nat → Int} (ha : BdM n n M a) (hM : 0 ≤ M) : ∀ (L : Nat) (v : Nat → Nat), M * (L : Nat) < 1152921504606846976 → Wk n a v L → wt a v L ≤ powf n a L (v L) (v 0)
 | 0, v, _, h => by simp [wt, powf, onef]
 | L + 1, v, hs, h => by
  have hs' : M * (L : Nat) + M < 1152921504606846976 := by rw [Int.natCast_succ, Int.mul_add] at hs; omega
  have hu : Wk n a (fun t => v (t + 1)) L := Wk.shift (p := 1) (r := L) (by rw [Nat.add_comm]; exact h)
  have e : wt a v (L + 1) = a (v 1) (v 0) + wt a (fun t => v (t + 1)) L := by
   rw [Nat.add_comm L 1, wt_add]; simp [wt]
  have ih := pow_ge ha hM L _ jj hu
  have hb := BdM.pow ha L (v (L + 1)) (v 1) (h.lt _ jj) (h.lt _ jj)
  have hw := wt_bd ha hu
  have h0 := (ha (v 1) (v 0) (h.lt 1 jj) (h.lt 0 jj)).resolve_left (h.arc 0 jj)
  have harc := h.arc 0 jj
  have hL : 0 ≤ M * (L : Nat) := Int.mul_nonneg hM jj
  have hle := le_sup (h := fun k => pl (powf n a L (v (L + 1)) k) (a k (v 0))) (h.lt 1 jj)
  have hn : powf n a L (v (L + 1)) (v 1) ≠ NEV := by
   intro e2
   have : wt a (fun t => v (t + 1)) L ≤ NEV := by rw [← e2]; exact ih
   unfold NEV at this
   omega
  show wt a v (L + 1) ≤ sup (fun k => pl (powf n a L (v (L + 1)) k) (a k (v 0))) n
  refine Int.le_trans ?_ hle
  show wt a v (L + 1) ≤ pl (powf n a L (v (L + 1)) (v 1)) (a (v 1) (v 0))
  unfold pl
  rw [if_neg hn, if_neg harc, e]
  have ih' : wt a (fun t => v (t + 1)) L ≤ powf n a L (v (L + 1)) (v 1) := ih
  omega
theorem pow_att {n : Nat} {a : Nat → Nat → Int} : ∀ (L : Nat) (i j : Nat), i < n → j < n → powf n a L i j ≠ NEV → ∃ v, Wk n a v L ∧ v 0 = j ∧ v L = i ∧ wt a v L = powf n a L i j
 | 0, i, j, hi, hj, h => by
  have e : i = j := by
   by_cases e : i = j
   ·
    exact e
   ·
    exact absurd (by simp [powf, onef, e]) h
  subst e
  exact ⟨fun _ => i, ⟨fun _ _ => hi, fun t ht => by omega⟩, rfl, rfl, by simp [wt, powf, onef]⟩
 | L + 1, i, j, hi, hj, h => by
  rcases sup_mem (fun k => pl (powf n a L i k) (a k j)) n with e | ⟨k, hk, e⟩
  ·
   exact absurd e h
  ·
   have hp : powf n a (L + 1) i j = pl (powf n a L i k) (a k j) := e
   have h1 : powf n a L i k ≠ NEV := fun e1 => h (by rw [hp, e1, pl_nev_left])
   have h2 : a k j ≠ NEV := fun e1 => h (by rw [hp, e1, pl_nev_right])
   obtain ⟨u, hu, u0, uL, uw⟩ := pow_att L i k hi hk h1
   refine ⟨fun t => if t = 0 then j else u (t - 1), ⟨fun t ht => ?_, fun t ht => ?_⟩, by simp, by simp [uL], ?_⟩
   ·
    by_cases e0 : t = 0
    ·
     simp [e0, hj]
    ·
     simp only [e0, if_false]; exact hu.lt (t - 1) jj
   ·
    by_cases e0 : t = 0
    ·
     subst e0; simp [u0, h2]
    ·
     have := hu.arc (t - 1) jj
     simp only [e0, if_false]
     rw [ji, show t + 1 - 1 = t - 1 + 1 by omega]; exact this
   ·
    rw [Nat.add_comm L 1, wt_add, Nat.add_comm 1 L, hp]
    have e1 : wt a (fun t => (fun t => if t = 0 then j else u (t - 1)) (t + 1)) L = wt a u L := wt_congr fun t _ => by simp
    rw [e1, uw]
    unfold pl
    rw [if_neg h1, if_neg h2]
    simp [wt, u0]; omega
theorem php : ∀ (n : Nat) (f : Nat → Nat), (∀ t, t ≤ n → f t < n) → ∃ p q, p < q ∧ q ≤ n ∧ f p = f q
 | 0, f, h => absurd (h 0 jj) jj
 | n + 1, f, h => by
  by_cases he : ∃ t, t ≤ n ∧ f t = f (n + 1)
  ·
   obtain ⟨t, ht, e⟩ := he
   exact ⟨t, n + 1, by omega, by omega, e⟩
  ·
   have hne : ∀ t, t ≤ n → f t ≠ f (n + 1) := fun t ht e => he ⟨t, ht, e⟩
   obtain ⟨p, q, hpq, hq, e⟩ := php n (fun t => if f t = n then f (n + 1) else f t) (fun t ht => by
    have h1 := h t jj; have h2 := h (n + 1) jj; have h3 := hne t ht
    show (if f t = n then f (n + 1) else f t) < n
    split <;> omega)
   refine ⟨p, q, hpq, by omega, ?_⟩
   have h3 := hne p jj; have h4 := hne q hq
   replace e : (if f p = n then f (n + 1) else f p) = (if f q = n then f (n + 1) else f q) := e
   by_cases e1 : f p = n
   ·
    by_cases e2 : f q = n
    ·
     omega
    ·
     rw [if_pos e1, if_neg e2] at e; exact absurd e.symm h4
   ·
    by_cases e2 : f q = n
    ·
     rw [if_neg e1, if_pos e2] at e; exact absurd e h3
    ·
     rw [if_neg e1, if_neg e2] at e; exact e
def cutw (v : Nat → Nat) (p d : Nat) (t : Nat) : Nat := if t ≤ p then v t else v (t + d)
theorem cutw_wk {n : Nat} {a : Nat → Nat → Int} {v : Nat → Nat} {p d r : Nat} (h : Wk n a v (p + d + r)) (e : v p = v (p + d)) : Wk n a (cutw v p d) (p + r) := by
 refine ⟨fun t ht => ?_, fun t ht => ?_⟩
 ·
  unfold cutw; split
  ·
   exact h.lt t jj
  ·
   exact h.lt (t + d) jj
 ·
  unfold cutw
  by_cases h1 : t + 1 ≤ p
  ·
   rw [if_pos h1, jh]; exact h.arc t jj
  ·
   rw [if_neg h1]
   by_cases h2 : t ≤ p
   ·
    obtain rfl : t = p := by omega
    rw [if_pos h2, e, show t + 1 + d = t + d + 1 by omega]; exact h.arc (t + d) jj
   ·
    rw [if_neg h2, show t + 1 + d = t + d + 1 by omega]; exact h.arc (t + d) jj
theorem cutw_wt {a : Nat → Nat → Int} {v : Nat → Nat} {p d r : Nat} (e : v p = v (p + d)) : wt a v (p + d + r) = wt a (cutw v p d) (p + r) + wt a (fun t => v (t + p)) d := by
 have e1 : wt a (cutw v p d) p = wt a v p := wt_congr fun t ht => if_pos ht
 have e2 : wt a (fun t => cutw v p d (t + p)) r = wt a (fun t => v (t + (p + d))) r := wt_congr fun t _ => by
  unfold cutw
  by_cases h : t = 0
  ·
   subst h; rw [jh, Nat.zero_add, Nat.zero_add]; exact e
  ·
   rw [ji, Nat.add_assoc]
 rw [wt_add a v (p + d) r, wt_add a v p d, wt_add a (cutw v p d) p r, e1, e2]; omega
theorem cutw_zero (v : Nat → Nat) (p d : Nat) : cutw v p d 0 = v 0 := jh
theorem cutw_end {v : Nat → Nat} {p d r : Nat} (e : v p = v (p + d)) : cutw v p d (p + r) = v (p + d + r) := by
 unfold cutw
 by_cases h : r = 0
 ·
  subst h; rw [jh]; simpa using e
 ·
  rw [ji]; congr 1; omega
def NoPos (n : Nat) (a : Nat → Nat → Int) : Prop := ∀ k i, 1 ≤ k → k ≤ n → i < n → powf n a k i i ≤ 0
theorem closed_le {n : Nat} {M : Int} {a : Nat → Nat → Int} (ha : BdM n n M a) (hM : 0 ≤ M) (hs : M * (n : Nat) < 1152921504606846976) (hp : NoPos n a) : ∀ (L : Nat) (v : Nat → Nat), Wk n a v L → v 0 = v L → wt a v L ≤ 0 := by
 intro L
 induction L using Nat.strongRecOn with
 | ind L ih =>
  intro v h e
  by_cases h0 : L = 0
  ·
   subst h0; simp [wt]
  ·
   by_cases hn : L ≤ n
   ·
    have h1 := pow_ge ha hM L v (Int.lt_of_le_of_lt (Int.mul_le_mul_of_nonneg_left jj hM) hs) h
    rw [e] at h1
    exact Int.le_trans h1 (hp L (v L) jj hn (h.lt L jj))
   ·
    obtain ⟨p, q, hpq, hq, epq⟩ := php n v (fun t ht => h.lt t jj)
    obtain ⟨d, rfl⟩ : ∃ d, q = p + d := ⟨q - p, by omega⟩
    obtain ⟨r, rfl⟩ : ∃ r, L = p + d + r := ⟨L - (p + d), by omega⟩
    have h1 := ih (p + r) jj (cutw v p d) (cutw_wk h epq) (by rw [cutw_zero, cutw_end epq]; exact e)
    have hm : Wk n a (fun t => v (t + p)) d := Wk.shift (h.left jj)
    have h2 := ih d jj (fun t => v (t + p)) hm (by show v (0 + p) = v (d + p); rw [Nat.zero_add, Nat.add_comm d p]; exact epq)
    rw [cutw_wt epq]
    omega
theorem pl_mono {M M' N N' x x' y y' : Int} (hx : Bd M x) (hx' : Bd M' x') (hy : Bd N y) (hy' : Bd N' y') (hs : M + M' + N + N' < 1152921504606846976 ∧ 0 ≤ M ∧ 0 ≤ M' ∧ 0 ≤ N ∧ 0 ≤ N') (h1 : x ≤ x') (h2 : y ≤ y') : pl x y ≤ pl x' y' := by
 have hg := (hx'.pl hy').ge jj
 revert hg
 unfold Bd at *
 unfold pl
 by_cases e1 : x = NEV
 ·
  rw [if_pos e1]; exact fun h => h
 ·
  by_cases e2 : y = NEV
  ·
   rw [if_neg e1, if_pos e2]; exact fun h => h
  ·
   unfold NEV at *
   rw [if_neg e1, if_neg e2, ji, ji]
   omega
def fw0 (a : Nat → Nat → Int) (i j : Nat) : Int := max (onef i j) (a i j)
def fwk (a : Nat → Nat → Int) : Nat → Nat → Nat → Int
 | 0 => fw0 a
 | k + 1 => fun i j => max (fwk a k i j) (pl (fwk a k i k) (fwk a k k j))
def Att (n : Nat) (a : Nat → Nat → Int) (i j : Nat) (x : Int) : Prop := x = NEV ∨ ∃ L v, Wk n a v L ∧ v 0 = j ∧ v L = i ∧ wt a v L = x
theorem Att.pl {n : Nat} {a : Nat → Nat → Int} {i k j : Nat} {x y : Int} (hx : Att n a i k x) (hy : Att n a k j y) : Att n a i j (pl x y) := by
 rcases hx with rfl | ⟨L, v, hv, v0, vL, vw⟩
 ·
  exact .inl (pl_nev_left _)
 rcases hy with rfl | ⟨K, u, hu, u0, uK, uw⟩
 ·
  exact .inl (pl_nev_right _)
 by_cases hx : x = NEV
 ·
  exact .inl (by rw [hx, pl_nev_left])
 by_cases hy : y = NEV
 ·
  exact .inl (by rw [hy, pl_nev_right])
 refine .inr ⟨K + L, fun t => if t ≤ K then u t else v (t - K), ⟨fun t ht => ?_, fun t ht => ?_⟩, by simp [u0], ?_, ?_⟩
 ·
  by_cases h : t ≤ K
  ·
   simp only [h, if_true]; exact hu.lt t h
  ·
   simp only [h, if_false]; exact hv.lt (t - K) jj
 ·
  by_cases h : t + 1 ≤ K
  ·
   simp only [h, if_true]; rw [jh]; exact hu.arc t jj
  ·
   simp only [h, if_false]
   by_cases h2 : t ≤ K
   ·
    obtain rfl : t = K := by omega
    rw [if_pos h2, uK, ← v0, show t + 1 - t = 0 + 1 by omega]; exact hv.arc 0 jj
   ·
    rw [if_neg h2, show t + 1 - K = t - K + 1 by omega]; exact hv.arc (t - K) jj
 ·
  by_cases h : L = 0
  ·
   subst h; simp [uK, ← v0, vL]
  ·
   simp only [show ¬ K + L ≤ K by omega, if_false]; rw [show K + L - K = L by omega]; exact vL
 ·
  rw [wt_add]
  have e1 : wt a (fun t => if t ≤ K then u t else v (t - K)) K = wt a u K := wt_congr fun t ht => if_pos ht
  have e2 : wt a (fun t => (fun t => if t ≤ K then u t else v (t - K)) (t + K)) L = wt a v L := wt_congr fun t _ => by
   by_cases h : t = 0
   ·
    subst h; simp [uK, v0]
   ·
    simp only [show ¬ t + K ≤ K by omega, if_false]; congr 1; omega
  rw [e1, e2, uw, vw]
  unfold Mp.pl
  rw [if_neg hx, if_neg hy]; omega
theorem Att.max {n : Nat} {a : Nat → Nat → Int} {i j : Nat} {x y : Int} (hx : Att n a i j x) (hy : Att n a i j y) : Att n a i j (max x y) := by
 by_cases h : y ≤ x
 ·
  rw [Int.max_eq_left h]; exact hx
 ·
  rw [Int.max_eq_right jj]; exact hy
theorem fw0_att {n : Nat} {a : Nat → Nat → Int} {i j : Nat} (hi : i < n) (hj : j < n) : Att n a i j (fw0 a i j) := by
 refine Att.max ?_ ?_
 ·
  unfold onef
  by_cases e : i = j
  ·
   subst e
   rw [if_pos rfl]
   exact .inr ⟨0, fun _ => i, ⟨fun _ _ => hi, fun t ht => by omega⟩, rfl, rfl, rfl⟩
  ·
   rw [if_neg e]; exact .inl rfl
 ·
  by_cases h : a i j = NEV
  ·
   exact .inl h
  ·
   refine .inr ⟨1, fun t => if t = 0 then j else i, ⟨fun t ht => ?_, fun t ht => ?_⟩, by simp, by simp, by simp [wt]⟩
   ·
    by_cases e : t = 0
    ·
     simp only [e, if_true]; exact hj
    ·
     simp only [e, if_false]; exact hi
   ·
    obtain rfl : t = 0 := by omega
    simpa using h
theorem fwk_att {n : Nat} {a : Nat → Nat → Int} : ∀ k, k ≤ n → ∀ i j, i < n → j < n → Att n a i j (fwk a k i j)
 | 0, _, _, _, hi, hj => fw0_att hi hj
 | k + 1, hk, i, j, hi, hj => Att.max (fwk_att k jj i j hi hj) (Att.pl (fwk_att k jj i k hi jj) (fwk_att k jj k j jj hj))
theorem fwk_mono (a : Nat → Nat → Int) (i j : Nat) : ∀ k, fw0 a i j ≤ fwk a k i j
 | 0 => Int.le_refl _
 | k + 1 => by have := fwk_mono a i j k; simp only [fwk]; omega
theorem Bd.max {M x y : Int} (hx : Bd M x) (hy : Bd M y) : Bd M (max x y) := by
 by_cases h : y ≤ x
 ·
  rw [Int.max_eq_left h]; exact hx
 ·
  rw [Int.max_eq_right jj]; exact hy
theorem fwk_bd {n : Nat} {M : Int} {a : Nat → Nat → Int} (ha : BdM n n M a) (hM : 0 ≤ M) : ∀ k, k ≤ n → BdM n n (M * (2 ^ k : Nat)) (fwk a k)
 | 0, _ => fun i j hi hj => Bd.max ((BdM.one n i j hi hj).mono (by simpa using hM)) ((ha i j hi hj).mono (by simp))
 | k + 1, hk => fun i j hi hj => by
  have ih := fwk_bd ha hM k jj
  have e : M * ((2 ^ (k + 1) : Nat) : Int) = M * (2 ^ k : Nat) + M * (2 ^ k : Nat) := by
   rw [Nat.pow_succ, Nat.mul_two, Int.natCast_add, Int.mul_add]
  have h0 : 0 ≤ M * ((2 ^ k : Nat) : Int) := Int.mul_nonneg hM (Int.natCast_nonneg _)
  rw [e]
  revert ih h0
  generalize M * ((2 ^ k : Nat) : Int) = P
  intro ih h0
  exact Bd.max ((ih i j hi hj).mono jj) ((ih i k hi jj).pl (ih k j jj hj))
section
variable {n : Nat} {M : Int} {a : Nat → Nat → Int}
theorem fwk_diag (ha : BdM n n M a) (hM : 0 ≤ M) (hs : M * (n : Nat) < 1152921504606846976) (hp : NoPos n a) {k : Nat} (hk : k ≤ n) {i : Nat} (hi : i < n) : fwk a k i i = 0 := by
 have h1 : 0 ≤ fwk a k i i := Int.le_trans (by unfold fw0 onef; rw [if_pos rfl]; omega) (fwk_mono a i i k)
 rcases fwk_att (a := a) k hk i i hi hi with e | ⟨L, v, hv, v0, vL, vw⟩
 ·
  rw [e] at h1; exact absurd h1 (by decide)
 ·
  have := closed_le ha hM hs hp L v hv (by rw [v0, vL])
  omega
theorem fwk_tr (ha : BdM n n M a) (hM : 0 ≤ M) (hs : M * (n : Nat) < 1152921504606846976) (hp : NoPos n a) (h2 : M * (2 ^ n : Nat) < 100000000000000000) : ∀ k, k ≤ n → ∀ m, m < k → ∀ i j, i < n → j < n → pl (fwk a k i m) (fwk a k m j) ≤ fwk a k i j := by
 intro k
 induction k with
 | zero => intro _ m hm; omega
 | succ k ih =>
  intro hk m hm i j hi hj
  have B : ∀ i j, i < n → j < n → Bd 100000000000000000 (fwk a k i j) := fun i j hi hj => (fwk_bd ha hM k jj i j hi hj).mono
   (Int.le_of_lt (Int.lt_of_le_of_lt (Int.mul_le_mul_of_nonneg_left (by exact_mod_cast Nat.pow_le_pow_right jj jj) hM) h2))
  have hkk := fwk_diag ha hM hs hp (k := k) jj (i := k) jj
  have bik := B i k hi jj
  have bkj := B k j jj hj
  have bij := B i j hi hj
  simp only [fwk]
  by_cases e : m = k
  ·
   subst e
   rw [hkk]
   have : pl (max (fwk a m i m) (pl (fwk a m i m) 0)) (max (fwk a m m j) (pl 0 (fwk a m m j))) = pl (fwk a m i m) (fwk a m m j) := by
    unfold Bd pl NEV at *
    repeat' split <;> omega
   rw [this]; omega
  ·
   have bim := B i m hi jj
   have bmj := B m j jj hj
   have bkm := B k m jj jj
   have bmk := B m k jj jj
   have t1 := ih jj m jj i j hi hj
   have t2 := ih jj m jj k j jj hj
   have t3 := ih jj m jj i k hi jj
   have t4 := ih jj m jj k k jj jj
   rw [hkk] at t4
   revert bik bkj bij bim bmj bkm bmk t1 t2 t3 t4
   generalize fwk a k i k = x1
   generalize fwk a k k j = x2
   generalize fwk a k i j = x3
   generalize fwk a k i m = x4
   generalize fwk a k m j = x5
   generalize fwk a k k m = x6
   generalize fwk a k m k = x7
   clear hkk B ih
   intro bik bkj bij bim bmj bkm bmk t1 t2 t3 t4
   have b16 := bik.pl bkm
   have b72 := bmk.pl bkj
   have b12 := bik.pl bkj
   have bR : Bd 200000000000000000 (max x5 (pl x7 x2)) := Bd.max (bmj.mono jj) (b72.mono jj)
   rw [pl_max_left (M := 200000000000000000) (bim.mono jj) (b16.mono jj) bR jj jj jj,
    pl_max_right (M := 200000000000000000) (N := 200000000000000000) (bmj.mono jj) (b72.mono jj) (bim.mono jj) jj jj jj,
    pl_max_right (M := 200000000000000000) (N := 200000000000000000) (bmj.mono jj) (b72.mono jj) (b16.mono jj) jj jj jj]
   have u1 : pl x4 (pl x7 x2) ≤ pl x1 x2 := by
    rw [← pl_assoc bim bmk bkj jj jj jj jj]
    exact pl_mono (bim.pl bmk) bik bkj bkj jj t3 (Int.le_refl _)
   have u2 : pl (pl x1 x6) x5 ≤ pl x1 x2 := by
    rw [pl_assoc bik bkm bmj jj jj jj jj]
    exact pl_mono bik bik (bkm.pl bmj) bkj jj (Int.le_refl _) t2
   have u3 : pl (pl x1 x6) (pl x7 x2) ≤ pl x1 x2 := by
    rw [pl_assoc bik bkm b72 jj jj jj jj, ← pl_assoc bkm bmk bkj jj jj jj jj]
    have z : pl (pl x6 x7) x2 ≤ x2 := by
     have := pl_mono (bkm.pl bmk) (.inr jj : Bd 100000000000000000 (0 : Int)) bkj bkj jj t4 (Int.le_refl _)
     have e0 : pl 0 x2 = x2 := by
      unfold pl
      rw [if_neg (by decide)]
      split <;> omega
     rw [e0] at this; exact this
    exact pl_mono bik bik ((bkm.pl bmk).pl bkj) bkj jj (Int.le_refl _) z
   omega
end
section
variable {n : Nat} {M : Int} {a : Nat → Nat → Int}
theorem star_bd (ha : BdM n n M a) (hM : 0 ≤ M) (h2 : M * (2 ^ n : Nat) < 100000000000000000) : BdM n n 100000000000000000 (fwk a n) := fun i j hi hj => (fwk_bd ha hM n jj i j hi hj).mono jj
theorem arc_star (i j : Nat) : a i j ≤ fwk a n i j := Int.le_trans (by unfold fw0; omega) (fwk_mono a i j n)
theorem star_step (ha : BdM n n M a) (hM : 0 ≤ M) (hs : M * (n : Nat) < 1152921504606846976) (hp : NoPos n a) (h2 : M * (2 ^ n : Nat) < 100000000000000000) (hM2 : M < 100000000000000000) (i k j : Nat) (hi : i < n) (hk : k < n) (hj : j < n) : pl (a i k) (fwk a n k j) ≤ fwk a n i j := by
 have B := star_bd ha hM h2
 exact Int.le_trans (pl_mono ((ha i k hi hk).mono (Int.le_of_lt hM2)) (B i k hi hk) (B k j hk hj) (B k j hk hj) jj (arc_star i k) (Int.le_refl _)) (fwk_tr ha hM hs hp h2 n jj k hk i j hi hj)
theorem walk_star (ha : BdM n n M a) (hM : 0 ≤ M) (hs : M * (n : Nat) < 1152921504606846976) (hp : NoPos n a) (h2 : M * (2 ^ n : Nat) < 100000000000000000) (hM2 : M < 100000000000000000) {v : Nat → Nat} : ∀ L, Wk n a v L → fwk a n (v L) (v 0) ≠ NEV ∧ wt a v L ≤ fwk a n (v L) (v 0) := by
 intro L
 induction L with
 | zero =>
  intro h
  rw [fwk_diag ha hM hs hp jj (h.lt 0 jj)]
  exact ⟨by decide, Int.le_refl _⟩
 | succ L ih =>
  intro h
  have i1 := ih (h.left jj)
  have hstep := star_step ha hM hs hp h2 hM2 (v (L + 1)) (v L) (v 0) (h.lt _ jj) (h.lt _ jj) (h.lt _ jj)
  have harc := h.arc L jj
  have b1 := ha (v (L + 1)) (v L) (h.lt _ jj) (h.lt _ jj)
  have b2 := star_bd ha hM h2 (v L) (v 0) (h.lt _ jj) (h.lt _ jj)
  have b3 := star_bd ha hM h2 (v (L + 1)) (v 0) (h.lt _ jj) (h.lt _ jj)
  rw [show pl (a (v (L + 1)) (v L)) (fwk a n (v L) (v 0)) = a (v (L + 1)) (v L) + fwk a n (v L) (v 0) by unfold pl; rw [if_neg harc, if_neg i1.1]] at hstep
  have n1 : (NEV : Int) = -1152921504606846976 := rfl
  have c1 := b1.resolve_left harc
  have c2 := b2.resolve_left i1.1
  refine ⟨fun e => ?_, ?_⟩
  ·
   rw [e] at hstep; omega
  ·
   show wt a v L + a (v (L + 1)) (v L) ≤ _
   have := i1.2
   omega
end
structure Eig (n : Nat) (s : Nat → Nat → Int) (v : Nat → Int) : Prop where
 le : ∀ i k, i < n → k < n → s i k ≠ NEV → s i k + v k ≤ v i
 at_ : ∀ i, i < n → ∃ k, k < n ∧ s i k ≠ NEV ∧ s i k + v k = v i
section
variable {n : Nat} {M : Int} {a : Nat → Nat → Int}
end
def Go (n : Nat) (a : Nat → Nat → Int) (j i L : Nat) (x : Int) : Prop := ∃ v, Wk n a v L ∧ v 0 = j ∧ v L = i ∧ wt a v L = x
theorem Go.lt {n : Nat} {a : Nat → Nat → Int} {j i L : Nat} {x : Int} (h : Go n a j i L x) : j < n ∧ i < n := by
 obtain ⟨v, hv, rfl, rfl, _⟩ := h
 exact ⟨hv.lt 0 jj, hv.lt L jj⟩
theorem Go.nil {n : Nat} {a : Nat → Nat → Int} {i : Nat} (hi : i < n) : Go n a i i 0 0 := ⟨fun _ => i, ⟨fun _ _ => hi, fun t ht => by omega⟩, rfl, rfl, rfl⟩
theorem Go.cat {n : Nat} {a : Nat → Nat → Int} {j k i K L : Nat} {x y : Int} (h1 : Go n a j k K x) (h2 : Go n a k i L y) : Go n a j i (K + L) (x + y) := by
 obtain ⟨u, hu, u0, uK, uw⟩ := h1
 obtain ⟨v, hv, v0, vL, vw⟩ := h2
 refine ⟨fun t => if t ≤ K then u t else v (t - K), ⟨fun t ht => ?_, fun t ht => ?_⟩, by simp [u0], ?_, ?_⟩
 ·
  by_cases h : t ≤ K
  ·
   simp only [h, if_true]; exact hu.lt t h
  ·
   simp only [h, if_false]; exact hv.lt (t - K) jj
 ·
  by_cases h : t + 1 ≤ K
  ·
   simp only [h, if_true]; rw [jh]; exact hu.arc t jj
  ·
   simp only [h, if_false]
   by_cases h2 : t ≤ K
   ·
    obtain rfl : t = K := by omega
    rw [if_pos h2, uK, ← v0, show t + 1 - t = 0 + 1 by omega]; exact hv.arc 0 jj
   ·
    rw [if_neg h2, show t + 1 - K = t - K + 1 by omega]; exact hv.arc (t - K) jj
 ·
  by_cases h : L = 0
  ·
   subst h; simp [uK, ← v0, vL]
  ·
   simp only [show ¬ K + L ≤ K by omega, if_false]; rw [show K + L - K = L by omega]; exact vL
 ·
  rw [wt_add]
  have e1 : wt a (fun t => if t ≤ K then u t else v (t - K)) K = wt a u K := wt_congr fun t ht => if_pos ht
  have e2 : wt a (fun t => (fun t => if t ≤ K then u t else v (t - K)) (t + K)) L = wt a v L := wt_congr fun t _ => by
   by_cases h : t = 0
   ·
    subst h; simp [uK, v0]
   ·
    simp only [show ¬ t + K ≤ K by omega, if_false]; congr 1; omega
  rw [e1, e2, uw, vw]
theorem Go.split {n : Nat} {a : Nat → Nat → Int} {v : Nat → Nat} {L t : Nat} (h : Wk n a v L) (ht : t ≤ L) : ∃ x y, Go n a (v 0) (v t) t x ∧ Go n a (v t) (v L) (L - t) y ∧ x + y = wt a v L := by
 obtain ⟨r, rfl⟩ : ∃ r, L = t + r := ⟨L - t, by omega⟩
 refine ⟨wt a v t, wt a (fun q => v (q + t)) r, ⟨v, h.left jj, rfl, rfl, rfl⟩, ?_, (wt_add a v t r).symm⟩
 rw [show t + r - t = r by omega]
 exact ⟨fun q => v (q + t), Wk.shift h, by simp, by show v (r + t) = v (t + r); rw [Nat.add_comm], rfl⟩
section
variable {n : Nat} {M : Int} {a : Nat → Nat → Int}
theorem Go.closed (ha : BdM n n M a) (hM : 0 ≤ M) (hs : M * (n : Nat) < 1152921504606846976) (hp : NoPos n a) {i L : Nat} {x : Int} (h : Go n a i i L x) : x ≤ 0 := by
 obtain ⟨v, hv, v0, vL, rfl⟩ := h
 exact closed_le ha hM hs hp L v hv (by rw [v0, vL])
theorem Go.bd (ha : BdM n n M a) {j i L : Nat} {x : Int} (h : Go n a j i L x) : -(M * (L : Nat)) ≤ x ∧ x ≤ M * (L : Nat) := by
 obtain ⟨v, hv, _, _, rfl⟩ := h
 exact wt_bd ha hv
theorem Go.le_pow (ha : BdM n n M a) (hM : 0 ≤ M) {j i L : Nat} {x : Int} (hs : M * (L : Nat) < 1152921504606846976) (h : Go n a j i L x) : powf n a L i j ≠ NEV ∧ x ≤ powf n a L i j := by
 obtain ⟨v, hv, rfl, rfl, rfl⟩ := h
 have h1 := pow_ge ha hM L v hs hv
 have h2 := wt_bd ha hv
 have n1 : (NEV : Int) = -1152921504606846976 := rfl
 exact ⟨fun e => by rw [e] at h1; omega, h1⟩
theorem Go.of_pow {j i L : Nat} (hi : i < n) (hj : j < n) (h : powf n a L i j ≠ NEV) : Go n a j i L (powf n a L i j) := pow_att L i j hi hj h
theorem Go.red (ha : BdM n n M a) (hM : 0 ≤ M) (hs : M * (n : Nat) < 1152921504606846976) (hp : NoPos n a) (q : Nat) (hq : 1 ≤ q) {j i : Nat} : ∀ (L : Nat) {x : Int}, Go n a j i L x →
  ∃ K y, Go n a j i K y ∧ K < n * q ∧ x ≤ y ∧ K ≤ L ∧ ∃ t, L = K + q * t := by
 intro L
 induction L using Nat.strongRecOn with
 | ind L ih =>
  intro x h
  by_cases hL : L < n * q
  ·
   exact ⟨L, x, h, hL, Int.le_refl _, Nat.le_refl _, 0, by omega⟩
  ·
   obtain ⟨v, hv, v0, vL, vw⟩ := h
   obtain ⟨p, p', hpp, hp', e⟩ := php (n * q) (fun t => v t * q + t % q) (fun t ht => by
    have h1 := hv.lt t jj
    have h2 : t % q < q := Nat.mod_lt _ hq
    have h3 : (v t + 1) * q ≤ n * q := Nat.mul_le_mul_right q h1
    rw [Nat.add_mul] at h3
    show v t * q + t % q < n * q
    omega)
   have hm1 : p % q < q := Nat.mod_lt _ hq
   have hm2 : p' % q < q := Nat.mod_lt _ hq
   replace e : v p * q + p % q = v p' * q + p' % q := e
   have em : p % q = p' % q := by
    have h1 : (v p * q + p % q) % q = p % q := by rw [Nat.mul_add_mod_self_right, Nat.mod_eq_of_lt hm1]
    have h2 : (v p' * q + p' % q) % q = p' % q := by rw [Nat.mul_add_mod_self_right, Nat.mod_eq_of_lt hm2]
    rw [← h1, e, h2]
   have ev : v p = v p' := Nat.eq_of_mul_eq_mul_right (by omega : 0 < q) jj
   obtain ⟨d, rfl⟩ : ∃ d, p' = p + d := ⟨p' - p, by omega⟩
   obtain ⟨r, rfl⟩ : ∃ r, L = p + d + r := ⟨L - (p + d), by omega⟩
   obtain ⟨t, ht⟩ : ∃ t, d = q * t := by
    have h1 := Nat.div_add_mod p q
    have h2 := Nat.div_add_mod (p + d) q
    refine ⟨(p + d) / q - p / q, ?_⟩
    rw [Nat.mul_sub]
    omega
   have hm : Wk n a (fun t => v (t + p)) d := Wk.shift (hv.left jj)
   have hc := closed_le ha hM hs hp d (fun t => v (t + p)) hm (by show v (0 + p) = v (d + p); rw [Nat.zero_add, Nat.add_comm d p]; exact ev)
   have hw := cutw_wt (a := a) (r := r) ev
   obtain ⟨K, y, hK, hlt, hxy, hKL, t2, ht2⟩ := ih (p + r) jj (x := wt a (cutw v p d) (p + r)) ⟨cutw v p d, cutw_wk hv ev, by rw [cutw_zero, v0], by rw [cutw_end ev, vL], rfl⟩
   refine ⟨K, y, hK, hlt, by omega, by omega, t + t2, ?_⟩
   rw [Nat.mul_add, ← ht]
   omega
end
def Z (n : Nat) (a : Nat → Nat → Int) (u L : Nat) : Prop := Go n a u u L 0
theorem Z.add {n : Nat} {a : Nat → Nat → Int} {u K L : Nat} (h1 : Z n a u K) (h2 : Z n a u L) : Z n a u (K + L) := by
 have := Go.cat h1 h2
 rwa [show (0 : Int) + 0 = 0 from rfl] at this
theorem Z.mul {n : Nat} {a : Nat → Nat → Int} {u L : Nat} (h : Z n a u L) : ∀ t, Z n a u (t * L)
 | 0 => by rw [Nat.zero_mul]; exact Go.nil h.lt.1
 | t + 1 => by rw [Nat.add_mul, Nat.one_mul]; exact Z.add (Z.mul h t) h
theorem Z.iff_pow {n : Nat} {M : Int} {a : Nat → Nat → Int} (ha : BdM n n M a) (hM : 0 ≤ M) (hs : M * (n : Nat) < 1152921504606846976) (hp : NoPos n a) {u L : Nat} (hL : M * (L : Nat) < 1152921504606846976) (hu : u < n) : Z n a u L ↔ powf n a L u u = 0 := by
 constructor
 ·
  intro h
  have h1 := Go.le_pow ha hM hL h
  have h2 := (Go.of_pow hu hu h1.1).closed ha hM hs hp
  omega
 ·
  intro h
  have := Go.of_pow (n := n) (a := a) (L := L) hu hu (by rw [h]; decide)
  rwa [h] at this
def OnZ (n : Nat) (a : Nat → Nat → Int) (u : Nat) : Prop := ∃ L, 1 ≤ L ∧ Z n a u L
structure IsPer (n : Nat) (a : Nat → Nat → Int) (c : Nat) : Prop where
 pos : 1 ≤ c
 iff : ∀ x, c ∣ x ↔ ∀ u, OnZ n a u → ∀ d, (∀ L, Z n a u L → d ∣ L) → d ∣ x
theorem least_nat {P : Nat → Prop} : (∃ r, P r) → ∃ r, P r ∧ ∀ s, s < r → ¬ P s := by
 intro ⟨r, hr⟩
 induction r using Nat.strongRecOn with
 | ind r ih =>
  by_cases h : ∃ s, s < r ∧ P s
  ·
   obtain ⟨s, h1, h2⟩ := h; exact ih s h1 h2
  ·
   exact ⟨r, hr, fun s h1 h2 => h ⟨s, h1, h2⟩⟩
theorem IsPer.gen {n : Nat} {a : Nat → Nat → Int} {c : Nat} (h : IsPer n a c) {u : Nat} (hu : OnZ n a u) (q : Nat) (hq : 1 ≤ q) : ∃ L, Z n a u L ∧ L % q = c % q := by
 have hun : u < n := by obtain ⟨L, _, hL⟩ := hu; exact hL.lt.1
 let R : Nat → Prop := fun r => ∃ L, Z n a u L ∧ L % q = r % q
 have r_add : ∀ x y, R x → R y → R (x + y) := by
  rintro x y ⟨L, h1, h2⟩ ⟨K, h3, h4⟩
  exact ⟨L + K, Z.add h1 h3, by rw [Nat.add_mod, h2, h4, ← Nat.add_mod]⟩
 have r_zero : R 0 := ⟨0, Go.nil hun, rfl⟩
 have r_mul : ∀ x t, R x → R (t * x) := by
  intro x t hx
  induction t with
  | zero => rw [Nat.zero_mul]; exact r_zero
  | succ t ih => rw [Nat.add_mul, Nat.one_mul]; exact r_add _ _ ih hx
 have r_congr : ∀ x y, x % q = y % q → R x → R y := by
  rintro x y e ⟨L, h1, h2⟩; exact ⟨L, h1, by rw [h2, e]⟩
 obtain ⟨r, ⟨hr1, hr2⟩, hmin⟩ := least_nat (P := fun r => 1 ≤ r ∧ R r) ⟨q, hq, 0, Go.nil hun, by rw [Nat.mod_self, Nat.zero_mod]⟩
 have hdiv : ∀ L, Z n a u L → r ∣ L := by
  intro L hL
  have e1 := Nat.div_add_mod L r
  have hlt : L % r < r := Nat.mod_lt _ hr1
  have hR : R (L % r) := by
   refine r_congr (L + (q - 1) * (L / r * r)) _ ?_ (r_add _ _ ⟨L, hL, rfl⟩ (r_mul _ _ (r_mul _ _ hr2)))
   have e2 : L + (q - 1) * (L / r * r) = L % r + (L / r * r) * q := by
    obtain ⟨p, rfl⟩ : ∃ p, q = p + 1 := ⟨q - 1, by omega⟩
    rw [show p + 1 - 1 = p by omega, Nat.mul_add, Nat.mul_one, Nat.mul_comm p]
    rw [Nat.mul_comm r] at e1
    omega
   rw [e2, Nat.add_mul_mod_self_right]
  by_cases e : L % r = 0
  ·
   exact Nat.dvd_of_mod_eq_zero e
  ·
   exact absurd ⟨by omega, hR⟩ (hmin (L % r) hlt)
 obtain ⟨t, ht⟩ := (h.iff c).1 (Nat.dvd_refl c) u hu r hdiv
 have := r_mul r t hr2
 rw [Nat.mul_comm, ← ht] at this
 exact this
section
variable {n : Nat} {a : Nat → Nat → Int}
theorem thru (hn : n ≤ 6) (ha : BdM n n 12000 a) (hp : NoPos n a) {u q : Nat} (hq : 1 ≤ q) (hq6 : q ≤ 6) (hu : Z n a u q) {j i K L E : Nat} {x y : Int} (h1 : Go n a j u K x) (h2 : Go n a u i L y) (h3 : Z n a u E) (m : Nat) (hm : 108 ≤ m) (he : (K + L + E) % q = m % q) :
  ∃ z, x + y ≤ z ∧ Go n a j i m z := by
 have hs : (12000 : Int) * (n : Nat) < 1152921504606846976 := by omega
 obtain ⟨K', x', g1, l1, b1, _, t1, e1⟩ := Go.red ha jj hs hp q hq K h1
 obtain ⟨L', y', g2, l2, b2, _, t2, e2⟩ := Go.red ha jj hs hp q hq L h2
 obtain ⟨E', z', g3, l3, b3, _, t3, e3⟩ := Go.red ha jj hs hp q hq E h3
 have c3 := g3.closed ha jj hs hp
 obtain rfl : z' = 0 := by omega
 have hnq : n * q ≤ 36 := Nat.mul_le_mul hn hq6
 obtain ⟨t, ht⟩ : ∃ t, m = K' + E' + t * q + L' := by
  refine ⟨(m - (K' + E' + L')) / q, ?_⟩
  have : q = 1 ∨ q = 2 ∨ q = 3 ∨ q = 4 ∨ q = 5 ∨ q = 6 := by omega
  rcases this with rfl | rfl | rfl | rfl | rfl | rfl <;> omega
 have g := ((g1.cat g3).cat (Z.mul hu t)).cat g2
 rw [← ht] at g
 exact ⟨_, by omega, g⟩
theorem loses (hn : 1 ≤ n) (ha : BdM n n 12000 a) (hs : (12000 : Int) * (n : Nat) < 1152921504606846976) (hp : NoPos n a) : ∀ (L : Nat) (v : Nat → Nat), Wk n a v L → (∀ t, t ≤ L → ¬ OnZ n a (v t)) → (n : Int) * wt a v L + (L : Nat) ≤ 12000 * (n : Nat) * (n : Nat) + (n : Nat) := by
 intro L
 induction L using Nat.strongRecOn with
 | ind L ih =>
  intro v hv hz
  by_cases hL : L ≤ n
  ·
   have h1 := (wt_bd ha hv).2
   have h2 : (12000 : Int) * (L : Nat) ≤ 12000 * (n : Nat) := by omega
   have h3 := Int.mul_le_mul_of_nonneg_left (Int.le_trans h1 h2) (by omega : (0 : Int) ≤ (n : Nat))
   rw [show (n : Int) * (12000 * (n : Nat)) = 12000 * (n : Nat) * (n : Nat) by rw [Int.mul_left_comm, Int.mul_assoc]] at h3
   omega
  ·
   obtain ⟨p, p', hpp, hp', ev⟩ := php n v (fun t ht => hv.lt t jj)
   obtain ⟨d, rfl⟩ : ∃ d, p' = p + d := ⟨p' - p, by omega⟩
   obtain ⟨r, rfl⟩ : ∃ r, L = p + d + r := ⟨L - (p + d), by omega⟩
   have hm : Wk n a (fun t => v (t + p)) d := Wk.shift (hv.left jj)
   have ec : v (0 + p) = v (d + p) := by rw [Nat.zero_add, Nat.add_comm d p]; exact ev
   have hc := closed_le ha jj hs hp d (fun t => v (t + p)) hm ec
   have hne : wt a (fun t => v (t + p)) d ≠ 0 := fun e => hz p jj ⟨d, by omega, fun t => v (t + p), hm, by simp, by show v (d + p) = v p; rw [← ec]; simp, e⟩
   have hw := cutw_wt (a := a) (r := r) ev
   have h1 := ih (p + r) jj (cutw v p d) (cutw_wk hv ev) (fun t ht => by
    unfold cutw
    split
    ·
     exact hz t jj
    ·
     exact hz (t + d) jj)
   have h2 : (n : Int) * wt a v (p + d + r) = n * wt a (cutw v p d) (p + r) + n * wt a (fun t => v (t + p)) d := by rw [hw, Int.mul_add]
   have h3 : (n : Int) * wt a (fun t => v (t + p)) d ≤ n * (-1) := Int.mul_le_mul_of_nonneg_left jj jj
   omega
end
theorem Go.mul {n : Nat} {a : Nat → Nat → Int} {u L : Nat} {x : Int} (h : Go n a u u L x) : ∀ t, ∃ y, Go n a u u (t * L) y
 | 0 => ⟨0, by rw [Nat.zero_mul]; exact Go.nil h.lt.1⟩
 | t + 1 => by
  obtain ⟨y, hy⟩ := Go.mul h t
  exact ⟨y + x, by rw [Nat.add_mul, Nat.one_mul]; exact Go.cat hy h⟩
def Con (n : Nat) (a : Nat → Nat → Int) : Prop := ∀ i j, i < n → j < n → ∃ L x, Go n a j i L x
def Rep (n : Nat) (a : Nat → Nat → Int) (k x : Nat) : Prop := ∀ i j, i < n → j < n → powf n a (k + x) i j = powf n a k i j
theorem Rep.next {n : Nat} {a : Nat → Nat → Int} {k x : Nat} (h : Rep n a k x) : Rep n a (k + 1) x := by
 intro i j hi hj
 rw [show k + 1 + x = (k + x) + 1 by omega]
 exact mul_congr (fun q hq => h i q hi hq) (fun _ _ => rfl)
theorem Rep.later {n : Nat} {a : Nat → Nat → Int} {k x : Nat} (h : Rep n a k x) : ∀ t, Rep n a (k + t) x
 | 0 => h
 | t + 1 => (Rep.later h t).next
theorem Rep.many {n : Nat} {a : Nat → Nat → Int} {k x : Nat} (h : Rep n a k x) : ∀ t, Rep n a k (t * x)
 | 0 => fun i j _ _ => by rw [Nat.zero_mul]; rfl
 | t + 1 => fun i j hi hj => by
  have h1 := (Rep.many h t).later x i j hi hj
  rw [show k + (t + 1) * x = k + x + t * x by rw [Nat.add_mul, Nat.one_mul]; omega, h1]
  exact h i j hi hj
section
variable {n : Nat} {a : Nat → Nat → Int}
theorem OnZ.small (ha : BdM n n 12000 a) (hs : (12000 : Int) * (n : Nat) < 1152921504606846976) (hp : NoPos n a) {u : Nat} (h : OnZ n a u) : ∃ q, 1 ≤ q ∧ q ≤ n ∧ Z n a u q := by
 obtain ⟨q, ⟨hq, hz⟩, hmin⟩ := least_nat (P := fun r => 1 ≤ r ∧ Z n a u r) h
 refine ⟨q, hq, ?_, hz⟩
 by_cases hqn : q ≤ n
 ·
  exact hqn
 exfalso
 obtain ⟨v, hv, v0, vL, vw⟩ := hz
 obtain ⟨p, p', hpp, hp', ev⟩ := php n v (fun t ht => hv.lt t jj)
 obtain ⟨d, rfl⟩ : ∃ d, p' = p + d := ⟨p' - p, by omega⟩
 obtain ⟨r, rfl⟩ : ∃ r, q = p + d + r := ⟨q - (p + d), by omega⟩
 have hm : Wk n a (fun t => v (t + p)) d := Wk.shift (hv.left jj)
 have hc := closed_le ha jj hs hp d (fun t => v (t + p)) hm (by show v (0 + p) = v (d + p); rw [Nat.zero_add, Nat.add_comm d p]; exact ev)
 have hw := cutw_wt (a := a) (r := r) ev
 have hk := cutw_wk hv ev
 have e0 : cutw v p d 0 = u := by rw [cutw_zero, v0]
 have eL : cutw v p d (p + r) = u := by rw [cutw_end ev, vL]
 have hc2 := closed_le ha jj hs hp (p + r) (cutw v p d) hk (by rw [e0, eL])
 exact hmin (p + r) jj ⟨by omega, cutw v p d, hk, e0, eL, by omega⟩
theorem IsPer.fit {c : Nat} (h : IsPer n a c) {u : Nat} (hu : OnZ n a u) {q : Nat} (hq : 1 ≤ q) (hq6 : q ≤ 6) {m m' : Nat} (hm : m' = m + c ∨ m = m' + c) : ∃ E, Z n a u E ∧ (m + E) % q = m' % q := by
 obtain ⟨E, hE, he⟩ := h.gen hu q hq
 rcases hm with hm | hm
 ·
  refine ⟨E, hE, ?_⟩
  have : q = 1 ∨ q = 2 ∨ q = 3 ∨ q = 4 ∨ q = 5 ∨ q = 6 := by omega
  rcases this with rfl | rfl | rfl | rfl | rfl | rfl <;> omega
 ·
  refine ⟨(q - 1) * E, Z.mul hE _, ?_⟩
  have : q = 1 ∨ q = 2 ∨ q = 3 ∨ q = 4 ∨ q = 5 ∨ q = 6 := by omega
  rcases this with rfl | rfl | rfl | rfl | rfl | rfl <;> omega
theorem cyc_ge (hn1 : 1 ≤ n) (hn : n ≤ 6) (ha : BdM n n 12000 a) (hp : NoPos n a) (hcon : Con n a) {u0 : Nat} (hu0 : OnZ n a u0) {c : Nat} (h : IsPer n a c) {m m' : Nat} (h1 : 10000000 ≤ m) (h2 : 10000000 ≤ m') (hm : m' = m + c ∨ m = m' + c) {j i : Nat} {x : Int} (hx : Go n a j i m x) :
  ∃ z, x ≤ z ∧ Go n a j i m' z := by
 have hs : (12000 : Int) * (n : Nat) < 1152921504606846976 := by omega
 have hji := hx.lt
 obtain ⟨v, hv, v0, vL, vw⟩ := hx
 by_cases hz : ∃ t, t ≤ m ∧ OnZ n a (v t)
 ·
  obtain ⟨t, ht, hu⟩ := hz
  obtain ⟨q, hq, hqn, hzq⟩ := hu.small ha hs hp
  obtain ⟨x1, y1, g1, g2, e⟩ := Go.split hv ht
  obtain ⟨E, hE, he⟩ := h.fit hu hq jj hm
  rw [v0] at g1
  rw [vL] at g2
  obtain ⟨z, hz1, hz2⟩ := thru hn ha hp hq jj hzq g1 g2 hE m' jj (by rw [show t + (m - t) + E = m + E by omega]; exact he)
  exact ⟨z, by omega, hz2⟩
 ·
  have hl := loses hn1 ha hs hp m v hv (fun t ht hu => hz ⟨t, ht, hu⟩)
  rw [vw] at hl
  have hxs : x ≤ -1500000 := by
   have : n = 1 ∨ n = 2 ∨ n = 3 ∨ n = 4 ∨ n = 5 ∨ n = 6 := by omega
   rcases this with rfl | rfl | rfl | rfl | rfl | rfl <;> omega
  obtain ⟨q, hq, hqn, hzq⟩ := hu0.small ha hs hp
  have hq6 : q ≤ 6 := by omega
  have hu := hzq.lt.1
  obtain ⟨_, _, g1⟩ := hcon u0 j hu hji.1
  obtain ⟨_, _, g2⟩ := hcon j u0 hji.1 hu
  obtain ⟨p, x1, g1, l1, _, _, _⟩ := Go.red ha jj hs hp 1 jj _ g1
  obtain ⟨p2, x2, g2, l2, _, _, _⟩ := Go.red ha jj hs hp 1 jj _ g2
  obtain ⟨K, x3, g3, l3, _, _, t3, e3⟩ := Go.red ha jj hs hp q hq _ ⟨v, hv, v0, vL, rfl⟩
  obtain ⟨x4, g4⟩ := Go.mul (g2.cat g1) (q - 1)
  have g5 := (g4.cat g2).cat g3
  obtain ⟨E, hE, he⟩ := h.fit hu0 hq hq6 hm
  have hnq : n * q ≤ 36 := Nat.mul_le_mul hn hq6
  have b1 := (g1.bd ha).1
  have b5 := (g5.bd ha).1
  have hlen : p + ((q - 1) * (p2 + p) + p2 + K) ≤ 100 := by
   have : q = 1 ∨ q = 2 ∨ q = 3 ∨ q = 4 ∨ q = 5 ∨ q = 6 := by omega
   rcases this with rfl | rfl | rfl | rfl | rfl | rfl <;> omega
  obtain ⟨z, hz1, hz2⟩ := thru hn ha hp hq hq6 hzq g1 g5 hE m' jj (by
   have : q = 1 ∨ q = 2 ∨ q = 3 ∨ q = 4 ∨ q = 5 ∨ q = 6 := by omega
   rcases this with rfl | rfl | rfl | rfl | rfl | rfl <;> omega)
  exact ⟨z, by omega, hz2⟩
theorem cyc_rep (hn1 : 1 ≤ n) (hn : n ≤ 6) (ha : BdM n n 12000 a) (hp : NoPos n a) (hcon : Con n a) {u0 : Nat} (hu0 : OnZ n a u0) {c : Nat} (h : IsPer n a c) {m : Nat} (h1 : 10000000 ≤ m) (h2 : m + c ≤ 10000000000) : Rep n a m c := by
 have hM : (12000 : Int) * ((m + c : Nat) : Int) < 1152921504606846976 := by omega
 have hM2 : (12000 : Int) * ((m : Nat) : Int) < 1152921504606846976 := by omega
 intro i j hi hj
 have f1 : powf n a m i j ≠ NEV → powf n a (m + c) i j ≠ NEV ∧ powf n a m i j ≤ powf n a (m + c) i j := fun hne => by
  obtain ⟨z, hz, g⟩ := cyc_ge hn1 hn ha hp hcon hu0 h h1 jj (.inl rfl) (Go.of_pow hi hj hne)
  have := g.le_pow ha jj hM
  exact ⟨this.1, by omega⟩
 have f2 : powf n a (m + c) i j ≠ NEV → powf n a m i j ≠ NEV ∧ powf n a (m + c) i j ≤ powf n a m i j := fun hne => by
  obtain ⟨z, hz, g⟩ := cyc_ge hn1 hn ha hp hcon hu0 h jj h1 (.inr rfl) (Go.of_pow hi hj hne)
  have := g.le_pow ha jj hM2
  exact ⟨this.1, by omega⟩
 by_cases e : powf n a m i j = NEV
 ·
  by_cases e2 : powf n a (m + c) i j = NEV
  ·
   rw [e, e2]
  ·
   exact absurd e (f2 e2).1
 ·
  have := f1 e
  have := f2 this.1
  omega
theorem rep_div (hn : n ≤ 6) (ha : BdM n n 12000 a) (hp : NoPos n a) {c : Nat} (h : IsPer n a c) {k x : Nat} (hk : k ≤ 1000000000) (hx : x ≤ 1000000000) (hr : Rep n a k x) : c ∣ x := by
 have hs : (12000 : Int) * (n : Nat) < 1152921504606846976 := by omega
 refine (h.iff x).2 fun u hu d hd => ?_
 obtain ⟨q, hq, hqn, hzq⟩ := hu.small ha hs hp
 have hun := hzq.lt.1
 have hkq : k * q ≤ 6000000000 := by
  have := Nat.mul_le_mul hk (show q ≤ 6 by omega)
  omega
 have hge : k ≤ k * q := Nat.le_mul_of_pos_right k jj
 have z1 := Z.mul hzq k
 have p1 := (Z.iff_pow ha jj hs hp jj hun).1 z1
 have e := hr.later (k * q - k) u u hun hun
 rw [show k + (k * q - k) = k * q by omega, p1] at e
 have z2 := (Z.iff_pow ha jj hs hp jj hun).2 e
 exact (Nat.dvd_add_right (hd _ z1)).1 (hd _ z2)
theorem rep_per (hn1 : 1 ≤ n) (hn : n ≤ 6) (ha : BdM n n 12000 a) (hp : NoPos n a) (hcon : Con n a) {u0 : Nat} (hu0 : OnZ n a u0) {c : Nat} (h : IsPer n a c) {k x : Nat} (hk : k ≤ 1000000000) (hx1 : 1 ≤ x) (hx : x ≤ 100) (hr : Rep n a k x) : Rep n a k c := by
 have hcx := rep_div hn ha hp h hk jj hr
 have hc : c ≤ 100 := Nat.le_trans (Nat.le_of_dvd jj hcx) hx
 have r1 := hr.many 10000000
 have r2 := r1.later c
 have big := cyc_rep hn1 hn ha hp hcon hu0 h (m := k + 10000000 * x) jj jj
 intro i j hi hj
 rw [← r2 i j hi hj, show k + c + 10000000 * x = k + 10000000 * x + c by omega, big i j hi hj]
 exact r1 i j hi hj
end
structure Pre (n : Nat) (a : Nat → Nat → Int) (w : List Nat) : Prop where
 ne : 0 < w.length
 lt : ∀ t, t < w.length → w.getD t 0 < n
 inj : ∀ s t, s < w.length → t < w.length → w.getD s 0 = w.getD t 0 → s = t
 low : ∀ t, t < w.length → w.getD 0 0 ≤ w.getD t 0
 arc : ∀ t, t + 1 < w.length → a (w.getD (t + 1) 0) (w.getD t 0) ≠ NEV
structure Cy (n : Nat) (a : Nat → Nat → Int) (w : List Nat) : Prop where
 pre : Pre n a w
 last : a (w.getD 0 0) (w.getD (w.length - 1) 0) ≠ NEV
def cyc (c : List Nat) (t : Nat) : Nat := c.getD (t % c.length) 0
theorem cyc_lt {c : List Nat} {t : Nat} (h : t < c.length) : cyc c t = c.getD t 0 := by unfold cyc; rw [Nat.mod_eq_of_lt h]
theorem cyc_len {c : List Nat} : cyc c c.length = c.getD 0 0 := by unfold cyc; rw [Nat.mod_self]
theorem cyc_zero (c : List Nat) : cyc c 0 = c.getD 0 0 := by unfold cyc; rw [Nat.zero_mod]
theorem getD_append_left' {w x : List Nat} {t : Nat} (h : t < w.length) : (w ++ x).getD t 0 = w.getD t 0 := by
 rw [List.getD_eq_getElem?_getD, List.getD_eq_getElem?_getD, List.getElem?_append_left h]
theorem getD_append_at {w : List Nat} {x : Nat} {y : List Nat} : (w ++ x :: y).getD w.length 0 = x := by
 rw [List.getD_eq_getElem?_getD, List.getElem?_append_right (Nat.le_refl _), Nat.sub_self]; rfl
section
variable {n : Nat} {a : Nat → Nat → Int}
theorem Cy.wk {c : List Nat} (h : Cy n a c) : Wk n a (cyc c) c.length := by
 have hp := h.pre
 refine ⟨fun t _ => hp.lt _ (Nat.mod_lt _ hp.ne), fun t ht => ?_⟩
 rw [cyc_lt ht]
 by_cases e : t + 1 < c.length
 ·
  rw [cyc_lt e]; exact hp.arc t e
 ·
  have e2 : t + 1 = c.length := by omega
  rw [e2, cyc_len]
  have := h.last
  rwa [show c.length - 1 = t by omega] at this
theorem Cy.len {c : List Nat} (h : Cy n a c) : c.length ≤ n := by
 by_cases e : c.length ≤ n
 ·
  exact e
 ·
  obtain ⟨p, q, hpq, hq, he⟩ := php n (fun t => c.getD t 0) (fun t ht => h.pre.lt t jj)
  have := h.pre.inj p q jj jj he
  omega
theorem Pre.snoc {w : List Nat} (h : Pre n a w) {x : Nat} (hx : x < n) (h1 : w.getD 0 0 ≤ x) (h2 : ∀ t, t < w.length → w.getD t 0 ≠ x) (h3 : a x (w.getD (w.length - 1) 0) ≠ NEV) : Pre n a (w ++ [x]) := by
 have l : (w ++ [x]).length = w.length + 1 := by simp
 have g1 : ∀ t, t < w.length → (w ++ [x]).getD t 0 = w.getD t 0 := fun t ht => getD_append_left' ht
 have g2 : (w ++ [x]).getD w.length 0 = x := getD_append_at
 have ne := h.ne
 refine ⟨by omega, fun t ht => ?_, fun s t hs ht e => ?_, fun t ht => ?_, fun t ht => ?_⟩
 ·
  by_cases e : t < w.length
  ·
   rw [g1 t e]; exact h.lt t e
  ·
   rw [show t = w.length by omega, g2]; exact hx
 ·
  by_cases e1 : s < w.length
  ·
   by_cases e2 : t < w.length
   ·
    rw [g1 s e1, g1 t e2] at e; exact h.inj s t e1 e2 e
   ·
    rw [g1 s e1, show t = w.length by omega, g2] at e; exact absurd e (h2 s e1)
  ·
   by_cases e2 : t < w.length
   ·
    rw [g1 t e2, show s = w.length by omega, g2] at e; exact absurd e.symm (h2 t e2)
   ·
    omega
 ·
  rw [g1 0 ne]
  by_cases e : t < w.length
  ·
   rw [g1 t e]; exact h.low t e
  ·
   rw [show t = w.length by omega, g2]; exact h1
 ·
  by_cases e : t + 1 < w.length
  ·
   rw [g1 _ e, g1 t jj]; exact h.arc t e
  ·
   rw [show t + 1 = w.length by omega, g2, g1 t jj]
   rwa [show w.length - 1 = t by omega] at h3
def rot (v : Nat → Nat) (L m : Nat) (t : Nat) : Nat := v ((t + m) % L)
theorem rot_wt {v : Nat → Nat} {L m : Nat} (hm : m < L) (e : v 0 = v L) : wt a (rot v L m) L = wt a v L := by
 obtain ⟨r, rfl⟩ : ∃ r, L = m + r := ⟨L - m, by omega⟩
 have e1 : wt a (rot v (m + r) m) r = wt a (fun t => v (t + m)) r := wt_congr fun t ht => by
  unfold rot
  by_cases h : t = r
  ·
   subst h; rw [Nat.add_comm t m, Nat.mod_self, e]
  ·
   rw [Nat.mod_eq_of_lt jj]
 have e2 : wt a (fun t => rot v (m + r) m (t + r)) m = wt a v m := wt_congr fun t ht => by
  show v ((t + r + m) % (m + r)) = v t
  rw [show t + r + m = t + (m + r) by omega, Nat.add_mod_right, Nat.mod_eq_of_lt jj]
 rw [Nat.add_comm m r, wt_add, Nat.add_comm r m, e1, e2, wt_add a v m r]
 omega
theorem rot_wk {v : Nat → Nat} {L m : Nat} (h : Wk n a v L) (hL : 1 ≤ L) (e : v 0 = v L) : Wk n a (rot v L m) L := by
 refine ⟨fun t _ => h.lt _ (Nat.le_of_lt (Nat.mod_lt _ hL)), fun t _ => ?_⟩
 unfold rot
 have hlt : (t + m) % L < L := Nat.mod_lt _ hL
 rw [show t + 1 + m = (t + m) + 1 by omega, Nat.add_mod]
 by_cases e1 : (t + m) % L + 1 < L
 ·
  have : ((t + m) % L + 1 % L) % L = (t + m) % L + 1 := by
   rw [Nat.mod_eq_of_lt (show 1 < L by omega), Nat.mod_eq_of_lt e1]
  rw [this]
  exact h.arc _ hlt
 ·
  have e2 : (t + m) % L + 1 = L := by omega
  have : ((t + m) % L + 1 % L) % L = 0 := by
   by_cases h1 : L = 1
   ·
    subst h1; omega
   ·
    rw [Nat.mod_eq_of_lt (show 1 < L by omega), e2, Nat.mod_self]
  rw [this, e, show (L : Nat) = (t + m) % L + 1 from e2.symm]
  have := h.arc _ hlt
  rw [← e2] at this
  simpa [e2] using this
end
section
variable {n : Nat} {a : Nat → Nat → Int}
theorem cy_of {v : Nat → Nat} {L : Nat} (h : Wk n a v L) (hL : 1 ≤ L) (e : v 0 = v L) (hd : ∀ s t, s < L → t < L → v s = v t → s = t) :
  ∃ c, Cy n a c ∧ c.length = L ∧ wt a (cyc c) L = wt a v L ∧ ∀ t, t < L → ∃ s, s < L ∧ c.getD s 0 = v t := by
 obtain ⟨x, ⟨m, hm, hx⟩, hmin⟩ := least_nat (P := fun x => ∃ m, m < L ∧ v m = x) ⟨v 0, 0, by omega, rfl⟩
 have hle : ∀ t, t < L → v m ≤ v t := fun t ht => by
  by_cases e1 : v m ≤ v t
  ·
   exact e1
  ·
   exact absurd ⟨t, ht, rfl⟩ (hmin (v t) jj)
 have lc : ((List.range L).map (rot v L m)).length = L := by simp
 have gc : ∀ t, t < L → ((List.range L).map (rot v L m)).getD t 0 = rot v L m t := fun t ht => by
  rw [List.getD_eq_getElem?_getD, List.getElem?_map, List.getElem?_range ht]; rfl
 have hw := rot_wk (m := m) h hL e
 have hlt : ∀ t, (t + m) % L < L := fun t => Nat.mod_lt _ hL
 have r0 : rot v L m 0 = v m := by unfold rot; rw [Nat.zero_add, Nat.mod_eq_of_lt hm]
 have rL : rot v L m L = rot v L m 0 := by unfold rot; rw [Nat.zero_add, Nat.add_mod_left]
 refine ⟨(List.range L).map (rot v L m), ⟨⟨by omega, fun t ht => ?_, fun s t hs ht he => ?_, fun t ht => ?_, fun t ht => ?_⟩, ?_⟩, lc, ?_, fun t ht => ?_⟩
 ·
  rw [lc] at ht; rw [gc t ht]; exact hw.lt t jj
 ·
  rw [lc] at hs ht
  rw [gc s hs, gc t ht] at he
  have := hd _ _ (hlt s) (hlt t) he
  have e1 : (s + m) % L = if s + m < L then s + m else s + m - L := by
   by_cases h1 : s + m < L
   ·
    rw [if_pos h1, Nat.mod_eq_of_lt h1]
   ·
    rw [if_neg h1, Nat.mod_eq_sub_mod jj, Nat.mod_eq_of_lt jj]
  have e2 : (t + m) % L = if t + m < L then t + m else t + m - L := by
   by_cases h1 : t + m < L
   ·
    rw [if_pos h1, Nat.mod_eq_of_lt h1]
   ·
    rw [if_neg h1, Nat.mod_eq_sub_mod jj, Nat.mod_eq_of_lt jj]
  rw [e1, e2] at this
  split at this <;> split at this <;> omega
 ·
  rw [lc] at ht
  rw [gc t ht, gc 0 jj, r0]
  exact hle _ (hlt t)
 ·
  rw [lc] at ht
  rw [gc _ ht, gc t jj]
  exact hw.arc t jj
 ·
  rw [lc, gc 0 jj, gc (L - 1) jj, ← rL]
  have := hw.arc (L - 1) jj
  rwa [show L - 1 + 1 = L by omega] at this
 ·
  rw [← rot_wt hm e]
  refine wt_congr fun t ht => ?_
  by_cases e1 : t = L
  ·
   have := cyc_len (c := (List.range L).map (rot v L m))
   rw [lc] at this
   rw [e1, this, gc 0 jj, rL]
  ·
   rw [cyc_lt jj, gc t jj]
 ·
  by_cases h1 : m ≤ t
  ·
   refine ⟨t - m, by omega, ?_⟩
   rw [gc _ jj]
   unfold rot
   rw [Nat.sub_add_cancel h1, Nat.mod_eq_of_lt ht]
  ·
   refine ⟨t + L - m, by omega, ?_⟩
   rw [gc _ jj]
   unfold rot
   rw [show t + L - m + m = t + L by omega, Nat.add_mod_right, Nat.mod_eq_of_lt ht]
theorem closed_cases {v : Nat → Nat} {L : Nat} :
  (∀ s t, s < L → t < L → v s = v t → s = t) ∨ ∃ p d r, L = p + d + r ∧ 1 ≤ d ∧ 1 ≤ p + r ∧ v p = v (p + d) := by
 by_cases hd : ∀ s t, s < L → t < L → v s = v t → s = t
 ·
  exact .inl hd
 ·
  right
  have : ∃ s t, s < t ∧ t < L ∧ v s = v t := by
   by_cases h1 : ∃ s t, s < t ∧ t < L ∧ v s = v t
   ·
    exact h1
   ·
    exfalso
    apply hd
    intro s t hs ht he
    by_cases h2 : s < t
    ·
     exact absurd ⟨s, t, h2, ht, he⟩ h1
    ·
     by_cases h3 : t < s
     ·
      exact absurd ⟨t, s, h3, hs, he.symm⟩ h1
     ·
      omega
  obtain ⟨s, t, hst, ht, he⟩ := this
  exact ⟨s, t - s, L - t, by omega, by omega, by omega, by rw [show s + (t - s) = t by omega]; exact he⟩
theorem mean_le {num den : Int} (hc : ∀ c, Cy n a c → wt a (cyc c) c.length * den ≤ num * (c.length : Nat)) : ∀ (L : Nat) (v : Nat → Nat), Wk n a v L → v 0 = v L → wt a v L * den ≤ num * (L : Nat) := by
 intro L
 induction L using Nat.strongRecOn with
 | ind L ih =>
  intro v h e
  by_cases h0 : L = 0
  ·
   subst h0; simp [wt]
  rcases closed_cases (v := v) (L := L) with hd | ⟨p, d, r, rfl, hd1, hpr, ev⟩
  ·
   obtain ⟨c, hcy, hl, hw, _⟩ := cy_of h jj e hd
   have := hc c hcy
   rwa [hl, hw] at this
  ·
   have hm : Wk n a (fun t => v (t + p)) d := Wk.shift (h.left jj)
   have h1 := ih (p + r) jj (cutw v p d) (cutw_wk h ev) (by rw [cutw_zero, cutw_end ev]; exact e)
   have h2 := ih d jj (fun t => v (t + p)) hm (by show v (0 + p) = v (d + p); rw [Nat.zero_add, Nat.add_comm d p]; exact ev)
   rw [cutw_wt ev, Int.add_mul, show ((p + d + r : Nat) : Int) = ((p + r : Nat) : Int) + ((d : Nat) : Int) by omega, Int.mul_add]
   omega
theorem mean_at {num den : Int} (hc : ∀ c, Cy n a c → wt a (cyc c) c.length * den ≤ num * (c.length : Nat)) : ∀ (L : Nat) (v : Nat → Nat), Wk n a v L → v 0 = v L → wt a v L * den = num * (L : Nat) → ∀ t, t < L → ∃ c, Cy n a c ∧ wt a (cyc c) c.length * den = num * (c.length : Nat) ∧ c.length ≤ L ∧ ∃ s, s < c.length ∧ c.getD s 0 = v t := by
 intro L
 induction L using Nat.strongRecOn with
 | ind L ih =>
  intro v h e hz t ht
  rcases closed_cases (v := v) (L := L) with hd | ⟨p, d, r, rfl, hd1, hpr, ev⟩
  ·
   obtain ⟨c, hcy, hl, hw, hmem⟩ := cy_of h jj e hd
   obtain ⟨s, hs, hs2⟩ := hmem t ht
   exact ⟨c, hcy, by rw [hl, hw]; exact hz, by omega, s, by omega, hs2⟩
  ·
   have hm : Wk n a (fun t => v (t + p)) d := Wk.shift (h.left jj)
   have em : v (0 + p) = v (d + p) := by rw [Nat.zero_add, Nat.add_comm d p]; exact ev
   have ek : cutw v p d 0 = cutw v p d (p + r) := by rw [cutw_zero, cutw_end ev]; exact e
   have hk := cutw_wk h ev
   have h1 := mean_le hc (p + r) (cutw v p d) hk ek
   have h2 := mean_le hc d (fun t => v (t + p)) hm em
   have h3 : wt a v (p + d + r) * den = wt a (cutw v p d) (p + r) * den + wt a (fun t => v (t + p)) d * den := by rw [cutw_wt ev, Int.add_mul]
   have h4 : num * ((p + d + r : Nat) : Int) = num * ((p + r : Nat) : Int) + num * ((d : Nat) : Int) := by rw [show ((p + d + r : Nat) : Int) = ((p + r : Nat) : Int) + ((d : Nat) : Int) by omega, Int.mul_add]
   have lenle : ∀ {x : Nat}, x < p + d + r → ∀ {u : Nat → Nat}, (∃ c, Cy n a c ∧ wt a (cyc c) c.length * den = num * (c.length : Nat) ∧ c.length ≤ x ∧ ∃ s, s < c.length ∧ c.getD s 0 = v t) → ∃ c, Cy n a c ∧ wt a (cyc c) c.length * den = num * (c.length : Nat) ∧ c.length ≤ p + d + r ∧ ∃ s, s < c.length ∧ c.getD s 0 = v t := by
    rintro x hx u ⟨c, h1, h2, h3, h4⟩
    exact ⟨c, h1, h2, by omega, h4⟩
   by_cases t1 : t < p
   ·
    have := ih (p + r) jj (cutw v p d) hk ek jj t jj
    rw [show cutw v p d t = v t from jh] at this
    exact lenle jj (u := v) this
   ·
    by_cases t2 : t < p + d
    ·
     have := ih d jj (fun t => v (t + p)) hm em jj (t - p) jj
     simp only [show t - p + p = t by omega] at this
     exact lenle jj (u := v) this
    ·
     by_cases r0 : t = p + d
     ·
      have := ih d jj (fun t => v (t + p)) hm em jj 0 jj
      simp only [Nat.zero_add] at this
      rw [ev, ← r0] at this
      exact lenle jj (u := v) this
     ·
      have := ih (p + r) jj (cutw v p d) hk ek jj (t - d) jj
      rw [show cutw v p d (t - d) = v t by unfold cutw; rw [ji]; congr 1; omega] at this
      exact lenle jj (u := v) this
end
end Go.Proofs.Ythjmfbmffchicaa.Mp
end
section
namespace Go.Proofs.Ythjmfbmffchicaa.Pure
open Go.RowKit Go.Proofs.Ythjmfbmffchicaa.V Go.Proofs.YthjmfbmffchicaaW.PrintWords Go.Proofs.YthjmfbmffchicaaW.PrintLast Go.Proofs.YthjmfbmffchicaaW.PrintMore Go.Proofs.Ythjmfbmffchicaa.Mp
theorem wr {x : Int} (h : -9223372036854775808 ≤ x) (h' : x ≤ 9223372036854775807) : wrap64 x = x := by unfold wrap64; omega
theorem wr1 (i : Nat) (h : i < 9223372036854775807) : wrap64 ((i : Int) + 1) = ((i + 1 : Nat) : Int) := by unfold wrap64; omega
theorem rdL (xs : List (List Int)) (i : Nat) : rd_L1 xs (i : Int) = xs.getD i [] := rfl
theorem rdI (xs : List Int) (i : Nat) : rd xs (i : Int) = xs.getD i 0 := rfl
theorem toN (i : Nat) : ((i : Int)).toNat = i := rfl
theorem mx_max (a b : Int) : mx a b = max a b := by unfold mx; split <;> omega
theorem ev_now {α : Type} {g : Nat → Option α} {r : α} (h : ∀ k, g (k + 1) = some r) : Ev g r := Ev.step (f := fun _ => some r) h (Ev.now r)
theorem ev_some {α : Type} {g : Nat → Option α} {r : α} (h : ∀ k, g k = some r) : Ev g r := Ev.congr h (Ev.now r)
theorem both_f {M N a b : Int} (ha : Bd M a) (hb : Bd N b) (h : M + N < 1152921504606846976) (hM : 0 ≤ M) (hN : 0 ≤ N) : line_both_int.f a b = some (pl a b) := by
 unfold line_both_int.f line_never_int.f pl NEV
 simp only [Option.bind_some]
 split
 ·
  rfl
 ·
  split
  ·
   rfl
  ·
   unfold Bd NEV at ha hb
   rw [wr jj jj]
def part (n : Nat) (f : Nat → Nat → Int) (i : Nat) : List (List Int) := (List.range n).map fun a => if a < i then vec n (f a) else []
def part2 (n : Nat) (f : Nat → Nat → Int) (i j : Nat) : List (List Int) := (List.range n).map fun a => if a < i then vec n (f a) else if a = i then vec n (fun b => if b < j then f i b else 0) else []
theorem range_map_set {α : Type} (n : Nat) (g g' : Nat → α) (i : Nat) (v : α) (hv : i < n → g' i = v) (hg : ∀ a, a < n → a ≠ i → g' a = g a) : ((List.range n).map g).set i v = (List.range n).map g' := by
 apply List.ext_getElem
 ·
  simp
 ·
  intro a h1 h2
  have ha : a < n := by simpa using h2
  by_cases e : a = i
  ·
   subst e; simp [hv ha]
  ·
   rw [List.getElem_set_ne jj]; simp [hg a ha e]
theorem part_length (n : Nat) (f : Nat → Nat → Int) (i : Nat) : (part n f i).length = n := by simp [part]
theorem part2_length (n : Nat) (f : Nat → Nat → Int) (i j : Nat) : (part2 n f i j).length = n := by simp [part2]
theorem part_zero (n : Nat) (f : Nat → Nat → Int) : List.replicate n [] = part n f 0 := by
 unfold part
 apply List.ext_getElem <;> simp
theorem part_all (n : Nat) (f : Nat → Nat → Int) : part n f n = mat n f := by
 unfold part mat vec
 exact List.map_congr_left fun a ha => by rw [if_pos (by simpa using ha)]
theorem part_open (n : Nat) (f : Nat → Nat → Int) (i : Nat) (_hi : i < n) : (part n f i).set i (List.replicate n 0) = part2 n f i 0 := by
 refine range_map_set n _ _ i _ (fun _ => ?_) (fun a _ ha => ?_)
 ·
  rw [ji, if_pos rfl]
  unfold vec
  apply List.ext_getElem <;> simp
 ·
  by_cases h : a < i
  ·
   rw [if_pos h, if_pos h]
  ·
   rw [if_neg h, if_neg h, if_neg ha]
theorem part2_get (n : Nat) (f : Nat → Nat → Int) (i j : Nat) (hi : i < n) : (part2 n f i j).getD i [] = vec n (fun b => if b < j then f i b else 0) := by
 simp [part2, List.getD_eq_getElem?_getD, List.getElem?_range hi]
theorem part2_set (n : Nat) (f : Nat → Nat → Int) (i j : Nat) (hi : i < n) (_hj : j < n) : (part2 n f i j).set i (((part2 n f i j).getD i []).set j (f i j)) = part2 n f i (j + 1) := by
 rw [part2_get n f i j hi]
 refine range_map_set n _ _ i _ (fun _ => ?_) (fun a _ ha => ?_)
 ·
  rw [ji, if_pos rfl]
  refine (range_map_set n _ _ j _ (fun _ => ?_) (fun b _ hb => ?_)).symm
  ·
   rw [jh]
  ·
   by_cases h : b < j
   ·
    rw [if_pos h, jh]
   ·
    rw [if_neg h, ji]
 ·
  by_cases h : a < i
  ·
   rw [if_pos h, if_pos h]
  ·
   rw [if_neg h, if_neg h, if_neg ha, if_neg ha]
theorem part2_skip (n : Nat) (f : Nat → Nat → Int) (i j : Nat) (h0 : f i j = 0) : part2 n f i j = part2 n f i (j + 1) := by
 unfold part2
 refine List.map_congr_left fun a _ => ?_
 by_cases h : a < i
 ·
  rw [if_pos h, if_pos h]
 ·
  rw [if_neg h, if_neg h]
  by_cases e : a = i
  ·
   rw [if_pos e, if_pos e]
   refine vec_congr fun b _ => ?_
   by_cases h : b < j
   ·
    rw [if_pos h, jh]
   ·
    by_cases e2 : b = j
    ·
     subst e2; rw [if_neg h, jh, h0]
    ·
     rw [if_neg h, ji]
  ·
   rw [if_neg e, if_neg e]
theorem part2_all (n : Nat) (f : Nat → Nat → Int) (i : Nat) : part2 n f i n = part n f (i + 1) := by
 unfold part2 part
 refine List.map_congr_left fun a ha => ?_
 have ha' : a < n := by simpa using ha
 by_cases h : a < i
 ·
  rw [if_pos h, jh]
 ·
  by_cases e : a = i
  ·
   subst e
   rw [if_neg h, if_pos rfl, jh]
   exact vec_congr fun b hb => by rw [if_pos hb]
  ·
   rw [if_neg h, if_neg e, ji]
theorem one_l1 (n : Nat) (hn : n ≤ 1000) (i : Nat) (hi : i < n) (r : List (List Int))
  (hr : Ev (fun k => line_one_int.l0 k (n : Int) (part n onef (i + 1)) (n : Int) ((i + 1 : Nat) : Int)) r) :
  ∀ d j, j + d = n → Ev (fun k => line_one_int.l1 k (n : Int) (part2 n onef i j) (i : Int) (n : Int) (i : Int) (n : Int) (j : Int)) r := by
 intro d
 induction d with
 | zero =>
  intro j hj
  refine Ev.step (f := fun k => line_one_int.l0 k (n : Int) (part n onef (i + 1)) (n : Int) ((i + 1 : Nat) : Int)) (fun k => ?_) hr
  simp only [line_one_int.l1]
  rw [ji, wr1 i jj, show j = n by omega, part2_all]
 | succ d ih =>
  intro j hj
  refine Ev.step (f := fun k => line_one_int.l1 k (n : Int) (part2 n onef i (j + 1)) (i : Int) (n : Int) (i : Int) (n : Int) ((j + 1 : Nat) : Int)) (fun k => ?_) (ih (j + 1) jj)
  simp only [line_one_int.l1]
  rw [jh, wr1 j jj]
  by_cases e : i = j
  ·
   subst e
   rw [if_pos rfl, part2_skip n onef i i (by unfold onef; rw [if_pos rfl])]
  ·
   rw [ji, jh, part2_length, jh]
   unfold line_never_int.f
   simp only [Option.bind_some]
   rw [jh, rdL, part2_get n onef i j hi, yB, jh, toN, toN]
   have h := part2_set n onef i j hi jj
   rw [part2_get n onef i j hi, show onef i j = -1152921504606846976 by unfold onef; rw [if_neg e]; rfl] at h
   rw [h]
theorem one_l0 (n : Nat) (hn : n ≤ 1000) : ∀ d i, i + d = n → Ev (fun k => line_one_int.l0 k (n : Int) (part n onef i) (n : Int) (i : Int)) (mat n onef) := by
 intro d
 induction d with
 | zero =>
  intro i hi
  refine ev_now (fun k => ?_)
  simp only [line_one_int.l0]
  rw [ji, show i = n by omega, part_all]
 | succ d ih =>
  intro i hi
  refine Ev.step (f := fun k => line_one_int.l1 k (n : Int) (part2 n onef i 0) (i : Int) (n : Int) (i : Int) (n : Int) ((0 : Nat) : Int)) (fun k => ?_) (one_l1 n hn i jj _ (ih (i + 1) jj) n 0 jj)
  simp only [line_one_int.l0]
  rw [jh, jh, toN, jh, jh, part_length, jh, toN, part_open n onef i jj]
  rfl
theorem one_f (n : Nat) (hn : n ≤ 1000) : Ev (fun k => line_one_int.f k (n : Int)) (mat n onef) := by
 refine Ev.congr (fun k => ?_) (one_l0 n hn n 0 jj)
 unfold line_one_int.f
 rw [jh, toN, jh, part_zero n onef]
 rfl
section
variable {n : Nat} {M N : Int} {A B : List (List Int)}
theorem times_l2 (hn : n ≤ 1000) (hA : IsMat n A) (hB : IsMat n B) (ha : BdM n n M (ent A)) (hb : BdM n n N (ent B)) (hMN : M + N < 1152921504606846976) (hM : 0 ≤ M) (hN : 0 ≤ N) (i j : Nat) (hi : i < n) (hj : j < n) (r : List (List Int))
  (hr : Ev (fun k => lgtimes.l1 k A B (part2 n (mulf n (ent A) (ent B)) i (j + 1)) (i : Int) (n : Int) (i : Int) (n : Int) ((j + 1 : Nat) : Int)) r) :
  ∀ d q, q + d = n → Ev (fun k => lgtimes.l2 k A B (part2 n (mulf n (ent A) (ent B)) i j) (i : Int) (j : Int) (sup (fun k => pl (ent A i k) (ent B k j)) q) (n : Int) (i : Int) (n : Int) (j : Int) (n : Int) (q : Int)) r := by
 intro d
 induction d with
 | zero =>
  intro q hq
  obtain rfl : q = n := by omega
  refine Ev.step (f := fun k => lgtimes.l1 k A B (part2 q (mulf q (ent A) (ent B)) i (j + 1)) (i : Int) (q : Int) (i : Int) (q : Int) ((j + 1 : Nat) : Int)) (fun k => ?_) hr
  simp only [lgtimes.l2]
  rw [ji, jh, part2_length, jh, jh, rdL, part2_get q _ i j hi, yB, jh, wr1 j jj, toN, toN]
  have h := part2_set q (mulf q (ent A) (ent B)) i j hi hj
  rw [part2_get q _ i j hi] at h
  rw [← h]
  rfl
 | succ d ih =>
  intro q hq
  refine Ev.step (f := fun k => lgtimes.l2 k A B (part2 n (mulf n (ent A) (ent B)) i j) (i : Int) (j : Int) (sup (fun k => pl (ent A i k) (ent B k j)) (q + 1)) (n : Int) (i : Int) (n : Int) (j : Int) (n : Int) ((q + 1 : Nat) : Int)) (fun k => ?_) (ih (q + 1) jj)
  simp only [lgtimes.l2]
  rw [jh, jh, hA.1, jh, jh, rdL, hA.2 i hi, jh, hB.1, jh, jh, rdL, hB.2 q jj, jh, rdI, rdI]
  have h := both_f (ha i q hi jj) (hb q j jj hj) hMN hM hN
  unfold ent at h
  rw [h]
  simp only [Option.bind_some]
  rw [wr1 q jj, mx_max]
  rfl
theorem times_l1 (hn : n ≤ 1000) (hA : IsMat n A) (hB : IsMat n B) (ha : BdM n n M (ent A)) (hb : BdM n n N (ent B)) (hMN : M + N < 1152921504606846976) (hM : 0 ≤ M) (hN : 0 ≤ N) (i : Nat) (hi : i < n) (r : List (List Int))
  (hr : Ev (fun k => lgtimes.l0 k A B (part n (mulf n (ent A) (ent B)) (i + 1)) (n : Int) ((i + 1 : Nat) : Int)) r) :
  ∀ d j, j + d = n → Ev (fun k => lgtimes.l1 k A B (part2 n (mulf n (ent A) (ent B)) i j) (i : Int) (n : Int) (i : Int) (n : Int) (j : Int)) r := by
 intro d
 induction d with
 | zero =>
  intro j hj
  refine Ev.step (f := fun k => lgtimes.l0 k A B (part n (mulf n (ent A) (ent B)) (i + 1)) (n : Int) ((i + 1 : Nat) : Int)) (fun k => ?_) hr
  simp only [lgtimes.l1]
  rw [ji, wr1 i jj, show j = n by omega, part2_all]
 | succ d ih =>
  intro j hj
  refine Ev.step (f := fun k => lgtimes.l2 k A B (part2 n (mulf n (ent A) (ent B)) i j) (i : Int) (j : Int) (sup (fun k => pl (ent A i k) (ent B k j)) 0) (n : Int) (i : Int) (n : Int) (j : Int) (n : Int) ((0 : Nat) : Int)) (fun k => ?_) (times_l2 hn hA hB ha hb hMN hM hN i j hi jj r (ih (j + 1) jj) n 0 jj)
  simp only [lgtimes.l1]
  rw [jh]
  unfold line_never_int.f
  simp only [Option.bind_some]
  rw [hA.1]
  rfl
theorem times_l0 (hn : n ≤ 1000) (hA : IsMat n A) (hB : IsMat n B) (ha : BdM n n M (ent A)) (hb : BdM n n N (ent B)) (hMN : M + N < 1152921504606846976) (hM : 0 ≤ M) (hN : 0 ≤ N) :
  ∀ d i, i + d = n → Ev (fun k => lgtimes.l0 k A B (part n (mulf n (ent A) (ent B)) i) (n : Int) (i : Int)) (mat n (mulf n (ent A) (ent B))) := by
 intro d
 induction d with
 | zero =>
  intro i hi
  refine ev_now (fun k => ?_)
  simp only [lgtimes.l0]
  rw [ji, show i = n by omega, part_all]
 | succ d ih =>
  intro i hi
  refine Ev.step (f := fun k => lgtimes.l1 k A B (part2 n (mulf n (ent A) (ent B)) i 0) (i : Int) (n : Int) (i : Int) (n : Int) ((0 : Nat) : Int)) (fun k => ?_) (times_l1 hn hA hB ha hb hMN hM hN i jj _ (ih (i + 1) jj) n 0 jj)
  simp only [lgtimes.l0]
  rw [jh, hA.1, jh, toN, jh, jh, part_length, jh, toN, part_open n _ i jj]
  rfl
theorem times_f (hn : n ≤ 1000) (hA : IsMat n A) (hB : IsMat n B) (ha : BdM n n M (ent A)) (hb : BdM n n N (ent B)) (hMN : M + N < 1152921504606846976) (hM : 0 ≤ M) (hN : 0 ≤ N) :
  Ev (fun k => lgtimes.f k A B) (mat n (mulf n (ent A) (ent B))) := by
 refine Ev.congr (fun k => ?_) (times_l0 hn hA hB ha hb hMN hM hN n 0 jj)
 unfold lgtimes.f
 rw [hA.1, jh, toN, jh, part_zero n (mulf n (ent A) (ent B))]
 rfl
end
theorem times_mat {n : Nat} (hn : n ≤ 1000) {M N : Int} {a b : Nat → Nat → Int} (ha : BdM n n M a) (hb : BdM n n N b) (hMN : M + N < 1152921504606846976) (hM : 0 ≤ M) (hN : 0 ≤ N) :
  Ev (fun k => lgtimes.f k (mat n a) (mat n b)) (mat n (mulf n a b)) := by
 have e : mat n (mulf n (ent (mat n a)) (ent (mat n b))) = mat n (mulf n a b) :=
  mat_congr fun i j hi hj => mul_congr (fun k hk => ent_mat a hi hk) (fun k hk => ent_mat b hk hj)
 rw [← e]
 exact times_f hn (isMat_mat n a) (isMat_mat n b) (fun i j hi hj => by rw [ent_mat a hi hj]; exact ha i j hi hj) (fun i j hi hj => by rw [ent_mat b hi hj]; exact hb i j hi hj) hMN hM hN
section
variable {n : Nat} {M : Int} {a : Nat → Nat → Int}
theorem mat_pow_mul (ha : BdM n n M a) (hM : 0 ≤ M) (j k : Nat) (hs : M * (j + k : Nat) < 1152921504606846976) : mat n (mulf n (powf n a j) (powf n a k)) = mat n (powf n a (j + k)) :=
 mat_congr fun _ _ hx hy => (pow_add ha hM j k hs hx hy).symm
theorem times_pow (hn : n ≤ 1000) (ha : BdM n n M a) (hM : 0 ≤ M) (j k : Nat) (hs : M * (j + k : Nat) < 1152921504606846976) :
  Ev (fun r => lgtimes.f r (mat n (powf n a j)) (mat n (powf n a k))) (mat n (powf n a (j + k))) := by
 rw [← mat_pow_mul ha hM j k hs]
 have e : M * ((j + k : Nat) : Int) = M * (j : Nat) + M * (k : Nat) := by
  rw [show ((j + k : Nat) : Int) = (j : Int) + (k : Int) by omega, Int.mul_add]
 exact times_mat hn (BdM.pow ha j) (BdM.pow ha k) jj (Int.mul_nonneg hM jj) (Int.mul_nonneg hM jj)
theorem tdiv2 (m : Nat) : Int.tdiv (m : Int) 2 = ((m / 2 : Nat) : Int) := by
 rw [Int.tdiv_eq_ediv_of_nonneg jj]; omega
theorem tmod2 (m : Nat) : Int.tmod (m : Int) 2 = ((m % 2 : Nat) : Int) := by
 rw [Int.tmod_eq_emod_of_nonneg jj]; omega
theorem mul_lt_of_le {M : Int} (hM : 0 ≤ M) {x y : Nat} (h : x ≤ y) (hs : M * (y : Nat) < 1152921504606846976) : M * (x : Nat) < 1152921504606846976 :=
 Int.lt_of_le_of_lt (Int.mul_le_mul_of_nonneg_left jj hM) hs
theorem power_l0 (hn : n ≤ 1000) (ha : BdM n n M a) (hM : 0 ≤ M) : ∀ m : Nat, m ≤ 9223372036854775807 → ∀ p q : Nat, M * (q + 2 * p * m : Nat) < 1152921504606846976 →
  Ev (fun r => lgpower.l0 r (mat n (powf n a p)) (m : Int) (mat n (powf n a q))) (mat n (powf n a (q + p * m))) := by
 intro m
 induction m using Nat.strongRecOn with
 | ind m ih =>
  intro hm p q hs
  by_cases h0 : m = 0
  ·
   subst h0
   refine ev_now (fun k => ?_)
   simp only [lgpower.l0]
   rw [ji]
   rfl
  ·
   have hw : wrap64 (Int.tdiv (m : Int) 2) = ((m / 2 : Nat) : Int) := by rw [tdiv2, wr jj jj]
   have hpm : 2 * p ≤ 2 * p * m := Nat.le_mul_of_pos_right _ jj
   by_cases ho : m % 2 = 1
   ·
    have hm2 : m = 2 * (m / 2) + 1 := by omega
    have e1 : 2 * p * m = 4 * (p * (m / 2)) + 2 * p := by rw [hm2]; rw [show (2 * (m / 2) + 1) / 2 = m / 2 by omega]; rw [Nat.mul_add, Nat.mul_one, Nat.mul_mul_mul_comm]
    have e3 : 2 * (2 * p) * (m / 2) = 4 * (p * (m / 2)) := by rw [← Nat.mul_assoc 2 2 p, Nat.mul_assoc]
    have e2 : q + p + 2 * p * (m / 2) = q + p * m := by
     have : p * m = p * (2 * (m / 2) + 1) := by rw [← hm2]
     rw [this, Nat.mul_add, Nat.mul_one, Nat.mul_assoc, Nat.mul_left_comm]; omega
    have s1 : M * ((q + p + 2 * (2 * p) * (m / 2) : Nat) : Int) < 1152921504606846976 := mul_lt_of_le hM jj hs
    have := ih (m / 2) jj jj (2 * p) (q + p) s1
    rw [e2] at this
    refine Ev.step (f := fun r => (lgtimes.f r (mat n (powf n a q)) (mat n (powf n a p))).bind fun t => (lgtimes.f r (mat n (powf n a p)) (mat n (powf n a p))).bind fun u => lgpower.l0 r u ((m / 2 : Nat) : Int) t) (fun k => ?_) ?_
    ·
     simp only [lgpower.l0]
     rw [jh, tmod2, jh, hw]
    ·
     refine Ev.bind (times_pow hn ha hM q p (mul_lt_of_le hM jj hs)) (Ev.bind (times_pow hn ha hM p p (mul_lt_of_le hM jj hs)) ?_)
     rw [show p + p = 2 * p by omega]
     exact this
   ·
    have hm2 : m = 2 * (m / 2) := by omega
    have e1 : 2 * p * m = 4 * (p * (m / 2)) := by rw [hm2]; rw [show (2 * (m / 2)) / 2 = m / 2 by omega, Nat.mul_mul_mul_comm]
    have e3 : 2 * (2 * p) * (m / 2) = 4 * (p * (m / 2)) := by rw [← Nat.mul_assoc 2 2 p, Nat.mul_assoc]
    have e2 : q + 2 * p * (m / 2) = q + p * m := by
     have : p * m = p * (2 * (m / 2)) := by rw [← hm2]
     rw [this, Nat.mul_assoc, Nat.mul_left_comm]
    have s1 : M * ((q + 2 * (2 * p) * (m / 2) : Nat) : Int) < 1152921504606846976 := mul_lt_of_le hM jj hs
    have := ih (m / 2) jj jj (2 * p) q s1
    rw [e2] at this
    refine Ev.step (f := fun r => (lgtimes.f r (mat n (powf n a p)) (mat n (powf n a p))).bind fun u => lgpower.l0 r u ((m / 2 : Nat) : Int) (mat n (powf n a q))) (fun k => ?_) ?_
    ·
     simp only [lgpower.l0]
     rw [jh, tmod2, ji, hw]
    ·
     refine Ev.bind (times_pow hn ha hM p p (mul_lt_of_le hM jj hs)) ?_
     rw [show p + p = 2 * p by omega]
     exact this
end
structure Arg (n : Nat) (A : List (List Int)) : Prop where
 is : IsMat n A
 one : 1 ≤ n
 six : n ≤ 6
 bd : BdM n n 1000 (ent A)
theorem pow_one {n : Nat} {A : List (List Int)} (h : Arg n A) : mat n (powf n (ent A) 1) = A := by
 conv => rhs; rw [← mat_ext h.is]
 exact mat_congr fun i j hi hj => one_mul h.bd jj hi hj
def vpart (n : Nat) (f : Nat → Int) (i : Nat) : List Int := vec n (fun a => if a < i then f a else 0)
theorem vpart_length (n : Nat) (f : Nat → Int) (i : Nat) : (vpart n f i).length = n := yB _ _
theorem vpart_set (n : Nat) (f : Nat → Int) (i : Nat) : (vpart n f i).set i (f i) = vpart n f (i + 1) := by
 refine range_map_set n _ _ i _ (fun _ => ?_) (fun b _ hb => ?_)
 ·
  rw [jh]
 ·
  by_cases h : b < i
  ·
   rw [if_pos h, jh]
  ·
   rw [if_neg h, ji]
section
variable {n : Nat} {M N : Int} {A : List (List Int)} {x : List Int}
end
theorem index_ev (L : Nat → List Int → Int → Int → Option Int) (g : Int → Option Bool) (p : Int → Bool) (hg : ∀ x, g x = some (p x))
  (hL : ∀ k x0 x7 x8, L (k + 1) x0 x7 x8 = if x8 < x7 then (if 0 ≤ x8 then (if x8 < (x0.length : Int) then ((g (rd x0 x8)).bind fun t => (if t = true then (some x8) else (L k x0 x7 (wrap64 (x8 + 1))))) else (none)) else (none)) else (some (-1)))
  (l : List Int) (hl : l.length ≤ 9223372036854775807) : ∀ d i, i + d = l.length → ∃ v : Int, Ev (fun k => L k l (l.length : Int) (i : Int)) v ∧ (0 ≤ v ↔ ∃ j, i ≤ j ∧ j < l.length ∧ p (l.getD j 0) = true) := by
 intro d
 induction d with
 | zero =>
  intro i hi
  refine ⟨-1, ev_now (fun k => ?_), ⟨fun h => by omega, fun ⟨j, h1, h2, _⟩ => by omega⟩⟩
  rw [hL, ji]
 | succ d ih =>
  intro i hi
  by_cases hp : p (l.getD i 0) = true
  ·
   refine ⟨i, ev_now (fun k => ?_), ⟨fun _ => ⟨i, by omega, by omega, hp⟩, fun _ => by omega⟩⟩
   rw [hL, jh, jh, jh, hg, rdI]
   simp only [Option.bind_some]
   rw [if_pos hp]
  ·
   obtain ⟨v, hv, hiff⟩ := ih (i + 1) jj
   refine ⟨v, Ev.step (f := fun k => L k l (l.length : Int) ((i + 1 : Nat) : Int)) (fun k => ?_) hv, ?_⟩
   ·
    rw [hL, jh, jh, jh, hg, rdI]
    simp only [Option.bind_some]
    rw [if_neg hp, wr1 i jj]
   ·
    rw [hiff]
    constructor
    ·
     rintro ⟨j, h1, h2, h3⟩; exact ⟨j, by omega, h2, h3⟩
    ·
     rintro ⟨j, h1, h2, h3⟩
     refine ⟨j, ?_, h2, h3⟩
     have : j ≠ i := fun e => hp (e ▸ h3)
     omega
def oddB (lo hi x : Int) : Bool := decide (x ≠ NEV ∧ (x < lo ∨ x > hi))
theorem odd_iff {lo hi x : Int} : oddB lo hi x = false ↔ (x = NEV ∨ (lo ≤ x ∧ x ≤ hi)) := by
 unfold oddB
 rw [decide_eq_false_iff_not]
 constructor
 ·
  intro h; by_cases e : x = NEV
  ·
   exact .inl e
  ·
   exact .inr jj
 ·
  intro h h'; rcases h with h | h
  ·
   exact h'.1 h
  ·
   omega
theorem of_1_f (x : Int) : line_of_1.f x = some (oddB (-1000) 1000 x) := by
 unfold line_of_1.f oddB NEV
 split
 ·
  simp_all
 ·
  split
  ·
   congr 1; symm; rw [decide_eq_true_iff]; omega
  ·
   congr 1; rw [decide_eq_decide]; omega
def AllIn (lo hi : Int) (l : List Int) : Prop := ∀ j, j < l.length → oddB lo hi (l.getD j 0) = false
theorem contains_of {g : Nat → Option Int} {v : Int} (hv : Ev g v) {lo hi : Int} {l : List Int} (hiff : 0 ≤ v ↔ ∃ j, 0 ≤ j ∧ j < l.length ∧ oddB lo hi (l.getD j 0) = true) :
  (AllIn lo hi l ∧ Ev (fun k => (g k).bind fun t => some (decide (t ≥ 0))) false) ∨ (¬ AllIn lo hi l ∧ Ev (fun k => (g k).bind fun t => some (decide (t ≥ 0))) true) := by
 by_cases h : 0 ≤ v
 ·
  obtain ⟨j, _, h2, h3⟩ := hiff.1 h
  refine .inr ⟨fun hh => (by rw [hh j h2] at h3; cases h3), Ev.bind hv ?_⟩
  exact ev_some (fun _ => by simp; omega)
 ·
  refine .inl ⟨fun j hj => ?_, Ev.bind hv (ev_some (fun _ => by simp; omega))⟩
  cases e : oddB lo hi (l.getD j 0) with
  | false => rfl
  | true => exact absurd (hiff.2 ⟨j, by omega, hj, e⟩) h
theorem contains_of_1 (l : List Int) (hl : l.length ≤ 9223372036854775807) :
  (AllIn (-1000) 1000 l ∧ Ev (fun k => scfof_1.f k l 0) false) ∨ (¬ AllIn (-1000) 1000 l ∧ Ev (fun k => scfof_1.f k l 0) true) := by
 obtain ⟨v, hv, hiff⟩ := index_ev sifof_1.l0 line_of_1.f _ of_1_f (fun _ _ _ _ => rfl) l hl l.length 0 jj
 exact contains_of hv hiff
def Rows (A : List (List Int)) : Prop := ∀ i, i < A.length → (A.getD i []).length ≤ 9223372036854775807
def RowsOk (A : List (List Int)) (i : Nat) : Prop := ∀ j, i ≤ j → j < A.length → (A.getD j []).length = A.length ∧ AllIn (-1000) 1000 (A.getD j [])
theorem of_l0 (A : List (List Int)) (hA : Rows A) (hl : A.length ≤ 6) : ∀ d i, i + d = A.length →
  (RowsOk A i ∧ Ev (fun k => line_of.l0 k A A (A.length : Int) (i : Int)) (A, true)) ∨ (¬ RowsOk A i ∧ Ev (fun k => line_of.l0 k A A (A.length : Int) (i : Int)) ([], false)) := by
 intro d
 induction d with
 | zero =>
  intro i hi
  refine .inl ⟨fun j h1 h2 => by omega, ev_now (fun k => ?_)⟩
  simp only [line_of.l0]
  rw [ji]
 | succ d ih =>
  intro i hi
  by_cases hr : (A.getD i []).length = A.length
  ·
   rcases contains_of_1 (A.getD i []) (hA i jj) with ⟨ha, he⟩ | ⟨ha, he⟩
   ·
    have step : ∀ k, line_of.l0 (k + 1) A A (A.length : Int) (i : Int) = (scfof_1.f k (A.getD i []) 0).bind fun t => if t = true then some ([], false) else line_of.l0 k A A (A.length : Int) ((i + 1 : Nat) : Int) := by
     intro k
     simp only [line_of.l0]
     rw [jh, jh, jh, rdL, jh, wr1 i jj]
    rcases ih (i + 1) jj with ⟨h1, h2⟩ | ⟨h1, h2⟩
    ·
     refine .inl ⟨fun j hj hj2 => ?_, Ev.step step (Ev.bind he (Ev.congr (fun k => if_neg (by decide)) h2))⟩
     by_cases e : j = i
     ·
      subst e; exact ⟨hr, ha⟩
     ·
      exact h1 j jj hj2
    ·
     exact .inr ⟨fun hh => h1 fun j hj hj2 => hh j jj hj2, Ev.step step (Ev.bind he (Ev.congr (fun k => if_neg (by decide)) h2))⟩
   ·
    refine .inr ⟨fun hh => ha (hh i jj jj).2, Ev.step (f := fun k => (scfof_1.f k (A.getD i []) 0).bind fun t => if t = true then some ([], false) else line_of.l0 k A A (A.length : Int) ((i + 1 : Nat) : Int)) (fun k => ?_) (Ev.bind he (ev_some fun k => if_pos rfl))⟩
    simp only [line_of.l0]
    rw [jh, jh, jh, rdL, jh, wr1 i jj]
  ·
   refine .inr ⟨fun hh => hr (hh i jj jj).1, ev_now (fun k => ?_)⟩
   simp only [line_of.l0]
   rw [jh, jh, jh, rdL, ji]
theorem arg_iff (A : List (List Int)) : (∃ n, Arg n A) ↔ 1 ≤ A.length ∧ A.length ≤ 6 ∧ RowsOk A 0 := by
 constructor
 ·
  rintro ⟨n, h⟩
  have e := h.is.1
  have h1 := h.one
  have h6 := h.six
  refine ⟨by omega, by omega, fun j _ hj => ⟨by rw [h.is.2 j jj, e], fun q hq => ?_⟩⟩
  rw [h.is.2 j jj] at hq
  exact odd_iff.2 (h.bd j q jj hq)
 ·
  rintro ⟨h1, h6, hr⟩
  refine ⟨A.length, ⟨rfl, fun i hi => (hr i jj hi).1⟩, h1, h6, fun i j hi hj => ?_⟩
  exact odd_iff.1 ((hr i jj hi).2 j (by rw [(hr i jj hi).1]; exact hj))
theorem of_f (A : List (List Int)) (hA : Rows A) : ((∃ n, Arg n A) ∧ Ev (fun k => line_of.f k A) (A, true)) ∨ ((¬ ∃ n, Arg n A) ∧ Ev (fun k => line_of.f k A) ([], false)) := by
 rw [arg_iff]
 have no : ∀ k, line_of.j0 (k + 1) A true = some ([], false) := fun k => by simp only [line_of.j0]; rw [if_pos (by decide)]
 by_cases h1 : 1 ≤ A.length
 ·
  by_cases h6 : A.length ≤ 6
  ·
   have step : ∀ k, line_of.f (k + 1) A = line_of.l0 k A A (A.length : Int) ((0 : Nat) : Int) := fun k => by
    unfold line_of.f
    rw [ji, show decide ((A.length : Int) > 6) = false by rw [decide_eq_false_iff_not]; omega]
    simp only [line_of.j0]
    rw [if_neg (by decide)]
    rfl
   rcases of_l0 A hA h6 A.length 0 jj with ⟨h, he⟩ | ⟨h, he⟩
   ·
    exact .inl ⟨⟨h1, h6, h⟩, Ev.step step he⟩
   ·
    exact .inr ⟨fun hh => h hh.2.2, Ev.step step he⟩
  ·
   refine .inr ⟨fun hh => h6 hh.2.1, ev_now (fun k => ?_)⟩
   unfold line_of.f
   rw [ji, show decide ((A.length : Int) > 6) = true by rw [decide_eq_true_iff]; omega]
   exact no k
 ·
  refine .inr ⟨fun hh => h1 hh.1, ev_now (fun k => ?_)⟩
  unfold line_of.f
  rw [jh]
  exact no k
theorem few_l0 (A : List (List Int)) : ∀ d i : Nat, i + d = 20 → ∃ b, Ev (fun k => l5few.l0 k A (i : Int)) b ∧ (b = true → A.length ≤ 20 ∧ ∀ j, i ≤ j → j < A.length → (A.getD j []).length ≤ 20) := by
 intro d
 induction d with
 | zero =>
  intro i hi
  by_cases h : i < A.length
  ·
   refine ⟨false, ev_now (fun k => ?_), fun h => by cases h⟩
   simp only [l5few.l0]
   rw [jh, jh]
  ·
   refine ⟨true, ev_now (fun k => ?_), fun _ => ⟨by omega, fun j h1 h2 => by omega⟩⟩
   simp only [l5few.l0]
   rw [ji]
 | succ d ih =>
  intro i hi
  by_cases h : i < A.length
  ·
   by_cases hr : (A.getD i []).length ≤ 20
   ·
    obtain ⟨b, hb, hbt⟩ := ih (i + 1) jj
    refine ⟨b, Ev.step (f := fun k => l5few.l0 k A ((i + 1 : Nat) : Int)) (fun k => ?_) hb, fun e => ⟨(hbt e).1, fun j h1 h2 => ?_⟩⟩
    ·
     simp only [l5few.l0]
     rw [jh, ji, jh, rdL, ji, wr1 i jj]
    ·
     by_cases e2 : j = i
     ·
      subst e2; exact hr
     ·
      exact (hbt e).2 j jj h2
   ·
    refine ⟨false, ev_now (fun k => ?_), fun h => by cases h⟩
    simp only [l5few.l0]
    rw [jh, ji, jh, rdL, jh]
  ·
   refine ⟨true, ev_now (fun k => ?_), fun _ => ⟨by omega, fun j h1 h2 => by omega⟩⟩
   simp only [l5few.l0]
   rw [ji]
theorem few_f (A : List (List Int)) : ∃ b, Ev (fun k => l5few.f k A) b ∧ (b = true → A.length ≤ 20 ∧ ∀ j, j < A.length → (A.getD j []).length ≤ 20) := by
 obtain ⟨b, hb, h⟩ := few_l0 A 20 0 jj
 exact ⟨b, hb, fun e => ⟨(h e).1, fun j hj => (h e).2 j jj hj⟩⟩
theorem same_l0 (x : List Int) (hx : x.length ≤ 9223372036854775807) : ∀ d i, i + d = x.length → Ev (fun k => l5same.l0 k x x (i : Int)) true := by
 intro d
 induction d with
 | zero =>
  intro i hi
  refine ev_now (fun k => ?_)
  simp only [l5same.l0]
  rw [ji]
 | succ d ih =>
  intro i hi
  refine Ev.step (f := fun k => l5same.l0 k x x ((i + 1 : Nat) : Int)) (fun k => ?_) (ih (i + 1) jj)
  simp only [l5same.l0]
  rw [jh, jh, jh, if_pos trivial, wr1 i jj]
theorem same_f (x : List Int) (hx : x.length ≤ 9223372036854775807) : Ev (fun k => l5same.f k x x) true := by
 unfold l5same.f
 exact Ev.congr (fun k => if_pos rfl) (same_l0 x hx x.length 0 jj)
theorem rows_l0 (A : List (List Int)) (hA : A.length ≤ 9223372036854775807) (hr : Rows A) : ∀ d i, i + d = A.length → Ev (fun k => l5rows.l0 k A A (i : Int)) true := by
 intro d
 induction d with
 | zero =>
  intro i hi
  refine ev_now (fun k => ?_)
  simp only [l5rows.l0]
  rw [ji]
 | succ d ih =>
  intro i hi
  refine Ev.step (f := fun k => (l5same.f k (A.getD i []) (A.getD i [])).bind fun t => if t = true then l5rows.l0 k A A ((i + 1 : Nat) : Int) else some false) (fun k => ?_) (Ev.bind (same_f (A.getD i []) (hr i jj)) (Ev.congr (fun k => if_pos rfl) (ih (i + 1) jj)))
  simp only [l5rows.l0]
  rw [jh, jh, jh, rdL, wr1 i jj]
theorem rows_f (A : List (List Int)) (hA : A.length ≤ 9223372036854775807) (hr : Rows A) : Ev (fun k => l5rows.f k A A) true := by
 unfold l5rows.f
 exact Ev.congr (fun k => if_pos rfl) (rows_l0 A hA hr A.length 0 jj)
section
variable {n : Nat} {A : List (List Int)}
end
theorem plus_f {M N a b : Int} (ha : Bd M a) (hb : Bd N b) (h : M + N < 1152921504606846976) (hM : 0 ≤ M) (hN : 0 ≤ N) : l5plus.f a b = some (pl a b) := by
 unfold l5plus.f pl NEV
 split
 ·
  rfl
 ·
  split
  ·
   rfl
  ·
   unfold Bd NEV at ha hb
   rw [wr jj jj]
section
variable {n : Nat} {M N : Int} {A B : List (List Int)}
theorem vec_succ (f : Nat → Int) (j : Nat) : vec j f ++ [f j] = vec (j + 1) f := by simp [vec, List.range_succ]
theorem rowsof_succ (n : Nat) (f : Nat → Nat → Int) (i : Nat) : ((List.range i).map fun a => vec n (f a)) ++ [vec n (f i)] = (List.range (i + 1)).map fun a => vec n (f a) := by simp [List.range_succ]
theorem product_l2 (hn : n ≤ 1000) (hA : IsMat n A) (hB : IsMat n B) (ha : BdM n n M (ent A)) (hb : BdM n n N (ent B)) (hMN : M + N < 1152921504606846976) (hM : 0 ≤ M) (hN : 0 ≤ N) (i j : Nat) (hi : i < n) (hj : j < n) (out : List (List Int)) (r : List (List Int))
  (hr : Ev (fun k => l5product.l1 k A B out (i : Int) (vec (j + 1) (mulf n (ent A) (ent B) i)) ((j + 1 : Nat) : Int)) r) :
  ∀ d q, q + d = n → Ev (fun k => l5product.l2 k A B out (i : Int) (vec j (mulf n (ent A) (ent B) i)) (j : Int) (sup (fun k => pl (ent A i k) (ent B k j)) q) (q : Int)) r := by
 intro d
 induction d with
 | zero =>
  intro q hq
  obtain rfl : q = n := by omega
  refine Ev.step (f := fun k => l5product.l1 k A B out (i : Int) (vec (j + 1) (mulf q (ent A) (ent B) i)) ((j + 1 : Nat) : Int)) (fun k => ?_) hr
  simp only [l5product.l2]
  rw [hA.1, ji, yB, jh, wr1 j jj, ← vec_succ]
  rfl
 | succ d ih =>
  intro q hq
  refine Ev.step (f := fun k => l5product.l2 k A B out (i : Int) (vec j (mulf n (ent A) (ent B) i)) (j : Int) (sup (fun k => pl (ent A i k) (ent B k j)) (q + 1)) ((q + 1 : Nat) : Int)) (fun k => ?_) (ih (q + 1) jj)
  simp only [l5product.l2]
  rw [hA.1, jh, jh, jh, jh, rdL, hA.2 i hi, jh, hB.1, jh, jh, rdL, hB.2 q jj, jh, rdI, rdI]
  have h := plus_f (ha i q hi jj) (hb q j jj hj) hMN hM hN
  unfold ent at h
  rw [h]
  simp only [Option.bind_some]
  rw [wr1 q jj, mx_max]
  rfl
theorem product_l1 (hn : n ≤ 1000) (hA : IsMat n A) (hB : IsMat n B) (ha : BdM n n M (ent A)) (hb : BdM n n N (ent B)) (hMN : M + N < 1152921504606846976) (hM : 0 ≤ M) (hN : 0 ≤ N) (i : Nat) (hi : i < n) (r : List (List Int))
  (hr : Ev (fun k => l5product.l0 k A B ((List.range (i + 1)).map fun a => vec n (mulf n (ent A) (ent B) a)) ((i + 1 : Nat) : Int)) r) :
  ∀ d j, j + d = n → Ev (fun k => l5product.l1 k A B ((List.range i).map fun a => vec n (mulf n (ent A) (ent B) a)) (i : Int) (vec j (mulf n (ent A) (ent B) i)) (j : Int)) r := by
 intro d
 induction d with
 | zero =>
  intro j hj
  obtain rfl : j = n := by omega
  refine Ev.step (f := fun k => l5product.l0 k A B ((List.range (i + 1)).map fun a => vec j (mulf j (ent A) (ent B) a)) ((i + 1 : Nat) : Int)) (fun k => ?_) hr
  simp only [l5product.l1]
  rw [hA.1, ji, List.length_map, List.length_range, jh, wr1 i jj, rowsof_succ]
 | succ d ih =>
  intro j hj
  refine Ev.step (f := fun k => l5product.l2 k A B ((List.range i).map fun a => vec n (mulf n (ent A) (ent B) a)) (i : Int) (vec j (mulf n (ent A) (ent B) i)) (j : Int) (sup (fun k => pl (ent A i k) (ent B k j)) 0) ((0 : Nat) : Int)) (fun k => ?_) (product_l2 hn hA hB ha hb hMN hM hN i j hi jj _ r (ih (j + 1) jj) n 0 jj)
  simp only [l5product.l1]
  rw [hA.1, jh]
  rfl
theorem product_l0 (hn : n ≤ 1000) (hA : IsMat n A) (hB : IsMat n B) (ha : BdM n n M (ent A)) (hb : BdM n n N (ent B)) (hMN : M + N < 1152921504606846976) (hM : 0 ≤ M) (hN : 0 ≤ N) :
  ∀ d i, i + d = n → Ev (fun k => l5product.l0 k A B ((List.range i).map fun a => vec n (mulf n (ent A) (ent B) a)) (i : Int)) (mat n (mulf n (ent A) (ent B))) := by
 intro d
 induction d with
 | zero =>
  intro i hi
  obtain rfl : i = n := by omega
  refine ev_now (fun k => ?_)
  simp only [l5product.l0]
  rw [hA.1, ji]
  rfl
 | succ d ih =>
  intro i hi
  refine Ev.step (f := fun k => l5product.l1 k A B ((List.range i).map fun a => vec n (mulf n (ent A) (ent B) a)) (i : Int) (vec 0 (mulf n (ent A) (ent B) i)) ((0 : Nat) : Int)) (fun k => ?_) (product_l1 hn hA hB ha hb hMN hM hN i jj _ (ih (i + 1) jj) n 0 jj)
  simp only [l5product.l0]
  rw [hA.1, jh]
  rfl
theorem product_f (hn : n ≤ 1000) (hA : IsMat n A) (hB : IsMat n B) (ha : BdM n n M (ent A)) (hb : BdM n n N (ent B)) (hMN : M + N < 1152921504606846976) (hM : 0 ≤ M) (hN : 0 ≤ N) :
  Ev (fun k => l5product.f k A B) (mat n (mulf n (ent A) (ent B))) := product_l0 hn hA hB ha hb hMN hM hN n 0 jj
end
theorem product_mat {n : Nat} (hn : n ≤ 1000) {M N : Int} {a b : Nat → Nat → Int} (ha : BdM n n M a) (hb : BdM n n N b) (hMN : M + N < 1152921504606846976) (hM : 0 ≤ M) (hN : 0 ≤ N) :
  Ev (fun k => l5product.f k (mat n a) (mat n b)) (mat n (mulf n a b)) := by
 have e : mat n (mulf n (ent (mat n a)) (ent (mat n b))) = mat n (mulf n a b) :=
  mat_congr fun i j hi hj => mul_congr (fun k hk => ent_mat a hi hk) (fun k hk => ent_mat b hk hj)
 rw [← e]
 exact product_f hn (isMat_mat n a) (isMat_mat n b) (fun i j hi hj => by rw [ent_mat a hi hj]; exact ha i j hi hj) (fun i j hi hj => by rw [ent_mat b hi hj]; exact hb i j hi hj) hMN hM hN
def crit (s d : Nat → Nat → Int) (i j : Nat) : Bool := pl (s i j) (d j i) == 0
def critV (n : Nat) (s d : Nat → Nat → Int) (i : Nat) : Bool := (List.range n).any (crit s d i)
def critL (n : Nat) (s d : Nat → Nat → Int) (i : Nat) : List Int := ((List.range i).filter (critV n s d)).map Int.ofNat
section
variable {n : Nat} {s d : Nat → Nat → Int} {M N : Int}
theorem critical_f (L : List (List Int)) (u v : Int) (hs : BdM n n M s) (hd : BdM n n N d) (hMN : M + N < 1152921504606846976) (hM : 0 ≤ M) (hN : 0 ≤ N) (i j : Nat) (hi : i < n) (hj : j < n) :
  llcritical.f L u v (mat n s) (mat n d) (i : Int) (j : Int) = some (crit s d i j) := by
 unfold llcritical.f
 rw [yE, yE, jh, jh, jh, rdL, rdL, rdI, rdI, mat_get _ hi, mat_get _ hj, yB, yB, jh, jh, jh, vec_get _ hj, vec_get _ hi, both_f (hs i j hi hj) (hd j i hj hi) hMN hM hN]
 rfl
theorem critL_len (i : Nat) : (critL n s d i).length ≤ i := by
 unfold critL
 rw [List.length_map]
 exact Nat.le_trans (List.length_filter_le _ _) (Nat.le_of_eq List.length_range)
theorem critL_succ (i : Nat) : critL n s d (i + 1) = if critV n s d i = true then critL n s d i ++ [(i : Int)] else critL n s d i := by
 unfold critL
 rw [List.range_succ, List.filter_append, List.map_append]
 by_cases h : critV n s d i = true
 ·
  rw [if_pos h, List.filter_cons_of_pos h]; rfl
 ·
  rw [if_neg h, List.filter_cons_of_neg h]; simp
theorem vertices_l1 (hn : n ≤ 1000) (L : List (List Int)) (u v : Int) (hs : BdM n n M s) (hd : BdM n n N d) (hMN : M + N < 1152921504606846976) (hM : 0 ≤ M) (hN : 0 ≤ N) (i : Nat) (hi : i < n) (r : List Int)
  (hr : Ev (fun k => llvertices.l0 k (critL n s d (i + 1)) (n : Int) ((i + 1 : Nat) : Int) L u v (mat n s) (mat n d)) r) : ∀ e j, j + e = n → (∀ q, q < j → crit s d i q = false) →
  Ev (fun k => llvertices.l1 k (critL n s d i) (i : Int) (n : Int) (i : Int) (n : Int) (j : Int) L u v (mat n s) (mat n d)) r := by
 intro e
 induction e with
 | zero =>
  intro j hj hq
  obtain rfl : j = n := by omega
  have hv : ¬ critV j s d i = true := by
   unfold critV
   rw [List.any_eq_true]
   rintro ⟨q, hq1, hq2⟩
   rw [hq q (List.mem_range.1 hq1)] at hq2
   cases hq2
  rw [critL_succ, if_neg hv] at hr
  refine Ev.step (fun k => ?_) hr
  simp only [llvertices.l1]
  rw [ji, wr1 i jj]
 | succ e ih =>
  intro j hj hq
  have hj' : j < n := by omega
  have hl := critL_len (n := n) (s := s) (d := d) i
  by_cases hc : crit s d i j = true
  ·
   have hv : critV n s d i = true := by
    unfold critV
    rw [List.any_eq_true]
    exact ⟨j, List.mem_range.2 hj', hc⟩
   rw [critL_succ, if_pos hv] at hr
   refine Ev.step (fun k => ?_) hr
   simp only [llvertices.l1]
   rw [jh, critical_f L u v hs hd hMN hM hN i j hi hj']
   simp only [Option.bind_some]
   rw [if_pos hc, jh, wr1 i jj]
  ·
   refine Ev.step (fun k => ?_) (ih (j + 1) jj fun q hq2 => ?_)
   ·
    simp only [llvertices.l1]
    rw [jh, critical_f L u v hs hd hMN hM hN i j hi hj']
    simp only [Option.bind_some]
    rw [if_neg hc, wr1 j jj]
   ·
    by_cases e2 : q = j
    ·
     subst e2; exact Bool.eq_false_iff.2 hc
    ·
     exact hq q jj
theorem vertices_l0 (hn : n ≤ 1000) (L : List (List Int)) (u v : Int) (hs : BdM n n M s) (hd : BdM n n N d) (hMN : M + N < 1152921504606846976) (hM : 0 ≤ M) (hN : 0 ≤ N) : ∀ e i, i + e = n →
  Ev (fun k => llvertices.l0 k (critL n s d i) (n : Int) (i : Int) L u v (mat n s) (mat n d)) (critL n s d n) := by
 intro e
 induction e with
 | zero =>
  intro i hi
  obtain rfl : i = n := by omega
  refine ev_now fun k => ?_
  simp only [llvertices.l0]
  rw [ji]
 | succ e ih =>
  intro i hi
  refine Ev.step (fun k => ?_) (vertices_l1 hn L u v hs hd hMN hM hN i jj _ (ih (i + 1) jj) n 0 jj (fun q hq => by omega))
  simp only [llvertices.l0]
  rw [jh, yE]
  rfl
theorem vertices_f (hn : n ≤ 1000) (L : List (List Int)) (u v : Int) (hs : BdM n n M s) (hd : BdM n n N d) (hMN : M + N < 1152921504606846976) (hM : 0 ≤ M) (hN : 0 ≤ N) :
  Ev (fun k => llvertices.f k L u v (mat n s) (mat n d)) (critL n s d n) := by
 unfold llvertices.f
 rw [yE]
 exact vertices_l0 hn L u v hs hd hMN hM hN n 0 jj
end
def least (l : List Int) : Nat → Int
 | 0 => l.getD 0 0
 | j + 1 => mn (least l j) (l.getD (j + 1) 0)
theorem least_le (l : List Int) : ∀ j q, q ≤ j → least l j ≤ l.getD q 0 := by
 intro j
 induction j with
 | zero => intro q hq; obtain rfl : q = 0 := (by omega); exact Int.le_refl _
 | succ j ih =>
  intro q hq
  unfold least mn
  by_cases e : q = j + 1
  ·
   subst e; split <;> omega
  ·
   have := ih q jj
   split <;> omega
theorem least_mem (l : List Int) : ∀ j, ∃ q, q ≤ j ∧ least l j = l.getD q 0 := by
 intro j
 induction j with
 | zero => exact ⟨0, by omega, rfl⟩
 | succ j ih =>
  obtain ⟨q, h1, h2⟩ := ih
  unfold least mn
  by_cases e : l.getD (j + 1) 0 < least l j
  ·
   rw [if_pos e]; exact ⟨j + 1, by omega, rfl⟩
  ·
   rw [if_neg e]; exact ⟨q, by omega, h2⟩
theorem Min_l0 (l : List Int) (n : Nat) (hn : n ≤ 1000) (hl : l.length = n) : ∀ d j, j + 1 + d = n → Ev (fun k => slices_Min_int_int.l0 k l (least l j) ((j + 1 : Nat) : Int)) (least l (n - 1)) := by
 intro d
 induction d with
 | zero =>
  intro j hj
  refine ev_now fun k => ?_
  simp only [slices_Min_int_int.l0]
  rw [ji, show n - 1 = j by omega]
 | succ d ih =>
  intro j hj
  refine Ev.step (fun k => ?_) (ih (j + 1) jj)
  simp only [slices_Min_int_int.l0]
  rw [jh, jh, rdI, wr1 (j + 1) jj]
  rfl
theorem Min_f (l : List Int) (n : Nat) (hn : n ≤ 1000) (h1 : 1 ≤ n) (hl : l.length = n) : Ev (fun k => slices_Min_int_int.f k l) (least l (n - 1)) := by
 unfold slices_Min_int_int.f
 refine Ev.congr (f := fun k => slices_Min_int_int.j0 k l) (fun k => ji) (Ev.step (fun k => ?_) (Min_l0 l n hn hl (n - 1) 0 jj))
 simp only [slices_Min_int_int.j0]
 rw [jh]
 rfl
structure IsGcd (a b g : Int) : Prop where
 left : g ∣ a
 right : g ∣ b
 all : ∀ d : Int, d ∣ a → d ∣ b → d ∣ g
 pos : a ≠ 0 ∨ b ≠ 0 → 0 < g
theorem gcd_l0 : ∀ (N : Nat) (a b : Int), b.natAbs ≤ N → -1000000 ≤ a → a ≤ 1000000 → -1000000 ≤ b → b ≤ 1000000 → ∃ g, Ev (fun k => line_gcd.l0 k a b) g ∧ IsGcd a b g := by
 intro N
 induction N with
 | zero =>
  intro a b hN h1 h2 _ _
  obtain rfl : b = 0 := by omega
  refine ⟨mx a (wrap64 (-a)), ev_now fun k => by simp only [line_gcd.l0]; rw [if_pos trivial], ?_⟩
  rw [mx_max, wr jj jj]
  by_cases h : 0 ≤ a
  ·
   rw [show max a (-a) = a by omega]
   exact ⟨Int.dvd_refl _, Int.dvd_zero _, fun _ h _ => h, fun h => by omega⟩
  ·
   rw [show max a (-a) = -a by omega]
   exact ⟨Int.neg_dvd.2 (Int.dvd_refl _), Int.dvd_zero _, fun _ h _ => Int.dvd_neg.2 h, fun h => by omega⟩
 | succ N ih =>
  intro a b hN h1 h2 h3 h4
  by_cases hb : b = 0
  ·
   exact ih a b jj h1 h2 h3 h4
  have hlt := Int.natAbs_tmod a b
  have hm : a.natAbs % b.natAbs < b.natAbs := Nat.mod_lt _ jj
  obtain ⟨g, e, hg⟩ := ih b (Int.tmod a b) jj h3 h4 jj jj
  have hd := Int.mul_tdiv_add_tmod a b
  refine ⟨g, Ev.step (fun k => ?_) e, ?_, hg.left, fun d d1 d2 => hg.all d d2 ?_, fun _ => hg.pos (.inl hb)⟩
  ·
   simp only [line_gcd.l0]
   rw [if_neg hb]
  ·
   rw [← hd]; exact Int.dvd_add (Int.dvd_trans hg.left (Int.dvd_mul_right _ _)) hg.right
  ·
   rw [show Int.tmod a b = a - b * Int.tdiv a b by omega]
   exact Int.dvd_sub d1 (Int.dvd_trans d2 (Int.dvd_mul_right _ _))
theorem gcd_f (a b : Int) (h1 : -1000000 ≤ a) (h2 : a ≤ 1000000) (h3 : -1000000 ≤ b) (h4 : b ≤ 1000000) : ∃ g, Ev (fun k => line_gcd.f k a b) g ∧ IsGcd a b g := gcd_l0 b.natAbs a b jj h1 h2 h3 h4
structure Top (n : Nat) (a : Nat → Nat → Int) (B : Nat → Nat → Prop) (num den : Int) : Prop where
 den0 : 0 < den
 den6 : den ≤ 6
 lo : -6000 ≤ num
 hi : num ≤ 6000
 top : ∀ k i, B k i → powf n a k i i ≠ NEV → powf n a k i i * den ≤ num * (k : Nat)
 att : ∃ k i, B k i ∧ powf n a k i i ≠ NEV ∧ powf n a k i i * den = num * (k : Nat)
 low : ∀ d : Int, d ∣ num → d ∣ den → d ∣ 1
def Best (n : Nat) (a : Nat → Nat → Int) (B : Nat → Nat → Prop) (num den : Int) (f : Bool) : Prop :=
 (f = false ∧ ∀ k i, B k i → powf n a k i i = NEV) ∨ (f = true ∧ Top n a B num den)
theorem cross {p q x k num den : Int} (h1 : p * den ≤ num * q) (h2 : num * k ≤ x * den) (hd : 0 < den) (hq : 0 ≤ q) (hk : 0 ≤ k) : p * k ≤ x * q := by
 refine Int.le_of_mul_le_mul_right ?_ hd
 have a1 := Int.mul_le_mul_of_nonneg_right h1 hk
 have a2 := Int.mul_le_mul_of_nonneg_right h2 hq
 have e1 : p * k * den = p * den * k := by rw [Int.mul_assoc, Int.mul_comm k, ← Int.mul_assoc]
 have e2 : num * q * k = num * k * q := by rw [Int.mul_assoc, Int.mul_comm q, ← Int.mul_assoc]
 have e3 : x * q * den = x * den * q := by rw [Int.mul_assoc, Int.mul_comm q, ← Int.mul_assoc]
 omega
theorem small_mul {x d : Int} (h1 : -6000 ≤ x) (h2 : x ≤ 6000) (h3 : 0 < d) (h4 : d ≤ 6) : wrap64 (x * d) = x * d := by
 have : d = 1 ∨ d = 2 ∨ d = 3 ∨ d = 4 ∨ d = 5 ∨ d = 6 := by omega
 rcases this with rfl | rfl | rfl | rfl | rfl | rfl <;> exact wr jj jj
theorem Top.make {n : Nat} {a : Nat → Nat → Int} {B : Nat → Nat → Prop} {k i : Nat} {x g : Int} (hx : powf n a k i i = x) (hnev : x ≠ NEV) (h1 : -6000 ≤ x) (h2 : x ≤ 6000) (hk : 1 ≤ k) (hk6 : k ≤ 6) (hg : IsGcd x (k : Int) g) (hB : B k i)
  (h : ∀ k' i', B k' i' → powf n a k' i' i' ≠ NEV → powf n a k' i' i' * (k : Nat) ≤ x * (k' : Nat)) : Top n a B (Int.tdiv x g) (Int.tdiv (k : Int) g) := by
 have gp := hg.pos (.inr jj)
 obtain ⟨u, hu⟩ := hg.left
 obtain ⟨v, hv⟩ := hg.right
 have e1 : Int.tdiv x g = u := by rw [hu]; exact Int.mul_tdiv_cancel_left _ jj
 have e2 : Int.tdiv (k : Int) g = v := by rw [hv]; exact Int.mul_tdiv_cancel_left _ jj
 have g6 : g ≤ 6 := by have := Int.le_of_dvd jj hg.right; omega
 rw [e1, e2]
 have hg6 : g = 1 ∨ g = 2 ∨ g = 3 ∨ g = 4 ∨ g = 5 ∨ g = 6 := by omega
 have vb : 0 < v ∧ v ≤ 6 := by rcases hg6 with rfl | rfl | rfl | rfl | rfl | rfl <;> omega
 have ub : -6000 ≤ u ∧ u ≤ 6000 := by rcases hg6 with rfl | rfl | rfl | rfl | rfl | rfl <;> omega
 refine ⟨vb.1, vb.2, ub.1, ub.2, fun k' i' hB' hn => ?_, ⟨k, i, hB, by rw [hx]; exact hnev, ?_⟩, fun d d1 d2 => ?_⟩
 ·
  refine Int.le_of_mul_le_mul_left ?_ gp
  have := h k' i' hB' hn
  rw [hu, hv] at this
  have e3 : g * (powf n a k' i' i' * v) = powf n a k' i' i' * (g * v) := by rw [Int.mul_left_comm]
  have e4 : g * (u * (k' : Nat)) = g * u * (k' : Nat) := by rw [Int.mul_assoc]
  rw [e3, e4]; exact this
 ·
  rw [hx, hu, hv, Int.mul_comm g u, Int.mul_assoc]
 ·
  have := hg.all (g * d) (by rw [hu]; exact Int.mul_dvd_mul_left g d1) (by rw [hv]; exact Int.mul_dvd_mul_left g d2)
  obtain ⟨w, hw⟩ := this
  refine ⟨w, ?_⟩
  have e5 : g * 1 = g * (d * w) := by rw [Int.mul_one, ← Int.mul_assoc]; exact hw
  exact Int.eq_of_mul_eq_mul_left jj e5
def Seen (n k i : Nat) (k' i' : Nat) : Prop := 1 ≤ k' ∧ i' < n ∧ (k' < k ∨ (k' = k ∧ i' < i))
theorem pace_l1 {n : Nat} {A : List (List Int)} (hA : Arg n A) (k : Nat) (hk : 1 ≤ k) (hkn : k ≤ n)
  (hr : ∀ f num den, Best n (ent A) (Seen n (k + 1) 0) num den f → ∃ r, Ev (fun q => lgpace.l0 q A f (mat n (powf n (ent A) k)) ((k + 1 : Nat) : Int) num den) r ∧ Best n (ent A) (Seen n (n + 1) 0) r.1 r.2.1 r.2.2) :
  ∀ d i, i + d = n → ∀ f num den, Best n (ent A) (Seen n k i) num den f →
  ∃ r, Ev (fun q => lgpace.l1 q A f (mat n (powf n (ent A) k)) (k : Int) (n : Int) (i : Int) num den) r ∧ Best n (ent A) (Seen n (n + 1) 0) r.1 r.2.1 r.2.2 := by
 have h6 := hA.six
 intro d
 induction d with
 | zero =>
  intro i hi f num den hb
  have hb' : Best n (ent A) (Seen n (k + 1) 0) num den f := by
   have e : Seen n (k + 1) 0 = Seen n k i := by
    funext k' i'
    refine propext ⟨fun h => ⟨h.1, h.2.1, ?_⟩, fun h => ⟨h.1, h.2.1, ?_⟩⟩
    ·
     have := h.2.1; have := h.2.2; omega
    ·
     have := h.2.2; omega
   rw [e]; exact hb
  obtain ⟨r, e, h⟩ := hr f num den hb'
  refine ⟨r, Ev.step (fun q => ?_) e, h⟩
  simp only [lgpace.l1]
  rw [ji, wr1 k jj]
 | succ d ih =>
  intro i hi f num den hb
  have hin : i < n := by omega
  have hml : (mat n (powf n (ent A) k)).length = n := yE _ _
  have hrow : ((mat n (powf n (ent A) k)).getD i []).length = n := by rw [mat_get _ hin, yB]
  have hval : ((mat n (powf n (ent A) k)).getD i []).getD i 0 = powf n (ent A) k i i := ent_mat _ hin hin
  have hbd := BdM.pow hA.bd k i i hin hin
  obtain ⟨x, hx⟩ : ∃ x, powf n (ent A) k i i = x := ⟨_, rfl⟩
  rw [hx] at hval hbd
  have hxb : x = NEV ∨ (-6000 ≤ x ∧ x ≤ 6000) := hbd.imp id fun h => by omega
  have head : ∀ q, lgpace.l1 (q + 1) A f (mat n (powf n (ent A) k)) (k : Int) (n : Int) (i : Int) num den = if x = NEV then lgpace.l1 q A f (mat n (powf n (ent A) k)) (k : Int) (n : Int) ((i + 1 : Nat) : Int) num den else (if f = true then (if wrap64 (x * den) > wrap64 (num * (k : Int)) then ((line_gcd.f q x (k : Int)).bind fun t => if t = 0 then none else lgpace.l1 q A true (mat n (powf n (ent A) k)) (k : Int) (n : Int) ((i + 1 : Nat) : Int) (wrap64 (Int.tdiv x t)) (wrap64 (Int.tdiv (k : Int) t))) else lgpace.l1 q A f (mat n (powf n (ent A) k)) (k : Int) (n : Int) ((i + 1 : Nat) : Int) num den) else ((line_gcd.f q x (k : Int)).bind fun t => if t = 0 then none else lgpace.l1 q A true (mat n (powf n (ent A) k)) (k : Int) (n : Int) ((i + 1 : Nat) : Int) (wrap64 (Int.tdiv x t)) (wrap64 (Int.tdiv (k : Int) t)))) := by
   intro q
   simp only [lgpace.l1]
   rw [jh, jh, jh, rdL, jh, rdI, hval, wr1 i jj]
   unfold line_never_int.f
   simp only [Option.bind_some]
   rfl
  have seen : ∀ k' i', Seen n k (i + 1) k' i' ↔ Seen n k i k' i' ∨ (k' = k ∧ i' = i) := by
   intro k' i'
   constructor
   ·
    intro h
    by_cases e : k' = k ∧ i' = i
    ·
     exact .inr e
    ·
     exact .inl ⟨h.1, h.2.1, by have := h.2.2; omega⟩
   ·
    rintro (h | ⟨rfl, rfl⟩)
    ·
     exact ⟨h.1, h.2.1, by have := h.2.2; omega⟩
    ·
     exact ⟨hk, hin, .inr ⟨rfl, by omega⟩⟩
  by_cases hn : x = NEV
  ·
   have hb' : Best n (ent A) (Seen n k (i + 1)) num den f := by
    rcases hb with ⟨h0, h⟩ | ⟨h0, h⟩
    ·
     refine .inl ⟨h0, fun k' i' hs => ?_⟩
     rcases (seen k' i').1 hs with hs | ⟨rfl, rfl⟩
     ·
      exact h k' i' hs
     ·
      rw [hx, hn]
    ·
     refine .inr ⟨h0, h.den0, h.den6, h.lo, h.hi, fun k' i' hs hne => ?_, ?_, h.low⟩
     ·
      rcases (seen k' i').1 hs with hs | ⟨rfl, rfl⟩
      ·
       exact h.top k' i' hs hne
      ·
       exact absurd (hx.trans hn) hne
     ·
      obtain ⟨k', i', hs, h3⟩ := h.att
      exact ⟨k', i', (seen k' i').2 (.inl hs), h3⟩
   obtain ⟨r, e, h⟩ := ih (i + 1) jj f num den hb'
   exact ⟨r, Ev.step (fun q => by rw [head, if_pos hn]) e, h⟩
  have hxs := hxb.resolve_left hn
  have take : (∀ k' i', Seen n k i k' i' → powf n (ent A) k' i' i' ≠ NEV → powf n (ent A) k' i' i' * (k : Nat) ≤ x * (k' : Nat)) →
    ∃ r, Ev (fun q => (line_gcd.f q x (k : Int)).bind fun t => if t = 0 then none else lgpace.l1 q A true (mat n (powf n (ent A) k)) (k : Int) (n : Int) ((i + 1 : Nat) : Int) (wrap64 (Int.tdiv x t)) (wrap64 (Int.tdiv (k : Int) t))) r ∧ Best n (ent A) (Seen n (n + 1) 0) r.1 r.2.1 r.2.2 := by
   intro hle
   obtain ⟨g, eg, hg⟩ := gcd_f x (k : Int) jj jj jj jj
   have ht : Top n (ent A) (Seen n k (i + 1)) (Int.tdiv x g) (Int.tdiv (k : Int) g) := by
    refine Top.make hx hn hxs.1 hxs.2 hk jj hg ((seen k i).2 (.inr ⟨rfl, rfl⟩)) fun k' i' hs hne => ?_
    rcases (seen k' i').1 hs with hs | ⟨rfl, rfl⟩
    ·
     exact hle k' i' hs hne
    ·
     rw [hx]; exact Int.le_refl _
   obtain ⟨r, e, h⟩ := ih (i + 1) jj true (Int.tdiv x g) (Int.tdiv (k : Int) g) (.inr ⟨rfl, ht⟩)
   have gp := hg.pos (.inr jj)
   have b1 := ht.lo
   have b2 := ht.hi
   have b3 := ht.den0
   have b4 := ht.den6
   refine ⟨r, Ev.bind eg (Ev.congr (fun q => ?_) e), h⟩
   rw [ji, wr jj jj, wr jj jj]
  rcases hb with ⟨rfl, h⟩ | ⟨rfl, h⟩
  ·
   obtain ⟨r, e, h'⟩ := take fun k' i' hs hne => absurd (h k' i' hs) hne
   exact ⟨r, Ev.step (fun q => by rw [head, if_neg hn, if_neg (by decide)]) e, h'⟩
  ·
   have w1 : wrap64 (x * den) = x * den := small_mul hxs.1 hxs.2 h.den0 h.den6
   have w2 : wrap64 (num * (k : Int)) = num * (k : Int) := small_mul h.lo h.hi jj jj
   by_cases hgt : x * den > num * (k : Int)
   ·
    obtain ⟨r, e, h'⟩ := take fun k' i' hs hne => cross (h.top k' i' hs hne) jj h.den0 jj jj
    exact ⟨r, Ev.step (fun q => by rw [head, if_neg hn, if_pos rfl, w1, w2, if_pos hgt]) e, h'⟩
   ·
    have hb' : Best n (ent A) (Seen n k (i + 1)) num den true := by
     refine .inr ⟨rfl, h.den0, h.den6, h.lo, h.hi, fun k' i' hs hne => ?_, ?_, h.low⟩
     ·
      rcases (seen k' i').1 hs with hs | ⟨rfl, rfl⟩
      ·
       exact h.top k' i' hs hne
      ·
       rw [hx]; omega
     ·
      obtain ⟨k', i', hs, h3⟩ := h.att
      exact ⟨k', i', (seen k' i').2 (.inl hs), h3⟩
    obtain ⟨r, e, h'⟩ := ih (i + 1) jj true num den hb'
    exact ⟨r, Ev.step (fun q => by rw [head, if_neg hn, if_pos rfl, w1, w2, if_neg hgt]) e, h'⟩
theorem pace_l0 {n : Nat} {A : List (List Int)} (hA : Arg n A) : ∀ d k, k + d = n → ∀ f num den, Best n (ent A) (Seen n (k + 1) 0) num den f →
  ∃ r, Ev (fun q => lgpace.l0 q A f (mat n (powf n (ent A) k)) ((k + 1 : Nat) : Int) num den) r ∧ Best n (ent A) (Seen n (n + 1) 0) r.1 r.2.1 r.2.2 := by
 have h6 := hA.six
 have hl := hA.is.1
 intro d
 induction d with
 | zero =>
  intro k hk f num den hb
  obtain rfl : k = n := by omega
  refine ⟨(num, den, f), ev_now fun q => ?_, hb⟩
  simp only [lgpace.l0]
  rw [ji]
 | succ d ih =>
  intro k hk f num den hb
  obtain ⟨r, e, h⟩ := pace_l1 hA (k + 1) jj jj (ih (k + 1) jj) n 0 jj f num den hb
  have et : Ev (fun q => lgtimes.f q (mat n (powf n (ent A) k)) A) (mat n (powf n (ent A) (k + 1))) := by
   have := times_pow (n := n) (a := ent A) (M := 1000) jj hA.bd jj k 1 jj
   rwa [pow_one hA] at this
  refine ⟨r, Ev.step (f := fun q => (lgtimes.f q (mat n (powf n (ent A) k)) A).bind fun t => lgpace.l1 q A f t ((k + 1 : Nat) : Int) (n : Int) ((0 : Nat) : Int) num den) (fun q => ?_) (Ev.bind et e), h⟩
  simp only [lgpace.l0]
  rw [jh, hl]
  rfl
theorem pace_f {n : Nat} {A : List (List Int)} (hA : Arg n A) : ∃ r, Ev (fun q => lgpace.f q A) r ∧ Best n (ent A) (Seen n (n + 1) 0) r.1 r.2.1 r.2.2 := by
 have h6 := hA.six
 obtain ⟨r, e, h⟩ := pace_l0 hA n 0 jj false 0 1 (.inl ⟨rfl, fun k' i' hs => absurd hs.2.2 (by have := hs.1; omega)⟩)
 have eo := one_f n jj
 refine ⟨r, ?_, h⟩
 unfold lgpace.f
 rw [hA.is.1]
 exact Ev.bind eo e
def upd (f g : Nat → Nat → Int) (i j : Nat) (p q : Nat) : Int := if p < i ∨ (p = i ∧ q < j) then g p q else f p q
theorem upd_old (f g : Nat → Nat → Int) (i j : Nat) : upd f g i j i j = f i j := ji
theorem upd_set {n : Nat} (f g : Nat → Nat → Int) (i j : Nat) (hi : i < n) : (mat n (upd f g i j)).set i (((mat n (upd f g i j)).getD i []).set j (g i j)) = mat n (upd f g i (j + 1)) := by
 rw [mat_get _ hi]
 have row : (vec n (upd f g i j i)).set j (g i j) = vec n (upd f g i (j + 1) i) := by
  refine range_map_set n _ _ j _ (fun _ => jh) (fun b _ hb => ?_)
  unfold upd
  by_cases h : b < j
  ·
   rw [jh, jh]
  ·
   rw [ji, ji]
 rw [row]
 refine range_map_set n _ _ i _ (fun _ => rfl) (fun b _ hb => vec_congr fun q _ => ?_)
 unfold upd
 by_cases h : b < i
 ·
  rw [jh, jh]
 ·
  rw [ji, ji]
theorem upd_next (n : Nat) (f g : Nat → Nat → Int) (i : Nat) : mat n (upd f g i n) = mat n (upd f g (i + 1) 0) := mat_congr fun p q _ hq => by
 unfold upd
 by_cases h : p < i + 1
 ·
  rw [jh, jh]
 ·
  rw [ji, ji]
theorem upd_zero (n : Nat) (f g : Nat → Nat → Int) : mat n f = mat n (upd f g 0 0) := mat_congr fun p q _ _ => (if_neg jj).symm
theorem upd_all (n : Nat) (f g : Nat → Nat → Int) : mat n (upd f g n 0) = mat n g := mat_congr fun p q hp _ => jh
theorem upd_ent {n : Nat} (f g : Nat → Nat → Int) (i j : Nat) {p q : Nat} (hp : p < n) (hq : q < n) : ((mat n (upd f g i j)).getD p []).getD q 0 = upd f g i j p q := ent_mat _ hp hq
section
variable {n : Nat} {M : Int} {A : List (List Int)}
theorem closed_l1 (hn : n ≤ 1000) (hA : IsMat n A) (i : Nat) (hi : i < n) (r : List (List Int))
  (hr : Ev (fun k => lgclosed.l0 k A (mat n (upd onef (fw0 (ent A)) (i + 1) 0)) (n : Int) ((i + 1 : Nat) : Int)) r) : ∀ d j, j + d = n →
  Ev (fun k => lgclosed.l1 k A (mat n (upd onef (fw0 (ent A)) i j)) (i : Int) (n : Int) (i : Int) (n : Int) (j : Int)) r := by
 intro d
 induction d with
 | zero =>
  intro j hj
  obtain rfl : j = n := by omega
  refine Ev.step (fun k => ?_) hr
  simp only [lgclosed.l1]
  rw [ji, wr1 i jj, upd_next]
 | succ d ih =>
  intro j hj
  have hj' : j < n := by omega
  refine Ev.step (fun k => ?_) (ih (j + 1) jj)
  simp only [lgclosed.l1]
  have e1 : ((mat n (upd onef (fw0 (ent A)) i j)).getD i []).length = n := by rw [mat_get _ hi, yB]
  have e2 := hA.2 i hi
  have e3 := hA.1
  rw [jh, jh, if_pos (by rw [yE]; omega), jh, rdL, rdL, rdI, rdI, jh, jh, jh, wr1 j jj, upd_ent _ _ _ _ hi hj', upd_old, mx_max, toN, toN]
  have e4 : max (onef i j) ((A.getD i []).getD j 0) = fw0 (ent A) i j := rfl
  rw [e4, upd_set _ _ i j hi]
theorem closed_l0 (hn : n ≤ 1000) (hA : IsMat n A) (r : List (List Int)) (hr : Ev (fun k => lgclosed.l2 k A (mat n (fw0 (ent A))) (n : Int) ((0 : Nat) : Int)) r) : ∀ d i, i + d = n →
  Ev (fun k => lgclosed.l0 k A (mat n (upd onef (fw0 (ent A)) i 0)) (n : Int) (i : Int)) r := by
 intro d
 induction d with
 | zero =>
  intro i hi
  obtain rfl : i = n := by omega
  refine Ev.step (fun k => ?_) hr
  simp only [lgclosed.l0]
  rw [ji, upd_all, hA.1]
  rfl
 | succ d ih =>
  intro i hi
  refine Ev.step (fun k => ?_) (closed_l1 hn hA i jj r (ih (i + 1) jj) n 0 jj)
  simp only [lgclosed.l0]
  rw [jh, hA.1]
  rfl
theorem pl_zero {x : Int} {M : Int} (hx : Bd M x) (hM : M < 1152921504606846976) : max x (pl x 0) = x := by
 have := hx.ge hM
 unfold pl
 rw [if_neg (by decide : ¬ (0 : Int) = NEV)]
 split <;> omega
theorem zero_pl {x : Int} {M : Int} (hx : Bd M x) (hM : M < 1152921504606846976) : max x (pl 0 x) = x := by
 have := hx.ge hM
 unfold pl
 rw [if_neg (by decide : ¬ (0 : Int) = NEV)]
 split <;> omega
theorem closed_l4 (hn : n ≤ 1000) (ha : BdM n n M (ent A)) (hM : 0 ≤ M) (hs : M * (n : Nat) < 1152921504606846976) (h2 : M * (2 ^ n : Nat) < 100000000000000000) (hp : NoPos n (ent A)) (hl : A.length = n) (k : Nat) (hk : k < n) (i : Nat) (hi : i < n) (r : List (List Int))
  (hr : Ev (fun q => lgclosed.l3 q A (mat n (upd (fwk (ent A) k) (fwk (ent A) (k + 1)) (i + 1) 0)) (k : Int) (n : Int) (k : Int) (n : Int) ((i + 1 : Nat) : Int)) r) : ∀ d j, j + d = n →
  Ev (fun q => lgclosed.l4 q A (mat n (upd (fwk (ent A) k) (fwk (ent A) (k + 1)) i j)) (k : Int) (i : Int) (n : Int) (k : Int) (n : Int) (i : Int) (n : Int) (j : Int)) r := by
 have B : ∀ x y, x < n → y < n → Bd 100000000000000000 (fwk (ent A) k x y) := fun x y hx hy => (fwk_bd ha hM k jj x y hx hy).mono
  (Int.le_of_lt (Int.lt_of_le_of_lt (Int.mul_le_mul_of_nonneg_left (by exact_mod_cast Nat.pow_le_pow_right jj jj) hM) h2))
 have hkk := fwk_diag ha hM hs hp (k := k) jj hk
 have col : ∀ x, x < n → fwk (ent A) (k + 1) x k = fwk (ent A) k x k := fun x hx => by
  simp only [fwk]
  rw [hkk]
  exact pl_zero (B x k hx hk) jj
 have row : ∀ y, y < n → fwk (ent A) (k + 1) k y = fwk (ent A) k k y := fun y hy => by
  simp only [fwk]
  rw [hkk]
  exact zero_pl (B k y hk hy) jj
 intro d
 induction d with
 | zero =>
  intro j hj
  obtain rfl : j = n := by omega
  refine Ev.step (fun q => ?_) hr
  simp only [lgclosed.l4]
  rw [ji, wr1 i jj, upd_next]
 | succ d ih =>
  intro j hj
  have hj' : j < n := by omega
  refine Ev.step (fun q => ?_) (ih (j + 1) jj)
  simp only [lgclosed.l4]
  have e1 : ((mat n (upd (fwk (ent A) k) (fwk (ent A) (k + 1)) i j)).getD i []).length = n := by rw [mat_get _ hi, yB]
  have e2 : ((mat n (upd (fwk (ent A) k) (fwk (ent A) (k + 1)) i j)).getD k []).length = n := by rw [mat_get _ hk, yB]
  have e3 : (mat n (upd (fwk (ent A) k) (fwk (ent A) (k + 1)) i j)).length = n := yE _ _
  have v1 : upd (fwk (ent A) k) (fwk (ent A) (k + 1)) i j i k = fwk (ent A) k i k := by
   unfold upd; split
   ·
    exact col i hi
   ·
    rfl
  have v2 : upd (fwk (ent A) k) (fwk (ent A) (k + 1)) i j k j = fwk (ent A) k k j := by
   unfold upd; split
   ·
    exact row j hj'
   ·
    rfl
  rw [jh, jh, jh, jh, rdL, rdL, rdI, rdI, rdI, jh, jh, jh, jh, jh,
   upd_ent _ _ _ _ hi hk, upd_ent _ _ _ _ hk hj', upd_ent _ _ _ _ hi hj', v1, v2, upd_old, both_f (B i k hi hk) (B k j hk hj') jj jj jj]
  simp only [Option.bind_some]
  rw [wr1 j jj, mx_max, toN, toN]
  have e4 : max (fwk (ent A) k i j) (pl (fwk (ent A) k i k) (fwk (ent A) k k j)) = fwk (ent A) (k + 1) i j := rfl
  rw [e4, upd_set _ _ i j hi]
theorem closed_l3 (hn : n ≤ 1000) (ha : BdM n n M (ent A)) (hM : 0 ≤ M) (hs : M * (n : Nat) < 1152921504606846976) (h2 : M * (2 ^ n : Nat) < 100000000000000000) (hp : NoPos n (ent A)) (hl : A.length = n) (k : Nat) (hk : k < n) (r : List (List Int))
  (hr : Ev (fun q => lgclosed.l2 q A (mat n (fwk (ent A) (k + 1))) (n : Int) ((k + 1 : Nat) : Int)) r) : ∀ d i, i + d = n →
  Ev (fun q => lgclosed.l3 q A (mat n (upd (fwk (ent A) k) (fwk (ent A) (k + 1)) i 0)) (k : Int) (n : Int) (k : Int) (n : Int) (i : Int)) r := by
 intro d
 induction d with
 | zero =>
  intro i hi
  obtain rfl : i = n := by omega
  refine Ev.step (fun q => ?_) hr
  simp only [lgclosed.l3]
  rw [ji, wr1 k jj, upd_all]
 | succ d ih =>
  intro i hi
  refine Ev.step (fun q => ?_) (closed_l4 hn ha hM hs h2 hp hl k hk i jj r (ih (i + 1) jj) n 0 jj)
  simp only [lgclosed.l3]
  rw [jh, hl]
  rfl
theorem closed_l2 (hn : n ≤ 1000) (ha : BdM n n M (ent A)) (hM : 0 ≤ M) (hs : M * (n : Nat) < 1152921504606846976) (h2 : M * (2 ^ n : Nat) < 100000000000000000) (hp : NoPos n (ent A)) (hl : A.length = n) : ∀ d k, k + d = n →
  Ev (fun q => lgclosed.l2 q A (mat n (fwk (ent A) k)) (n : Int) (k : Int)) (mat n (fwk (ent A) n)) := by
 intro d
 induction d with
 | zero =>
  intro k hk
  obtain rfl : k = n := by omega
  refine ev_now fun q => ?_
  simp only [lgclosed.l2]
  rw [ji]
 | succ d ih =>
  intro k hk
  refine Ev.step (fun q => ?_) (closed_l3 hn ha hM hs h2 hp hl k jj _ (ih (k + 1) jj) n 0 jj)
  simp only [lgclosed.l2]
  rw [jh, hl, upd_zero n (fwk (ent A) k) (fwk (ent A) (k + 1))]
  rfl
theorem closed_f (hn : n ≤ 1000) (hA : IsMat n A) (ha : BdM n n M (ent A)) (hM : 0 ≤ M) (hs : M * (n : Nat) < 1152921504606846976) (h2 : M * (2 ^ n : Nat) < 100000000000000000) (hp : NoPos n (ent A)) :
  Ev (fun q => lgclosed.f q A) (mat n (fwk (ent A) n)) := by
 have e := closed_l0 hn hA _ (closed_l2 hn ha hM hs h2 hp hA.1 n 0 jj) n 0 jj
 rw [← upd_zero] at e
 unfold lgclosed.f
 rw [hA.1]
 exact Ev.bind (one_f n hn) e
end
def mapf (g : Int → Int) (a : Nat → Nat → Int) (i j : Nat) : Int := if a i j = NEV then NEV else g (a i j)
def pmix (n : Nat) (g a : Nat → Nat → Int) (i j : Nat) : List (List Int) := (List.range n).map fun p => if p < i then vec n (g p) else if p = i then vec n (fun q => if q < j then g i q else a i q) else []
theorem pmix_length (n : Nat) (g a : Nat → Nat → Int) (i j : Nat) : (pmix n g a i j).length = n := by simp [pmix]
theorem pmix_get (n : Nat) (g a : Nat → Nat → Int) (i j : Nat) (hi : i < n) : (pmix n g a i j).getD i [] = vec n (fun q => if q < j then g i q else a i q) := by
 unfold pmix
 rw [List.getD_eq_getElem?_getD, List.getElem?_map, List.getElem?_range hi]
 simp
theorem pmix_open (n : Nat) (g a : Nat → Nat → Int) (i : Nat) : (part n g i).set i (vec n (a i)) = pmix n g a i 0 := by
 refine range_map_set n _ _ i _ (fun _ => ?_) (fun b _ hb => ?_)
 ·
  rw [ji, if_pos rfl]
  exact vec_congr fun q _ => ji
 ·
  by_cases h : b < i
  ·
   rw [if_pos h, if_pos h]
  ·
   rw [if_neg h, if_neg h, if_neg hb]
theorem pmix_set (n : Nat) (g a : Nat → Nat → Int) (i j : Nat) (hi : i < n) : (pmix n g a i j).set i (((pmix n g a i j).getD i []).set j (g i j)) = pmix n g a i (j + 1) := by
 rw [pmix_get n g a i j hi]
 have row : (vec n (fun q => if q < j then g i q else a i q)).set j (g i j) = vec n (fun q => if q < j + 1 then g i q else a i q) := by
  refine range_map_set n _ _ j _ (fun _ => jh) (fun b _ hb => ?_)
  by_cases h : b < j
  ·
   rw [jh, if_pos h]
  ·
   rw [ji, if_neg h]
 rw [row]
 refine range_map_set n _ _ i _ (fun _ => ?_) (fun b _ hb => ?_)
 ·
  rw [ji, if_pos rfl]
 ·
  by_cases h : b < i
  ·
   rw [if_pos h, if_pos h]
  ·
   rw [if_neg h, if_neg h, if_neg hb, if_neg hb]
theorem pmix_skip (n : Nat) (g a : Nat → Nat → Int) (i j : Nat) (h : g i j = a i j) : pmix n g a i j = pmix n g a i (j + 1) := by
 unfold pmix
 refine List.map_congr_left fun p _ => ?_
 by_cases h1 : p < i
 ·
  rw [if_pos h1, if_pos h1]
 ·
  rw [if_neg h1, if_neg h1]
  by_cases h2 : p = i
  ·
   rw [if_pos h2, if_pos h2]
   refine vec_congr fun q _ => ?_
   by_cases h3 : q < j
   ·
    rw [if_pos h3, jh]
   ·
    rw [if_neg h3]
    by_cases h4 : q = j
    ·
     subst h4; rw [jh, h]
    ·
     rw [ji]
  ·
   rw [if_neg h2, if_neg h2]
theorem pmix_all (n : Nat) (g a : Nat → Nat → Int) (i : Nat) : pmix n g a i n = part n g (i + 1) := by
 unfold pmix part
 refine List.map_congr_left fun p _ => ?_
 by_cases h1 : p < i
 ·
  rw [if_pos h1, jh]
 ·
  rw [if_neg h1]
  by_cases h2 : p = i
  ·
   subst h2
   rw [if_pos rfl, jh]
   exact vec_congr fun q hq => if_pos hq
  ·
   rw [if_neg h2, ji]
section
variable {n : Nat} {A : List (List Int)} {G : Int → Option Int} {g : Int → Int}
theorem mapped_l1 (hn : n ≤ 1000) (hA : IsMat n A) (hG : ∀ i j, i < n → j < n → ent A i j ≠ NEV → G (ent A i j) = some (g (ent A i j))) (i : Nat) (hi : i < n) (r : List (List Int))
  (hr : Ev (fun k => lgmapped.l0 G k (part n (mapf g (ent A)) (i + 1)) A (n : Int) ((i + 1 : Nat) : Int)) r) : ∀ d j, j + d = n →
  Ev (fun k => lgmapped.l1 G k (pmix n (mapf g (ent A)) (ent A) i j) (i : Int) A (n : Int) (i : Int) (A.getD i []) (n : Int) (j : Int)) r := by
 intro d
 induction d with
 | zero =>
  intro j hj
  obtain rfl : j = n := by omega
  refine Ev.step (fun k => ?_) hr
  simp only [lgmapped.l1]
  rw [ji, wr1 i jj, pmix_all]
 | succ d ih =>
  intro j hj
  have hj' : j < n := by omega
  have e2 := hA.2 i hi
  have e3 := pmix_length n (mapf g (ent A)) (ent A) i j
  have e4 : ((pmix n (mapf g (ent A)) (ent A) i j).getD i []).length = n := by rw [pmix_get _ _ _ _ _ hi, yB]
  refine Ev.step (fun k => ?_) (ih (j + 1) jj)
  simp only [lgmapped.l1]
  rw [jh, jh, jh, wr1 j jj, rdI]
  unfold line_never_int.f
  simp only [Option.bind_some]
  by_cases h : (A.getD i []).getD j 0 = NEV
  ·
   rw [if_pos (show (A.getD i []).getD j 0 = -1152921504606846976 from h), pmix_skip _ _ _ _ _ (by unfold mapf; rw [if_pos (show ent A i j = NEV from h)]; exact h.symm)]
  ·
   rw [if_neg (show ¬ (A.getD i []).getD j 0 = -1152921504606846976 from h), jh, jh, show G ((A.getD i []).getD j 0) = some (g (ent A i j)) from hG i j hi hj' h]
   simp only [Option.bind_some]
   rw [rdL, jh, toN, toN]
   have := pmix_set n (mapf g (ent A)) (ent A) i j hi
   rw [show mapf g (ent A) i j = g (ent A i j) from if_neg h] at this
   rw [this]
theorem mapped_l0 (hn : n ≤ 1000) (hA : IsMat n A) (hG : ∀ i j, i < n → j < n → ent A i j ≠ NEV → G (ent A i j) = some (g (ent A i j))) : ∀ d i, i + d = n →
  Ev (fun k => lgmapped.l0 G k (part n (mapf g (ent A)) i) A (n : Int) (i : Int)) (mat n (mapf g (ent A))) := by
 intro d
 induction d with
 | zero =>
  intro i hi
  obtain rfl : i = n := by omega
  refine ev_now fun k => ?_
  simp only [lgmapped.l0]
  rw [ji, part_all]
 | succ d ih =>
  intro i hi
  have hi' : i < n := by omega
  have e1 := hA.1
  have e2 := hA.2 i hi'
  have e3 := part_length n (mapf g (ent A)) i
  refine Ev.step (f := fun k => lgmapped.l1 G k (pmix n (mapf g (ent A)) (ent A) i 0) (i : Int) A (n : Int) (i : Int) (A.getD i []) (n : Int) ((0 : Nat) : Int)) (fun k => ?_) (mapped_l1 hn hA hG i hi' _ (ih (i + 1) jj) n 0 jj)
  simp only [lgmapped.l0]
  rw [jh, jh, jh, rdL, show slices_Clone_int_int.f (A.getD i []) = some (A.getD i []) by unfold slices_Clone_int_int.f; simp only [Option.bind_some, List.length_nil, List.nil_append]; exact jh]
  simp only [Option.bind_some]
  rw [jh, toN, e2, ← pmix_open]
  rw [show vec n (ent A i) = A.getD i [] by rw [← e2]; exact vec_ext rfl]
  rfl
theorem mapped_f (hn : n ≤ 1000) (hA : IsMat n A) (hG : ∀ i j, i < n → j < n → ent A i j ≠ NEV → G (ent A i j) = some (g (ent A i j))) : Ev (fun k => lgmapped.f G k A 0) (mat n (mapf g (ent A))) := by
 have e1 := hA.1
 unfold lgmapped.f
 refine Ev.congr (fun k => ?_) (mapped_l0 hn hA hG n 0 jj)
 rw [jh, toN, jh, e1, part_zero]
 rfl
end
theorem fwk_congr {n : Nat} {a b : Nat → Nat → Int} (h : ∀ i j, i < n → j < n → a i j = b i j) : ∀ k, k ≤ n → ∀ i j, i < n → j < n → fwk a k i j = fwk b k i j := by
 intro k
 induction k with
 | zero => intro _ i j hi hj; show max (onef i j) (a i j) = max (onef i j) (b i j); rw [h i j hi hj]
 | succ k ih =>
  intro hk i j hi hj
  show max (fwk a k i j) (pl (fwk a k i k) (fwk a k k j)) = max (fwk b k i j) (pl (fwk b k i k) (fwk b k k j))
  rw [ih jj i j hi hj, ih jj i k hi jj, ih jj k j jj hj]
theorem powf_congr {n : Nat} {a b : Nat → Nat → Int} (h : ∀ i j, i < n → j < n → a i j = b i j) : ∀ k, ∀ i j, i < n → j < n → powf n a k i j = powf n b k i j := by
 intro k
 induction k with
 | zero => intro i j _ _; rfl
 | succ k ih => intro i j hi hj; exact mul_congr (fun q hq => ih i q hi hq) (fun q hq => h q j hq hj)
theorem closed_mat {n : Nat} {M : Int} {a : Nat → Nat → Int} (hn : n ≤ 1000) (ha : BdM n n M a) (hM : 0 ≤ M) (hs : M * (n : Nat) < 1152921504606846976) (h2 : M * (2 ^ n : Nat) < 100000000000000000) (hp : NoPos n a) :
  Ev (fun q => lgclosed.f q (mat n a)) (mat n (fwk a n)) := by
 have em : ∀ i j, i < n → j < n → ent (mat n a) i j = a i j := fun i j hi hj => ent_mat _ hi hj
 have := closed_f (A := mat n a) hn (isMat_mat n a) (fun i j hi hj => by rw [em i j hi hj]; exact ha i j hi hj) hM hs h2 (fun k i hk hkn hi => by rw [powf_congr em k i i hi hi]; exact hp k i hk hkn hi)
 rwa [mat_congr fun i j hi hj => fwk_congr em n jj i j hi hj] at this
def slackf (num den : Int) (a : Nat → Nat → Int) : Nat → Nat → Int := mapf (fun e => den * e - num) a
theorem den_mul {x d : Int} (h1 : -1000 ≤ x) (h2 : x ≤ 1000) (h3 : 0 < d) (h4 : d ≤ 6) : -6000 ≤ d * x ∧ d * x ≤ 6000 := by
 have : d = 1 ∨ d = 2 ∨ d = 3 ∨ d = 4 ∨ d = 5 ∨ d = 6 := by omega
 rcases this with rfl | rfl | rfl | rfl | rfl | rfl <;> omega
section
variable {n : Nat} {a : Nat → Nat → Int} {num den : Int} {B : Nat → Nat → Prop}
theorem slack_bd (ha : BdM n n 1000 a) (ht : Top n a B num den) : BdM n n 12000 (slackf num den a) := fun i j hi hj => by
 unfold slackf mapf
 by_cases h : a i j = NEV
 ·
  rw [if_pos h]; exact .inl rfl
 ·
  rw [if_neg h]
  have b := (ha i j hi hj).resolve_left h
  have := den_mul b.1 b.2 ht.den0 ht.den6
  have := ht.lo
  have := ht.hi
  show Bd 12000 (den * a i j - num)
  exact .inr jj
theorem slack_nev {i j : Nat} (ha : Bd 1000 (a i j)) (ht : Top n a B num den) : slackf num den a i j = NEV ↔ a i j = NEV := by
 unfold slackf mapf
 constructor
 ·
  intro h
  by_cases e : a i j = NEV
  ·
   exact e
  ·
   rw [if_neg e] at h
   replace h : den * a i j - num = NEV := h
   have b := ha.resolve_left e
   have := den_mul b.1 b.2 ht.den0 ht.den6
   have := ht.lo
   have := ht.hi
   have n1 : (NEV : Int) = -1152921504606846976 := rfl
   omega
 ·
  intro h; rw [if_pos h]
theorem slack_wk (ha : BdM n n 1000 a) (ht : Top n a B num den) {v : Nat → Nat} {L : Nat} (h : Wk n (slackf num den a) v L) : Wk n a v L :=
 ⟨h.lt, fun t hl e => h.arc t hl ((slack_nev (ha _ _ (h.lt _ jj) (h.lt _ jj)) ht).2 e)⟩
theorem slack_wk' (ha : BdM n n 1000 a) (ht : Top n a B num den) {v : Nat → Nat} {L : Nat} (h : Wk n a v L) : Wk n (slackf num den a) v L :=
 ⟨h.lt, fun t hl e => h.arc t hl ((slack_nev (ha _ _ (h.lt _ jj) (h.lt _ jj)) ht).1 e)⟩
theorem slack_wt {v : Nat → Nat} : ∀ {L : Nat}, Wk n a v L → wt (slackf num den a) v L = den * wt a v L - num * (L : Nat) := by
 intro L
 induction L with
 | zero => intro _; simp [wt]
 | succ L ih =>
  intro h
  have e1 := ih (h.left jj)
  have e2 : slackf num den a (v (L + 1)) (v L) = den * a (v (L + 1)) (v L) - num := if_neg (h.arc L jj)
  show wt (slackf num den a) v L + slackf num den a (v (L + 1)) (v L) = den * (wt a v L + a (v (L + 1)) (v L)) - num * ((L + 1 : Nat) : Int)
  rw [e1, e2, Int.mul_add, Int.natCast_add, Int.mul_add]
  omega
theorem slack_nopos (hn : n ≤ 6) (ha : BdM n n 1000 a) (ht : Top n a (Seen n (n + 1) 0) num den) : NoPos n (slackf num den a) := by
 intro k i hk hkn hi
 by_cases e : powf n (slackf num den a) k i i = NEV
 ·
  rw [e]; decide
 obtain ⟨v, hv, v0, vL, vw⟩ := pow_att k i i hi hi e
 have hv' := slack_wk ha ht hv
 have h1 := pow_ge ha jj k v jj hv'
 rw [v0, vL] at h1
 have h2 : powf n a k i i ≠ NEV := by
  have := (wt_bd ha hv').1
  intro e2
  rw [e2] at h1
  have n1 : (NEV : Int) = -1152921504606846976 := rfl
  omega
 have h3 := ht.top k i ⟨hk, hi, .inl jj⟩ h2
 have h4 := Int.mul_le_mul_of_nonneg_right h1 (by have := ht.den0; omega : (0 : Int) ≤ den)
 rw [← vw, slack_wt hv', Int.mul_comm den]
 omega
end
theorem slack_f {n : Nat} {A : List (List Int)} (hA : Arg n A) {num den : Int} {B : Nat → Nat → Prop} (ht : Top n (ent A) B num den) : Ev (fun k => lgslack.f k A num den) (mat n (slackf num den (ent A))) := by
 have h6 := hA.six
 refine mapped_f (g := fun e => den * e - num) jj hA.is fun i j hi hj hne => ?_
 have b := (hA.bd i j hi hj).resolve_left hne
 have := den_mul b.1 b.2 ht.den0 ht.den6
 have := ht.lo
 have := ht.hi
 unfold lgslack_1.f
 rw [wr (x := den * ent A i j) jj jj, wr jj jj]
theorem looked_f {n : Nat} {A : List (List Int)} (hA : Arg n A) (ra : Rows A) :
  ((∀ k i, Seen n (n + 1) 0 k i → powf n (ent A) k i i = NEV) ∧ Ev (fun k => line_looked.f k A) ([], 0, 0, [], [], 10) ∧ ∃ x y, Ev (fun k => lgpace.f k A) (x, y, false)) ∨
  ∃ num den, Top n (ent A) (Seen n (n + 1) 0) num den ∧ Ev (fun k => lgpace.f k A) (num, den, true) ∧
   Ev (fun k => line_looked.f k A) (A, num, den, mat n (slackf num den (ent A)), mat n (fwk (slackf num den (ent A)) n), 0) := by
 have h6 := hA.six
 have eo := ((of_f A ra).resolve_right (fun h => h.1 ⟨n, hA⟩)).2
 obtain ⟨⟨num, den, f⟩, ep, hb⟩ := pace_f hA
 rcases hb with ⟨e, h⟩ | ⟨e, h⟩
 ·
  obtain rfl : f = false := e
  refine .inl ⟨h, ?_, num, den, ep⟩
  unfold line_looked.f
  exact Ev.bind eo (Ev.congr (fun k => if_pos rfl) (Ev.bind ep (ev_some fun k => if_neg (by simp))))
 ·
  obtain rfl : f = true := e
  refine .inr ⟨num, den, h, ep, ?_⟩
  have hbd := slack_bd hA.bd h
  have em : ∀ i j, i < n → j < n → ent (mat n (slackf num den (ent A))) i j = slackf num den (ent A) i j := fun i j hi hj => ent_mat _ hi hj
  have t6 : ((2 ^ n : Nat) : Int) ≤ 64 := by
   have : 2 ^ n ≤ 2 ^ 6 := Nat.pow_le_pow_right jj h6
   omega
  have ec := closed_mat (n := n) (M := 12000) jj hbd jj jj jj (slack_nopos h6 hA.bd h)
  unfold line_looked.f
  exact Ev.bind eo (Ev.congr (fun k => if_pos rfl) (Ev.bind ep (Ev.congr (fun k => if_pos rfl) (Ev.bind (slack_f hA h) (Ev.bind ec (Ev.now _))))))
theorem Contains_f (l : List Int) (hl : l.length ≤ 1000) (x : Int) : ∃ b, Ev (fun k => slices_Contains_int_int.f k l x) b ∧ (b = true ↔ ∃ j, j < l.length ∧ l.getD j 0 = x) := by
 obtain ⟨v, hv, hi⟩ := index_ev (fun k a b c => slices_Index_int_int.l0 k a x b c) (fun y => some (decide (x = y))) (fun y => decide (x = y)) (fun _ => rfl) (fun k x0 x7 x8 => by
  simp only [slices_Index_int_int.l0, Option.bind_some, decide_eq_true_eq]) l jj l.length 0 jj
 refine ⟨decide (v ≥ 0), Ev.bind hv (Ev.now _), ?_⟩
 rw [decide_eq_true_eq, ge_iff_le, hi]
 constructor
 ·
  rintro ⟨j, _, h2, h3⟩; exact ⟨j, h2, (of_decide_eq_true h3).symm⟩
 ·
  rintro ⟨j, h2, h3⟩; exact ⟨j, by omega, h2, decide_eq_true h3.symm⟩
theorem connIndex_l0 (A : List (List Int)) (n : Nat) (hn : n ≤ 1000) (hA : IsMat n A) : ∀ d i, i + d = n →
  ∃ v : Int, Ev (fun k => sifconnected_1.l0 k A (n : Int) (i : Int)) v ∧ (0 ≤ v ↔ ∃ p q, i ≤ p ∧ p < n ∧ q < n ∧ ent A p q = NEV) := by
 have hl := hA.1
 intro d
 induction d with
 | zero =>
  intro i hi
  refine ⟨-1, ev_now fun k => ?_, ⟨fun h => by omega, fun ⟨p, q, h1, h2, _⟩ => by omega⟩⟩
  simp only [sifconnected_1.l0]
  rw [ji]
 | succ d ih =>
  intro i hi
  have hr := hA.2 i jj
  obtain ⟨b, hb, hbi⟩ := Contains_f (A.getD i []) jj (-1152921504606846976)
  have e : Ev (fun k => lgconnected_1.f k (A.getD i [])) b := by
   unfold lgconnected_1.f line_never_int.f
   simp only [Option.bind_some]
   exact Ev.bind hb (Ev.now _)
  have step : ∀ k, sifconnected_1.l0 (k + 1) A (n : Int) (i : Int) = (lgconnected_1.f k (A.getD i [])).bind fun t => if t = true then some (i : Int) else sifconnected_1.l0 k A (n : Int) ((i + 1 : Nat) : Int) := fun k => by
   simp only [sifconnected_1.l0]
   rw [jh, jh, jh, rdL, wr1 i jj]
  by_cases h : b = true
  ·
   obtain ⟨q, h1, h2⟩ := hbi.1 h
   exact ⟨i, Ev.step step (Ev.bind e (ev_some fun k => if_pos h)), ⟨fun _ => ⟨i, q, by omega, by omega, by omega, h2⟩, fun _ => by omega⟩⟩
  ·
   obtain ⟨v, hv, hvi⟩ := ih (i + 1) jj
   refine ⟨v, Ev.step step (Ev.bind e (Ev.congr (fun k => if_neg h) hv)), ?_⟩
   rw [hvi]
   constructor
   ·
    rintro ⟨p, q, h1, h2⟩; exact ⟨p, q, by omega, h2⟩
   ·
    rintro ⟨p, q, h1, h2, h3, h4⟩
    refine ⟨p, q, ?_, h2, h3, h4⟩
    by_cases e2 : p = i
    ·
     subst e2; exact absurd (hbi.2 ⟨q, by omega, h4⟩) h
    ·
     omega
def zerof (a : Nat → Nat → Int) : Nat → Nat → Int := mapf (fun _ => 0) a
theorem zero_bd (n : Nat) (a : Nat → Nat → Int) : BdM n n 0 (zerof a) := fun i j _ _ => by
 unfold zerof mapf
 split
 ·
  exact .inl rfl
 ·
  exact .inr ⟨(by decide : -(0 : Int) ≤ 0), (by decide : (0 : Int) ≤ 0)⟩
theorem zero_wt {n : Nat} {a : Nat → Nat → Int} {v : Nat → Nat} {L : Nat} (h : Wk n (zerof a) v L) : wt (zerof a) v L = 0 := by
 have := wt_bd (zero_bd n a) h
 omega
theorem zero_nopos (n : Nat) (a : Nat → Nat → Int) : NoPos n (zerof a) := by
 intro k i _ _ hi
 by_cases e : powf n (zerof a) k i i = NEV
 ·
  rw [e]; decide
 ·
  obtain ⟨v, hv, _, _, vw⟩ := pow_att k i i hi hi e
  rw [← vw, zero_wt hv]; decide
theorem connected_f {n : Nat} {A : List (List Int)} (hA : Arg n A) : ∃ b, Ev (fun k => lgconnected.f k A) b ∧ (b = true ↔ ∀ i j, i < n → j < n → fwk (zerof (ent A)) n i j ≠ NEV) := by
 have h6 := hA.six
 have e1 : Ev (fun k => lgmapped_reach_1.f k A 0) (mat n (zerof (ent A))) := mapped_f (g := fun _ => 0) jj hA.is fun _ _ _ _ _ => rfl
 have e2 := closed_mat (n := n) (M := 0) jj (zero_bd n (ent A)) jj jj jj (zero_nopos n (ent A))
 obtain ⟨v, hv, hi⟩ := connIndex_l0 (mat n (fwk (zerof (ent A)) n)) n jj (isMat_mat n _) n 0 jj
 refine ⟨!(decide (v ≥ 0)), ?_, ?_⟩
 ·
  unfold lgconnected.f lgreach.f
  refine Ev.bind (Ev.bind e1 (Ev.bind e2 (Ev.now _))) (Ev.bind (Ev.bind (f := fun _ t => some (decide (t ≥ 0))) ?_ (Ev.now _)) (Ev.now _))
  unfold sifconnected_1.f
  rw [yE]
  exact hv
 ·
  rw [Bool.not_eq_true', decide_eq_false_iff_not]
  constructor
  ·
   intro h i j hi' hj' e
   exact h (hi.2 ⟨i, j, by omega, hi', hj', by rw [ent_mat _ hi' hj']; exact e⟩)
  ·
   intro h hv'
   obtain ⟨p, q, _, h2, h3, h4⟩ := hi.1 hv'
   rw [ent_mat _ h2 h3] at h4
   exact h p q h2 h3 h4
def colv (n : Nat) (d : Nat → Nat → Int) (c : Nat) : List Int := vec n (fun i => d i c)
def lessv (n : Nat) (f : Nat → Int) (m : Int) (i : Nat) : List Int := vec n (fun q => if q < i then f q - m else f q)
theorem lessv_set (n : Nat) (f : Nat → Int) (m : Int) (i : Nat) : (lessv n f m i).set i (f i - m) = lessv n f m (i + 1) := by
 refine range_map_set n _ _ i _ (fun _ => jh) (fun b _ hb => ?_)
 by_cases h : b < i
 ·
  rw [jh, if_pos h]
 ·
  rw [ji, if_neg h]
theorem Eigen_l1 {n : Nat} (hn : n ≤ 1000) (f : Nat → Int) (m : Int) (hf : ∀ i, i < n → -9223372036854775808 ≤ f i - m ∧ f i - m ≤ 9223372036854775807) : ∀ d i, i + d = n →
  Ev (fun k => line_Eigen.l1 k (lessv n f m i) m (n : Int) (i : Int)) (vec n (fun q => f q - m), 0) := by
 intro d
 induction d with
 | zero =>
  intro i hi
  obtain rfl : i = n := by omega
  refine ev_now fun k => ?_
  simp only [line_Eigen.l1]
  rw [ji]
  have : lessv i f m i = vec i (fun q => f q - m) := vec_congr fun q hq => if_pos hq
  rw [this]
 | succ d ih =>
  intro i hi
  have hl : (lessv n f m i).length = n := yB _ _
  have hb := hf i jj
  refine Ev.step (fun k => ?_) (ih (i + 1) jj)
  simp only [line_Eigen.l1]
  have e : (lessv n f m i).getD i 0 = f i := by
   unfold lessv
   rw [vec_get _ jj, ji]
  rw [jh, jh, jh, rdI, e, wr1 i jj, wr hb.1 hb.2, toN, lessv_set]
theorem Eigen_l0 {n : Nat} (hn : n ≤ 1000) (L S : List (List Int)) (u v : Int) (d : Nat → Nat → Int) (c : Nat) (hc : c < n) (r : List Int × Int)
  (hr : Ev (fun k => (slices_Min_int_int.f k (colv n d c)).bind fun t => line_Eigen.l1 k (colv n d c) t (n : Int) ((0 : Nat) : Int)) r) : ∀ e i, i + e = n →
  Ev (fun k => line_Eigen.l0 k (c : Int) (vpart n (fun q => d q c) i) (n : Int) (i : Int) L u v S (mat n d)) r := by
 intro e
 induction e with
 | zero =>
  intro i hi
  obtain rfl : i = n := by omega
  have e1 : vpart i (fun q => d q c) i = colv i d c := vec_congr fun q hq => if_pos hq
  refine Ev.step (fun k => ?_) hr
  simp only [line_Eigen.l0]
  rw [ji, e1, show (colv i d c).length = i from yB _ _]
  rfl
 | succ e ih =>
  intro i hi
  have hi' : i < n := by omega
  have hl := vpart_length n (fun q => d q c) i
  refine Ev.step (fun k => ?_) (ih (i + 1) jj)
  simp only [line_Eigen.l0]
  rw [jh, jh, if_pos (by rw [yE]; omega), jh, rdL, rdI, mat_get _ hi', yB, jh, jh, vec_get _ hc, wr1 i jj, toN]
  have := vpart_set n (fun q => d q c) i
  rw [this]
theorem pow6 {n : Nat} (h : n ≤ 6) : ((2 ^ n : Nat) : Int) ≤ 64 := by
 have : 2 ^ n ≤ 2 ^ 6 := Nat.pow_le_pow_right jj h
 omega
theorem crit_ex {n : Nat} {a : Nat → Nat → Int} {num den : Int} (hn : n ≤ 6) (ha : BdM n n 1000 a) (ht : Top n a (Seen n (n + 1) 0) num den) :
  ∃ i j, i < n ∧ j < n ∧ crit (slackf num den a) (fwk (slackf num den a) n) i j = true := by
 have t6 := pow6 hn
 have hs := slack_bd ha ht
 have hp := slack_nopos hn ha ht
 obtain ⟨k, i, hS, hne, he⟩ := ht.att
 have hi := hS.2.1
 have hk := hS.1
 obtain ⟨v, hv, v0, vL, vw⟩ := pow_att k i i hi hi hne
 have hw : wt (slackf num den a) v k = 0 := by
  rw [slack_wt hv, vw, Int.mul_comm den]
  omega
 have hv' := slack_wk' ha ht hv
 obtain ⟨q, rfl⟩ : ∃ q, k = q + 1 := ⟨k - 1, by omega⟩
 have hj := hv.lt q jj
 have w := walk_star hs jj jj hp jj jj q (hv'.left jj)
 have harc := hv'.arc q jj
 have hst := star_step hs jj jj hp jj jj i (v q) i hi hj hi
 rw [fwk_diag hs jj jj hp jj hi] at hst
 rw [vL] at harc
 rw [v0] at w
 have hsum : wt (slackf num den a) v q + slackf num den a i (v q) = 0 := by rw [← hw, ← vL]; rfl
 have hpl : pl (slackf num den a i (v q)) (fwk (slackf num den a) n (v q) i) = slackf num den a i (v q) + fwk (slackf num den a) n (v q) i := by
  unfold pl; rw [if_neg harc, if_neg w.1]
 refine ⟨i, v q, hi, hj, ?_⟩
 unfold crit
 rw [hpl] at hst ⊢
 have := w.2
 rw [beq_iff_eq]
 omega
theorem critL_head {n : Nat} {s d : Nat → Nat → Int} (h : ∃ i j, i < n ∧ j < n ∧ crit s d i j = true) : ∃ c : Nat, c < n ∧ (∃ j, j < n ∧ crit s d c j = true) ∧ 0 < (critL n s d n).length ∧ rd (critL n s d n) 0 = (c : Int) := by
 have hmem : ∀ x, x ∈ (List.range n).filter (critV n s d) → x < n ∧ ∃ j, j < n ∧ crit s d x j = true := by
  intro x hx
  rw [List.mem_filter] at hx
  obtain ⟨h1, h2⟩ := hx
  unfold critV at h2
  rw [List.any_eq_true] at h2
  obtain ⟨j, h3, h4⟩ := h2
  exact ⟨List.mem_range.1 h1, j, List.mem_range.1 h3, h4⟩
 obtain ⟨i, j, hi, hj, hc⟩ := h
 have hin : i ∈ (List.range n).filter (critV n s d) := by
  rw [List.mem_filter]
  refine ⟨List.mem_range.2 hi, ?_⟩
  unfold critV
  rw [List.any_eq_true]
  exact ⟨j, List.mem_range.2 hj, hc⟩
 unfold critL
 cases hl : (List.range n).filter (critV n s d) with
 | nil => rw [hl] at hin; cases hin
 | cons x xs =>
  have := hmem x (by rw [hl]; exact List.mem_cons_self)
  exact ⟨x, this.1, this.2, by simp, rfl⟩
def Conn (n : Nat) (a : Nat → Nat → Int) : Prop := ∀ i j, i < n → j < n → ∃ L v, Wk n a v L ∧ v 0 = j ∧ v L = i
theorem zero_wk {n : Nat} {a : Nat → Nat → Int} {v : Nat → Nat} {L : Nat} : Wk n (zerof a) v L ↔ Wk n a v L := by
 have e : ∀ i j, zerof a i j = NEV ↔ a i j = NEV := fun i j => by
  unfold zerof mapf
  by_cases h : a i j = NEV
  ·
   rw [if_pos h]; exact ⟨fun _ => h, fun _ => rfl⟩
  ·
   rw [if_neg h]; exact ⟨fun h2 => absurd (show (0 : Int) = NEV from h2) (by decide), fun h2 => absurd h2 h⟩
 exact ⟨fun h => ⟨h.lt, fun t ht h2 => h.arc t ht ((e _ _).2 h2)⟩, fun h => ⟨h.lt, fun t ht h2 => h.arc t ht ((e _ _).1 h2)⟩⟩
theorem conn_iff {n : Nat} (_hn : n ≤ 6) (a : Nat → Nat → Int) : (∀ i j, i < n → j < n → fwk (zerof a) n i j ≠ NEV) ↔ Conn n a := by
 have hz : BdM n n 0 (zerof a) := zero_bd n a
 constructor
 ·
  intro h i j hi hj
  rcases fwk_att (a := zerof a) n jj i j hi hj with e | ⟨L, v, hv, v0, vL, _⟩
  ·
   exact absurd e (h i j hi hj)
  ·
   exact ⟨L, v, zero_wk.1 hv, v0, vL⟩
 ·
  intro h i j hi hj
  obtain ⟨L, v, hv, v0, vL⟩ := h i j hi hj
  have := (walk_star hz jj jj (zero_nopos n a) jj jj L (zero_wk.2 hv)).1
  rwa [v0, vL] at this
theorem Conn.star {n : Nat} {a : Nat → Nat → Int} (h : Conn n a) {num den : Int} (hn : n ≤ 6) (ha : BdM n n 1000 a) (ht : Top n a (Seen n (n + 1) 0) num den) (i j : Nat) (hi : i < n) (hj : j < n) : fwk (slackf num den a) n i j ≠ NEV := by
 have t6 := pow6 hn
 obtain ⟨L, v, hv, v0, vL⟩ := h i j hi hj
 have := (walk_star (slack_bd ha ht) jj jj (slack_nopos hn ha ht) jj jj L (slack_wk' ha ht hv)).1
 rwa [v0, vL] at this
structure EigIs (n : Nat) (a : Nat → Nat → Int) (num den : Int) (c : Nat) (m : Int) : Prop where
 top : Top n a (Seen n (n + 1) 0) num den
 conn : Conn n a
 lt : c < n
 head : rd (critL n (slackf num den a) (fwk (slackf num den a) n) n) 0 = (c : Int)
 crit : ∃ j, j < n ∧ pl (slackf num den a c j) (fwk (slackf num den a) n j c) = 0
 le : ∀ i, i < n → m ≤ fwk (slackf num den a) n i c
 mem : ∃ i, i < n ∧ m = fwk (slackf num den a) n i c
def eigv (n : Nat) (a : Nat → Nat → Int) (num den : Int) (c : Nat) (m : Int) (i : Nat) : Int := fwk (slackf num den a) n i c - m
theorem Eigen_no {A : List (List Int)} (ra : Rows A) (h : ¬ ∃ n, Arg n A) : Ev (fun k => line_Eigen.f k A) ([], 2) ∧ Ev (fun k => line_Speed.f k A) (0, 0, 2) := by
 have eo := ((of_f A ra).resolve_left (fun h2 => h h2.1)).2
 have e1 : Ev (fun k => line_looked.f k A) ([], 0, 0, [], [], 2) := by
  unfold line_looked.f
  exact Ev.bind eo (ev_some fun k => if_neg (by decide))
 constructor
 ·
  unfold line_Eigen.f
  exact Ev.bind e1 (ev_some fun k => if_neg (by decide))
 ·
  unfold line_Speed.f
  exact Ev.bind eo (ev_some fun k => if_neg (by decide))
theorem eig_bd {n : Nat} (hn : n ≤ 6) {a : Nat → Nat → Int} (ha : BdM n n 1000 a) {num den : Int} (ht : Top n a (Seen n (n + 1) 0) num den) : BdM n n 768000 (fwk (slackf num den a) n) := fun i j hi hj => by
 have t6 := pow6 hn
 exact (fwk_bd (slack_bd ha ht) jj n jj i j hi hj).mono jj
theorem Eigen_f {n : Nat} {A : List (List Int)} (hA : Arg n A) (ra : Rows A) :
  ((∀ k i, Seen n (n + 1) 0 k i → powf n (ent A) k i i = NEV) ∧ Ev (fun k => line_Eigen.f k A) ([], 10) ∧ Ev (fun k => line_Speed.f k A) (0, 0, 10)) ∨
  ∃ num den, Top n (ent A) (Seen n (n + 1) 0) num den ∧ Ev (fun k => line_Speed.f k A) (num, den, 0) ∧
   ((¬ Conn n (ent A) ∧ Ev (fun k => line_Eigen.f k A) ([], 10)) ∨
   ∃ c m, EigIs n (ent A) num den c m ∧ Ev (fun k => line_Eigen.f k A) (vec n (eigv n (ent A) num den c m), 0)) := by
 have h6 := hA.six
 have h1 := hA.one
 have eo := ((of_f A ra).resolve_right (fun h => h.1 ⟨n, hA⟩)).2
 rcases looked_f hA ra with ⟨h, el, x, y, ep⟩ | ⟨num, den, ht, ep, el⟩
 ·
  refine .inl ⟨h, ?_, ?_⟩
  ·
   unfold line_Eigen.f
   exact Ev.bind el (ev_some fun k => if_neg (by decide))
  ·
   unfold line_Speed.f
   exact Ev.bind eo (Ev.congr (fun k => if_pos rfl) (Ev.bind ep (ev_some fun k => if_neg (by simp))))
 ·
  refine .inr ⟨num, den, ht, ?_, ?_⟩
  ·
   unfold line_Speed.f
   exact Ev.bind eo (Ev.congr (fun k => if_pos rfl) (Ev.bind ep (ev_some fun k => if_pos rfl)))
  obtain ⟨b, hb, hbi⟩ := connected_f hA
  rw [conn_iff h6] at hbi
  cases b with
  | false =>
   refine .inl ⟨fun h => absurd (hbi.2 h) (by decide), ?_⟩
   unfold line_Eigen.f
   exact Ev.bind el (Ev.congr (fun k => if_pos rfl) (Ev.bind hb (ev_some fun k => if_neg (by decide))))
  | true =>
   have hc := hbi.1 rfl
   have hbd := slack_bd hA.bd ht
   have hB := eig_bd h6 hA.bd ht
   have ev := vertices_f (n := n) jj A num den hbd hB jj jj jj
   obtain ⟨c, hcn, ⟨j, hj, hcj⟩, hlen, hrd⟩ := critL_head (crit_ex h6 hA.bd ht)
   have fin : ∀ i, i < n → -768000 ≤ fwk (slackf num den (ent A)) n i c ∧ fwk (slackf num den (ent A)) n i c ≤ 768000 := fun i hi => (hB i c hi hcn).resolve_left (hc.star h6 hA.bd ht i c hi hcn)
   have hcol : ∀ i, i < n → (colv n (fwk (slackf num den (ent A)) n) c).getD i 0 = fwk (slackf num den (ent A)) n i c := fun i hi => vec_get _ hi
   have hle := fun i (hi : i < n) => least_le (colv n (fwk (slackf num den (ent A)) n) c) (n - 1) i jj
   obtain ⟨q, hq, hmem⟩ := least_mem (colv n (fwk (slackf num den (ent A)) n) c) (n - 1)
   have emin := Min_f (colv n (fwk (slackf num den (ent A)) n) c) n jj h1 (yB _ _)
   revert hle hmem emin
   generalize least (colv n (fwk (slackf num den (ent A)) n) c) (n - 1) = m
   intro hle hmem emin
   rw [hcol q jj] at hmem
   have hle' : ∀ i, i < n → m ≤ fwk (slackf num den (ent A)) n i c := fun i hi => by rw [← hcol i hi]; exact hle i hi
   have hm := fin q jj
   refine .inr ⟨c, m, ⟨ht, hc, hcn, hrd, ⟨j, hj, beq_iff_eq.1 hcj⟩, hle', q, by omega, hmem⟩, ?_⟩
   have e1 := Eigen_l1 (n := n) jj (fun i => fwk (slackf num den (ent A)) n i c) m (fun i hi => by have := fin i hi; omega) n 0 jj
   have e0 : lessv n (fun i => fwk (slackf num den (ent A)) n i c) m 0 = colv n (fwk (slackf num den (ent A)) n) c := vec_congr fun q _ => ji
   rw [e0] at e1
   have e2 := Eigen_l0 (n := n) jj A (mat n (slackf num den (ent A))) num den (fwk (slackf num den (ent A)) n) c hcn _ (Ev.bind emin e1) n 0 jj
   unfold line_Eigen.f
   refine Ev.bind el (Ev.congr (fun k => if_pos rfl) (Ev.bind hb (Ev.congr (fun k => if_pos rfl) (Ev.bind ev ?_))))
   refine Ev.congr (fun k => ?_) e2
   have hl := hA.is.1
   rw [jh, jh, toN, jh, hl, hrd]
   have e3 : List.replicate n (0 : Int) = vpart n (fun q => fwk (slackf num den (ent A)) n q c) 0 := by
    apply List.ext_getElem
    ·
     rw [List.length_replicate, vpart_length]
    ·
     intro i h1 h2; simp [vpart, vec]
   rw [e3]
   simp only [Option.bind_some]
   rw [vpart_length]
   rfl
def arcf (s d : Nat → Nat → Int) (i j : Nat) : Int := if crit s d i j = true then 0 else NEV
theorem arc_bd (n : Nat) (s d : Nat → Nat → Int) : BdM n n 0 (arcf s d) := fun i j _ _ => by
 unfold arcf
 split
 ·
  exact .inr ⟨(by decide : -(0 : Int) ≤ 0), (by decide : (0 : Int) ≤ 0)⟩
 ·
  exact .inl rfl
theorem arc_wt {n : Nat} {s d : Nat → Nat → Int} {v : Nat → Nat} {L : Nat} (h : Wk n (arcf s d) v L) : wt (arcf s d) v L = 0 := by
 have := wt_bd (arc_bd n s d) h
 omega
theorem arc_nopos (n : Nat) (s d : Nat → Nat → Int) : NoPos n (arcf s d) := by
 intro k i _ _ hi
 by_cases e : powf n (arcf s d) k i i = NEV
 ·
  rw [e]; decide
 ·
  obtain ⟨v, hv, _, _, vw⟩ := pow_att k i i hi hi e
  rw [← vw, arc_wt hv]; decide
theorem arc_crit {s d : Nat → Nat → Int} {i j : Nat} : arcf s d i j ≠ NEV ↔ pl (s i j) (d j i) = 0 := by
 unfold arcf crit
 by_cases h : pl (s i j) (d j i) = 0
 ·
  rw [if_pos (beq_iff_eq.2 h)]
  exact ⟨fun _ => h, fun _ => by decide⟩
 ·
  rw [if_neg (fun h2 => h (beq_iff_eq.1 h2))]
  exact ⟨fun h2 => absurd rfl h2, fun h2 => absurd h2 h⟩
structure Ok (n : Nat) (s : Nat → Nat → Int) : Prop where
 one : 1 ≤ n
 six : n ≤ 6
 bd : BdM n n 12000 s
 no : NoPos n s
section
variable {n : Nat} {s : Nat → Nat → Int}
theorem Ok.two (h : Ok n s) : (12000 : Int) * ((2 ^ n : Nat) : Int) < 100000000000000000 := by have := pow6 h.six; omega
theorem Ok.hs (h : Ok n s) : (12000 : Int) * (n : Nat) < 1152921504606846976 := by have := h.six; omega
theorem Ok.pl0 (h : Ok n s) {i j : Nat} (hi : i < n) (hj : j < n) {x : Int} {K : Nat} (hne : s i j ≠ NEV) (hg : Go n s i j K x) (hx : 0 ≤ s i j + x) : arcf s (fwk s n) i j ≠ NEV := by
 obtain ⟨v, hv, v0, vL, vw⟩ := hg
 have h1 := walk_star h.bd jj h.hs h.no h.two jj K hv
 rw [v0, vL, vw] at h1
 have h2 := star_step h.bd jj h.hs h.no h.two jj i j i hi hj hi
 rw [fwk_diag h.bd jj h.hs h.no jj hi] at h2
 refine arc_crit.2 ?_
 unfold pl at h2 ⊢
 rw [if_neg hne, if_neg h1.1] at h2 ⊢
 omega
theorem Ok.back (_h : Ok n s) {i j : Nat} (hi : i < n) (hj : j < n) (hc : arcf s (fwk s n) i j ≠ NEV) : s i j ≠ NEV ∧ ∃ K, Go n s i j K (-(s i j)) := by
 have h1 := arc_crit.1 hc
 have n1 : s i j ≠ NEV := fun e => by rw [e, pl_nev_left] at h1; exact absurd h1 (by decide)
 have n2 : fwk s n j i ≠ NEV := fun e => by rw [e, pl_nev_right] at h1; exact absurd h1 (by decide)
 unfold pl at h1
 rw [if_neg n1, if_neg n2] at h1
 refine ⟨n1, ?_⟩
 rcases fwk_att (a := s) n jj j i hj hi with e | ⟨K, v, hv, v0, vL, vw⟩
 ·
  exact absurd e n2
 ·
  exact ⟨K, v, hv, v0, vL, by omega⟩
theorem Ok.wk (h : Ok n s) {v : Nat → Nat} {L : Nat} (hv : Wk n (arcf s (fwk s n)) v L) : Wk n s v L :=
 ⟨hv.lt, fun t ht => (h.back (hv.lt _ jj) (hv.lt _ jj) (hv.arc t ht)).1⟩
theorem Ok.return_ (h : Ok n s) {v : Nat → Nat} : ∀ {L : Nat}, Wk n (arcf s (fwk s n)) v L → ∃ K, Go n s (v L) (v 0) K (-(wt s v L)) := by
 intro L
 induction L with
 | zero => intro hv; exact ⟨0, Go.nil (hv.lt 0 jj)⟩
 | succ L ih =>
  intro hv
  obtain ⟨K, hK⟩ := ih (hv.left jj)
  obtain ⟨_, K2, hK2⟩ := h.back (hv.lt (L + 1) jj) (hv.lt L jj) (hv.arc L jj)
  refine ⟨K2 + K, ?_⟩
  have := hK2.cat hK
  rwa [show -(s (v (L + 1)) (v L)) + -(wt s v L) = -(wt s v (L + 1)) by show _ = -(wt s v L + s (v (L + 1)) (v L)); omega] at this
theorem Ok.zero (h : Ok n s) {v : Nat → Nat} {L : Nat} (hv : Wk n (arcf s (fwk s n)) v L) (e : v 0 = v L) : wt s v L = 0 := by
 obtain ⟨K, hK⟩ := h.return_ hv
 rw [e] at hK
 have h1 := hK.closed h.bd jj h.hs h.no
 have h2 := closed_le h.bd jj h.hs h.no L v (h.wk hv) e
 omega
theorem Ok.crit (h : Ok n s) {v : Nat → Nat} {L : Nat} (hv : Wk n s v L) (e : v 0 = v L) (e0 : wt s v L = 0) : Wk n (arcf s (fwk s n)) v L := by
 refine ⟨hv.lt, fun t ht => ?_⟩
 obtain ⟨r, rfl⟩ : ∃ r, L = t + 1 + r := ⟨L - (t + 1), by omega⟩
 have w1 := wt_add s v (t + 1) r
 have g1 : Go n s (v 0) (v t) t (wt s v t) := ⟨v, hv.left jj, rfl, rfl, rfl⟩
 have g2 : Go n s (v (t + 1)) (v (t + 1 + r)) r (wt s (fun q => v (q + (t + 1))) r) := ⟨fun q => v (q + (t + 1)), Wk.shift hv, by simp, by show v (r + (t + 1)) = v (t + 1 + r); rw [Nat.add_comm], rfl⟩
 rw [← e] at g2
 have w2 : wt s v (t + 1) = wt s v t + s (v (t + 1)) (v t) := rfl
 exact h.pl0 (hv.lt _ jj) (hv.lt _ jj) (hv.arc t jj) (g2.cat g1) jj
theorem Ok.pow_iff (h : Ok n s) {j k : Nat} (hj : j < n) : powf n (arcf s (fwk s n)) k j j = 0 ↔ Z n s j k := by
 constructor
 ·
  intro e
  obtain ⟨v, hv, v0, vL, _⟩ := pow_att (a := arcf s (fwk s n)) k j j hj hj (by rw [e]; decide)
  exact ⟨v, h.wk hv, v0, vL, h.zero hv (by rw [v0, vL])⟩
 ·
  rintro ⟨v, hv, v0, vL, vw⟩
  have hc := h.crit hv (by rw [v0, vL]) vw
  have h1 := pow_ge (arc_bd n s (fwk s n)) jj k v jj hc
  rw [arc_wt hc, v0, vL] at h1
  have n1 : (NEV : Int) = -1152921504606846976 := rfl
  have h2 := BdM.pow (arc_bd n s (fwk s n)) k j j hj hj
  rcases h2 with h2 | h2 <;> omega
theorem Ok.reach_iff (h : Ok n s) {i j : Nat} (hi : i < n) (hj : j < n) : fwk (arcf s (fwk s n)) n i j = 0 ↔ ∃ v L, Wk n (arcf s (fwk s n)) v L ∧ v 0 = j ∧ v L = i := by
 have n1 : (NEV : Int) = -1152921504606846976 := rfl
 have h6 := h.six
 constructor
 ·
  intro e
  rcases fwk_att (a := arcf s (fwk s n)) n jj i j hi hj with e2 | ⟨L, v, hv, v0, vL, _⟩
  ·
   omega
  ·
   exact ⟨v, L, hv, v0, vL⟩
 ·
  rintro ⟨v, L, hv, v0, vL⟩
  have h1 := (walk_star (arc_bd n s (fwk s n)) jj jj (arc_nopos n s (fwk s n)) jj jj L hv).1
  rw [v0, vL] at h1
  have h2 := fwk_bd (arc_bd n s (fwk s n)) jj n jj i j hi hj
  rcases h2 with h2 | h2 <;> omega
def Same (n : Nat) (s : Nat → Nat → Int) (i j : Nat) : Prop := ∃ K L x, Go n s i j K x ∧ Go n s j i L (-x)
theorem Ok.same_iff (h : Ok n s) {i j : Nat} (hi : i < n) (hj : j < n) : (fwk (arcf s (fwk s n)) n i j = 0 ∧ fwk (arcf s (fwk s n)) n j i = 0) ↔ Same n s i j := by
 rw [h.reach_iff hi hj, h.reach_iff hj hi]
 constructor
 ·
  rintro ⟨⟨v, L, hv, v0, vL⟩, ⟨u, K, hu, u0, uK⟩⟩
  obtain ⟨w, hw, w0, wL, ww⟩ := Go.cat (a := arcf s (fwk s n)) (n := n) (j := i) (k := j) (i := i) ⟨u, hu, u0, uK, rfl⟩ ⟨v, hv, v0, vL, rfl⟩
  have z := h.zero hw (by rw [w0, wL])
  have g1 : Go n s i j K (wt s u K) := ⟨u, h.wk hu, u0, uK, rfl⟩
  have g2 : Go n s j i L (wt s v L) := ⟨v, h.wk hv, v0, vL, rfl⟩
  have b1 := (g1.cat g2).closed h.bd jj h.hs h.no
  obtain ⟨K1, r1⟩ := h.return_ hu
  obtain ⟨K2, r2⟩ := h.return_ hv
  rw [u0, uK] at r1
  rw [v0, vL] at r2
  have b2 := (r1.cat r2).closed h.bd jj h.hs h.no
  refine ⟨K, L, wt s u K, g1, ?_⟩
  rwa [show -(wt s u K) = wt s v L by omega]
 ·
  rintro ⟨K, L, x, g1, g2⟩
  have g := g1.cat g2
  obtain ⟨w, hw, w0, wL, ww⟩ := g1
  obtain ⟨w', hw', w0', wL', ww'⟩ := g2
  have key : ∀ (p q : Nat) (u u' : Nat → Nat) (P Q : Nat), Wk n s u P → u 0 = p → u P = q → Wk n s u' Q → u' 0 = q → u' Q = p → wt s u P + wt s u' Q = 0 → ∃ v L, Wk n (arcf s (fwk s n)) v L ∧ v 0 = p ∧ v L = q := by
   intro p q u u' P Q h1 h2 h3 h4 h5 h6 h7
   have hu : Wk n (arcf s (fwk s n)) u P := by
    refine ⟨h1.lt, fun t ht => ?_⟩
    obtain ⟨r, rfl⟩ : ∃ r, P = t + 1 + r := ⟨P - (t + 1), by omega⟩
    have w1 := wt_add s u (t + 1) r
    have a1 : Go n s p (u t) t (wt s u t) := ⟨u, h1.left jj, h2, rfl, rfl⟩
    have a2 : Go n s (u (t + 1)) q r (wt s (fun q => u (q + (t + 1))) r) := ⟨fun q => u (q + (t + 1)), Wk.shift h1, by simp, by show u (r + (t + 1)) = q; rw [Nat.add_comm]; exact h3, rfl⟩
    have a3 : Go n s q p Q (wt s u' Q) := ⟨u', h4, h5, h6, rfl⟩
    have w2 : wt s u (t + 1) = wt s u t + s (u (t + 1)) (u t) := rfl
    exact h.pl0 (h1.lt _ jj) (h1.lt _ jj) (h1.arc t jj) ((a2.cat a3).cat a1) jj
   exact ⟨u, P, hu, h2, h3⟩
  exact ⟨key j i w' w L K hw' w0' wL' hw w0 wL jj, key i j w w' K L hw w0 wL hw' w0' wL' jj⟩
theorem Same.conj {i j L : Nat} (h : Same n s i j) (hz : Z n s j L) : ∃ K, Z n s i K ∧ Z n s i (K + L) := by
 obtain ⟨P, Q, x, g1, g2⟩ := h
 refine ⟨P + Q, ?_, ?_⟩
 ·
  have := g1.cat g2
  rwa [show x + -x = 0 by omega] at this
 ·
  have := (g1.cat hz).cat g2
  rw [show x + 0 + -x = 0 by omega] at this
  rwa [show P + Q + L = P + L + Q by omega]
def Good (n : Nat) (s : Nat → Nat → Int) (i k j : Nat) : Prop := Z n s j k ∧ Same n s i j
def GI (n : Nat) (s : Nat → Nat → Int) (i g : Nat) : Prop := ∀ d, d ∣ g ↔ ∀ k j, 1 ≤ k → k ≤ 2 * n → j < n → Good n s i k j → d ∣ k
theorem Same.self {i : Nat} (hi : i < n) : Same n s i i := ⟨0, 0, 0, Go.nil hi, by exact Go.nil hi⟩
theorem Same.trans {i j k : Nat} (h1 : Same n s i j) (h2 : Same n s j k) : Same n s i k := by
 obtain ⟨A, B, x, a, b⟩ := h1
 obtain ⟨C, D, y, c, d⟩ := h2
 refine ⟨A + C, D + B, x + y, a.cat c, ?_⟩
 have := d.cat b
 rwa [show -y + -x = -(x + y) by omega] at this
theorem Ok.all (h : Ok n s) {i g : Nat} (hg : GI n s i g) : ∀ (L j : Nat), Z n s j L → Same n s i j → g ∣ L := by
 intro L
 induction L using Nat.strongRecOn with
 | ind L ih =>
  intro j hz hs
  by_cases h0 : L = 0
  ·
   subst h0; exact Nat.dvd_zero _
  by_cases hL : L ≤ 2 * n
  ·
   exact (hg g).1 (Nat.dvd_refl g) L j jj hL hz.lt.1 ⟨hz, hs⟩
  ·
   obtain ⟨v, hv, v0, vL, vw⟩ := hz
   obtain ⟨p, p', hpp, hp', ev⟩ := php n v (fun t ht => hv.lt t jj)
   obtain ⟨d, rfl⟩ : ∃ d, p' = p + d := ⟨p' - p, by omega⟩
   obtain ⟨r, rfl⟩ : ∃ r, L = p + d + r := ⟨L - (p + d), by omega⟩
   have hm : Wk n s (fun t => v (t + p)) d := Wk.shift (hv.left jj)
   have ec : v (0 + p) = v (d + p) := by rw [Nat.zero_add, Nat.add_comm d p]; exact ev
   have hc := closed_le h.bd jj h.hs h.no d (fun t => v (t + p)) hm ec
   have hw := cutw_wt (a := s) (r := r) ev
   have hk := cutw_wk hv ev
   have e0 : cutw v p d 0 = j := by rw [cutw_zero, v0]
   have eL : cutw v p d (p + r) = j := by rw [cutw_end ev, vL]
   have hc2 := closed_le h.bd jj h.hs h.no (p + r) (cutw v p d) hk (by rw [e0, eL])
   have z1 : Z n s j (p + r) := ⟨cutw v p d, hk, e0, eL, by omega⟩
   have z2 : Z n s (v p) d := ⟨fun t => v (t + p), hm, by simp, by show v (d + p) = v p; rw [← ec]; simp, by omega⟩
   obtain ⟨x, y, a, b, e⟩ := Go.split hv (t := p) jj
   rw [v0] at a
   rw [vL] at b
   have hs2 : Same n s j (v p) := ⟨p, _, x, a, by rw [show -x = y by omega]; exact b⟩
   have d1 := ih (p + r) jj j z1 hs
   have d2 := ih d jj (v p) z2 (hs.trans hs2)
   rw [show p + d + r = p + r + d by omega]
   exact Nat.dvd_add d1 d2
theorem Ok.per (h : Ok n s) {c : Nat} (hc : 1 ≤ c) (h1 : ∀ i, i < n → ∃ g, GI n s i g) (h2 : ∀ x, c ∣ x ↔ ∀ i, i < n → ∀ g, GI n s i g → 0 < g → g ∣ x) : IsPer n s c := by
 refine ⟨hc, fun x => ?_⟩
 rw [h2 x]
 constructor
 ·
  intro hx u hu d hd
  obtain ⟨q, hq, hqn, hzq⟩ := hu.small h.bd h.hs h.no
  have hun := hzq.lt.1
  obtain ⟨g, hg⟩ := h1 u hun
  have g0 : 0 < g := by
   have := (hg g).1 (Nat.dvd_refl g) q u hq jj hun ⟨hzq, Same.self hun⟩
   exact Nat.pos_of_dvd_of_pos this jj
  refine Nat.dvd_trans ((hg d).2 fun k j _ _ _ hG => ?_) (hx u hun g hg g0)
  obtain ⟨K, z1, z2⟩ := hG.2.conj hG.1
  exact (Nat.dvd_add_right (hd _ z1)).1 (hd _ z2)
 ·
  intro hx i hi g hg g0
  have : ∃ k j, 1 ≤ k ∧ k ≤ 2 * n ∧ j < n ∧ Good n s i k j := by
   by_cases e : ∃ k j, 1 ≤ k ∧ k ≤ 2 * n ∧ j < n ∧ Good n s i k j
   ·
    exact e
   ·
    have := (hg (g + 1)).2 fun k j a1 a2 a3 a4 => absurd ⟨k, j, a1, a2, a3, a4⟩ e
    have := Nat.le_of_dvd g0 this
    omega
  obtain ⟨k, j, a1, a2, a3, a4⟩ := this
  obtain ⟨K, z1, z2⟩ := a4.2.conj a4.1
  exact hx i ⟨K + k, by omega, z2⟩ g (fun L hL => h.all hg L i hL (Same.self hi))
end
theorem gcdN (a b : Nat) (ha : a ≤ 1000000) (hb : b ≤ 1000000) (h : 1 ≤ a ∨ 1 ≤ b) : ∃ g : Nat, Ev (fun k => line_gcd.f k (a : Int) (b : Int)) (g : Int) ∧ 1 ≤ g ∧ ∀ d : Nat, d ∣ g ↔ d ∣ a ∧ d ∣ b := by
 obtain ⟨g, e, hg⟩ := gcd_f (a : Int) (b : Int) jj jj jj jj
 have hp := hg.pos jj
 obtain ⟨m, rfl⟩ : ∃ m : Nat, g = (m : Int) := ⟨g.toNat, by omega⟩
 refine ⟨m, e, by omega, fun d => ⟨fun h => ⟨Nat.dvd_trans h (Int.natCast_dvd_natCast.1 hg.left), Nat.dvd_trans h (Int.natCast_dvd_natCast.1 hg.right)⟩, fun h => ?_⟩⟩
 exact Int.natCast_dvd_natCast.1 (hg.all _ (Int.natCast_dvd_natCast.2 h.1) (Int.natCast_dvd_natCast.2 h.2))
theorem lcmN {a b g : Nat} (hg : ∀ d : Nat, d ∣ g ↔ d ∣ a ∧ d ∣ b) : a / g * b = Nat.lcm a b := by
 have e : g = Nat.gcd a b := Nat.dvd_antisymm (Nat.dvd_gcd ((hg g).1 (Nat.dvd_refl g)).1 ((hg g).1 (Nat.dvd_refl g)).2) ((hg _).2 ⟨Nat.gcd_dvd_left a b, Nat.gcd_dvd_right a b⟩)
 rw [e, Nat.lcm_eq_mul_div, Nat.mul_div_right_comm (Nat.gcd_dvd_left a b)]
def nevf (_ _ : Nat) : Int := NEV
def EvP {α : Type} (R : α → Prop) (f : Nat → Option α) : Prop := ∃ r, R r ∧ Ev f r
theorem EvP.step {α : Type} {R : α → Prop} {f g : Nat → Option α} (h : ∀ k, g (k + 1) = f k) : EvP R f → EvP R g := fun ⟨r, h1, h2⟩ => ⟨r, h1, Ev.step h h2⟩
theorem EvP.congr {α : Type} {R : α → Prop} {f g : Nat → Option α} (h : ∀ k, g k = f k) : EvP R f → EvP R g := fun ⟨r, h1, h2⟩ => ⟨r, h1, Ev.congr h h2⟩
theorem EvP.bind {α β : Type} {R : β → Prop} {x : Nat → Option α} {v : α} {f : Nat → α → Option β} (hx : Ev x v) : EvP R (fun k => f k v) → EvP R (fun k => (x k).bind (f k)) := fun ⟨r, h1, h2⟩ => ⟨r, h1, Ev.bind hx h2⟩
section
variable {n : Nat} {s : Nat → Nat → Int}
theorem upd_skip (n : Nat) (f g : Nat → Nat → Int) (i j : Nat) (h : g i j = f i j) : mat n (upd f g i j) = mat n (upd f g i (j + 1)) := mat_congr fun p q _ _ => by
 unfold upd
 by_cases h1 : p < i ∨ (p = i ∧ q < j)
 ·
  rw [if_pos h1, jh]
 ·
  rw [if_neg h1]
  by_cases h2 : p = i ∧ q = j
  ·
   obtain ⟨rfl, rfl⟩ := h2
   rw [jh, h]
  ·
   rw [ji]
def Part (n : Nat) (s : Nat → Nat → Int) (i K J g : Nat) : Prop := g ≤ 12 ∧ ∀ d, d ∣ g ↔ ∀ k j, 1 ≤ k → j < n → (k < K ∨ k = K ∧ j < J) → Good n s i k j → d ∣ k
theorem Part.next (i K J g g' : Nat) (hK : 1 ≤ K) (hK12 : K ≤ 12) (hJ : J < n) (h : Part n s i K J g) (hG : Good n s i K J) (_hg1 : 1 ≤ g') (hg : ∀ d, d ∣ g' ↔ d ∣ g ∧ d ∣ K) : Part n s i K (J + 1) g' := by
 refine ⟨Nat.le_trans (Nat.le_of_dvd jj ((hg g').1 (Nat.dvd_refl _)).2) hK12, fun d => ?_⟩
 rw [hg, h.2 d]
 constructor
 ·
  rintro ⟨h1, h2⟩ k j hk hj hkj hG2
  by_cases e : k = K ∧ j = J
  ·
   rw [e.1]; exact h2
  ·
   exact h1 k j hk hj jj hG2
 ·
  intro h1
  exact ⟨fun k j hk hj hkj hG2 => h1 k j hk hj jj hG2, h1 K J hK hJ jj hG⟩
theorem Part.skip (i K J g : Nat) (h : Part n s i K J g) (hG : ¬ Good n s i K J) : Part n s i K (J + 1) g := by
 refine ⟨h.1, fun d => ?_⟩
 rw [h.2 d]
 constructor
 ·
  intro h1 k j hk hj hkj hG2
  by_cases e : k = K ∧ j = J
  ·
   obtain ⟨rfl, rfl⟩ := e; exact absurd hG2 hG
  ·
   exact h1 k j hk hj jj hG2
 ·
  intro h1 k j hk hj hkj hG2
  exact h1 k j hk hj jj hG2
theorem Part.over (i K g : Nat) (h : Part n s i K n g) : Part n s i (K + 1) 0 g := by
 refine ⟨h.1, fun d => ?_⟩
 rw [h.2 d]
 constructor
 ·
  intro h1 k j hk hj hkj hG2
  exact h1 k j hk hj jj hG2
 ·
  intro h1 k j hk hj hkj hG2
  exact h1 k j hk hj jj hG2
theorem Part.gi (i g : Nat) (h : Part n s i (2 * n + 1) 0 g) : GI n s i g := fun d => by
 rw [h.2 d]
 constructor
 ·
  intro h1 k j hk hk2 hj hG2
  exact h1 k j hk hj jj hG2
 ·
  intro h1 k j hk hj hkj hG2
  exact h1 k j hk jj hj hG2
theorem period_l4 (h : Ok n s) (i : Nat) (hi : i < n) (x8 : Int) (R : Int → Prop) (K : Nat) (hK : 1 ≤ K) (hK2 : K ≤ 2 * n)
  (hr : ∀ g, Part n s i (K + 1) 0 g → EvP R (fun k => llperiod.l3 k (n : Int) (mat n (arcf s (fwk s n))) (mat n (fwk (arcf s (fwk s n)) n)) x8 (i : Int) (g : Int) (mat n (powf n (arcf s (fwk s n)) K)) ((K + 1 : Nat) : Int) (n : Int) (i : Int))) : ∀ d J, J + d = n → ∀ g, Part n s i K J g →
  EvP R (fun k => llperiod.l4 k (n : Int) (mat n (arcf s (fwk s n))) (mat n (fwk (arcf s (fwk s n)) n)) x8 (i : Int) (g : Int) (mat n (powf n (arcf s (fwk s n)) K)) (K : Int) (n : Int) (i : Int) (n : Int) (J : Int)) := by
 have h6 := h.six
 intro d
 induction d with
 | zero =>
  intro J hJ g hg
  obtain rfl : J = n := by omega
  refine EvP.step (fun k => ?_) (hr g (Part.over i K g hg))
  simp only [llperiod.l4]
  rw [ji, wr1 K jj]
 | succ d ih =>
  intro J hJ g hg
  have hJn : J < n := by omega
  have e1 : (mat n (powf n (arcf s (fwk s n)) K)).length = n := yE _ _
  have e2 : ((mat n (powf n (arcf s (fwk s n)) K)).getD J []).length = n := by rw [mat_get _ hJn, yB]
  have e3 : (mat n (fwk (arcf s (fwk s n)) n)).length = n := yE _ _
  have e4 : ((mat n (fwk (arcf s (fwk s n)) n)).getD i []).length = n := by rw [mat_get _ hi, yB]
  have e5 : ((mat n (fwk (arcf s (fwk s n)) n)).getD J []).length = n := by rw [mat_get _ hJn, yB]
  have v1 : ((mat n (powf n (arcf s (fwk s n)) K)).getD J []).getD J 0 = powf n (arcf s (fwk s n)) K J J := ent_mat _ hJn hJn
  have v2 : ((mat n (fwk (arcf s (fwk s n)) n)).getD i []).getD J 0 = fwk (arcf s (fwk s n)) n i J := ent_mat _ hi hJn
  have v3 : ((mat n (fwk (arcf s (fwk s n)) n)).getD J []).getD i 0 = fwk (arcf s (fwk s n)) n J i := ent_mat _ hJn hi
  have p1 := h.pow_iff (k := K) hJn
  have p2 := h.same_iff hi hJn
  have skip : ¬ Good n s i K J → EvP R (fun k => llperiod.l4 k (n : Int) (mat n (arcf s (fwk s n))) (mat n (fwk (arcf s (fwk s n)) n)) x8 (i : Int) (g : Int) (mat n (powf n (arcf s (fwk s n)) K)) (K : Int) (n : Int) (i : Int) (n : Int) ((J + 1 : Nat) : Int)) := fun hG => ih (J + 1) jj g (Part.skip i K J g hg hG)
  by_cases c1 : powf n (arcf s (fwk s n)) K J J = 0
  ·
   by_cases c2 : fwk (arcf s (fwk s n)) n i J = 0
   ·
    by_cases c3 : fwk (arcf s (fwk s n)) n J i = 0
    ·
     have hG : Good n s i K J := ⟨p1.1 c1, p2.1 ⟨c2, c3⟩⟩
     have hgl := hg.1
     obtain ⟨g', eg, hg1, hgd⟩ := gcdN g K jj jj (.inr hK)
     refine EvP.step (f := fun k => (line_gcd.f k (g : Int) (K : Int)).bind fun t => llperiod.l4 k (n : Int) (mat n (arcf s (fwk s n))) (mat n (fwk (arcf s (fwk s n)) n)) x8 (i : Int) t (mat n (powf n (arcf s (fwk s n)) K)) (K : Int) (n : Int) (i : Int) (n : Int) ((J + 1 : Nat) : Int)) (fun k => ?_) (EvP.bind eg (ih (J + 1) jj g' (Part.next i K J g g' hK jj hJn hg hG hg1 hgd)))
     simp only [llperiod.l4]
     rw [jh, jh, jh, rdL, jh, rdI, v1, if_pos c1, jh, jh, rdL, jh, rdI, v2, if_pos c2, jh, rdL, jh, rdI, v3, if_pos c3, wr1 J jj]
    ·
     refine EvP.step (fun k => ?_) (skip fun hG => c3 (p2.2 hG.2).2)
     simp only [llperiod.l4]
     rw [jh, jh, jh, rdL, jh, rdI, v1, if_pos c1, jh, jh, rdL, jh, rdI, v2, if_pos c2, jh, rdL, jh, rdI, v3, if_neg c3, wr1 J jj]
   ·
    refine EvP.step (fun k => ?_) (skip fun hG => c2 (p2.2 hG.2).1)
    simp only [llperiod.l4]
    rw [jh, jh, jh, rdL, jh, rdI, v1, if_pos c1, jh, jh, rdL, jh, rdI, v2, if_neg c2, wr1 J jj]
  ·
   refine EvP.step (fun k => ?_) (skip fun hG => c1 (p1.2 hG.1))
   simp only [llperiod.l4]
   rw [jh, jh, jh, rdL, jh, rdI, v1, if_neg c1, wr1 J jj]
def Whole (n : Nat) (s : Nat → Nat → Int) (i c : Nat) : Prop := 1 ≤ c ∧ c ≤ 12 ^ i ∧ (∀ p, p < i → ∃ g, GI n s p g) ∧ ∀ x, c ∣ x ↔ ∀ p, p < i → ∀ g, GI n s p g → 0 < g → g ∣ x
theorem GI.uniq {i g g' : Nat} (h : GI n s i g) (h' : GI n s i g') : g = g' :=
 Nat.dvd_antisymm ((h' g).2 ((h g).1 (Nat.dvd_refl g))) ((h g').2 ((h' g').1 (Nat.dvd_refl g')))
theorem Whole.next (i c c' g : Nat) (h : Whole n s i c) (hg : GI n s i g) (h1 : 1 ≤ c') (h2 : c' ≤ 12 ^ (i + 1)) (hd : ∀ x, c' ∣ x ↔ c ∣ x ∧ (0 < g → g ∣ x)) : Whole n s (i + 1) c' := by
 refine ⟨h1, h2, fun p hp => ?_, fun x => ?_⟩
 ·
  by_cases e : p = i
  ·
   subst e; exact ⟨g, hg⟩
  ·
   exact h.2.2.1 p jj
 ·
  rw [hd x, h.2.2.2 x]
  constructor
  ·
   rintro ⟨a1, a2⟩ p hp g' hg' h0
   by_cases e : p = i
   ·
    subst e
    obtain rfl := GI.uniq hg hg'
    exact a2 h0
   ·
    exact a1 p jj g' hg' h0
  ·
   intro a
   exact ⟨fun p hp => a p jj, fun h0 => a i jj g hg h0⟩
theorem tdivN (a b : Nat) : Int.tdiv (a : Int) (b : Int) = ((a / b : Nat) : Int) := rfl
theorem period_l3 (h : Ok n s) (i : Nat) (hi : i < n) (c : Nat) (hc : Whole n s i c) (R : Int → Prop)
  (hr : ∀ c', Whole n s (i + 1) c' → EvP R (fun k => llperiod.l2 k (n : Int) (mat n (arcf s (fwk s n))) (mat n (fwk (arcf s (fwk s n)) n)) (c' : Int) (n : Int) ((i + 1 : Nat) : Int))) : ∀ d K, K + d = 2 * n → ∀ g, Part n s i (K + 1) 0 g →
  EvP R (fun k => llperiod.l3 k (n : Int) (mat n (arcf s (fwk s n))) (mat n (fwk (arcf s (fwk s n)) n)) (c : Int) (i : Int) (g : Int) (mat n (powf n (arcf s (fwk s n)) K)) ((K + 1 : Nat) : Int) (n : Int) (i : Int)) := by
 have h6 := h.six
 have h12 : 12 ^ i ≤ 12 ^ 5 := Nat.pow_le_pow_right jj jj
 have e5 : (12 : Nat) ^ 5 = 248832 := by decide
 have hc2 := hc.2.1
 have two : wrap64 (2 * (n : Int)) = ((2 * n : Nat) : Int) := by rw [wr jj jj]; omega
 intro d
 induction d with
 | zero =>
  intro K hK g hg
  obtain rfl : K = 2 * n := by omega
  have hG := Part.gi i g hg
  have hgl := hg.1
  by_cases g0 : 0 < g
  ·
   obtain ⟨w, ew, hw1, hwd⟩ := gcdN c g jj jj (.inr g0)
   have hl := lcmN hwd
   have hcw : c / w ≤ c := Nat.div_le_self _ _
   have hT : ∀ x : Int, Int.tdiv (c : Int) (w : Int) = ((c / w : Nat) : Int) := fun _ => tdivN c w
   revert hl hcw hT
   generalize c / w = q
   intro hl hcw hT
   have hlc : q * g ≤ c * 12 := Nat.mul_le_mul hcw hgl
   have hl1 : 1 ≤ q * g := by
    rw [hl]
    exact Nat.pos_of_ne_zero (Nat.lcm_ne_zero (by have := hc.1; omega) jj)
   refine EvP.step (f := fun k => (line_gcd.f k (c : Int) (g : Int)).bind fun t => if t = 0 then none else llperiod.l2 k (n : Int) (mat n (arcf s (fwk s n))) (mat n (fwk (arcf s (fwk s n)) n)) (wrap64 (wrap64 (Int.tdiv (c : Int) t) * (g : Int))) (n : Int) ((i + 1 : Nat) : Int)) (fun k => ?_) (EvP.bind ew (EvP.congr (fun k => ?_) (hr (q * g) (Whole.next i c _ g hc hG hl1 (by rw [Nat.pow_succ]; omega) (fun x => ?_)))))
   ·
    simp only [llperiod.l3]
    rw [two, ji, jh, wr1 i jj]
   ·
    rw [ji, hT 0, wr (x := (q : Int)) jj jj, ← Int.natCast_mul, wr (x := ((q * g : Nat) : Int)) jj jj]
   ·
    rw [hl, Nat.lcm_dvd_iff]
    exact ⟨fun a => ⟨a.1, fun _ => a.2⟩, fun a => ⟨a.1, a.2 g0⟩⟩
  ·
   refine EvP.step (fun k => ?_) (hr c (Whole.next i c c g hc hG hc.1 (by rw [Nat.pow_succ]; omega) (fun x => ⟨fun a => ⟨a, fun b => absurd b g0⟩, fun a => a.1⟩)))
   simp only [llperiod.l3]
   rw [two, ji, ji, wr1 i jj]
 | succ d ih =>
  intro K hK g hg
  have et := times_pow (n := n) (M := 0) jj (arc_bd n s (fwk s n)) jj K 1 jj
  have e1 : mat n (powf n (arcf s (fwk s n)) 1) = mat n (arcf s (fwk s n)) := mat_congr fun p q hp hq => one_mul (arc_bd n s (fwk s n)) jj hp hq
  rw [e1] at et
  refine EvP.step (f := fun k => (lgtimes.f k (mat n (powf n (arcf s (fwk s n)) K)) (mat n (arcf s (fwk s n)))).bind fun t => llperiod.l4 k (n : Int) (mat n (arcf s (fwk s n))) (mat n (fwk (arcf s (fwk s n)) n)) (c : Int) (i : Int) (g : Int) t ((K + 1 : Nat) : Int) (n : Int) (i : Int) (n : Int) ((0 : Nat) : Int)) (fun k => ?_) (EvP.bind et (period_l4 h i hi (c : Int) R (K + 1) jj jj (fun g' hg' => ih (K + 1) jj g' hg') n 0 jj g hg))
  simp only [llperiod.l3]
  rw [two, jh]
  rfl
theorem period_l2 (h : Ok n s) : ∀ d i, i + d = n → ∀ c, Whole n s i c → EvP (fun r => ∃ c', Whole n s n c' ∧ r = (c' : Int)) (fun k => llperiod.l2 k (n : Int) (mat n (arcf s (fwk s n))) (mat n (fwk (arcf s (fwk s n)) n)) (c : Int) (n : Int) (i : Int)) := by
 have h6 := h.six
 intro d
 induction d with
 | zero =>
  intro i hi c hc
  obtain rfl : i = n := by omega
  refine ⟨(c : Int), ⟨c, hc, rfl⟩, ev_now fun k => ?_⟩
  simp only [llperiod.l2]
  rw [ji]
 | succ d ih =>
  intro i hi c hc
  refine EvP.step (f := fun k => (line_one_int.f k (n : Int)).bind fun t => llperiod.l3 k (n : Int) (mat n (arcf s (fwk s n))) (mat n (fwk (arcf s (fwk s n)) n)) (c : Int) (i : Int) ((0 : Nat) : Int) t ((0 + 1 : Nat) : Int) (n : Int) (i : Int)) (fun k => ?_) (EvP.bind (one_f n jj) (period_l3 h i jj c hc _ (fun c' hc' => ih (i + 1) jj c' hc') (2 * n) 0 jj 0 ⟨by omega, fun d => ⟨fun _ k j hk _ hkj _ => by omega, fun _ => Nat.dvd_zero _⟩⟩))
  simp only [llperiod.l2]
  rw [jh]
  rfl
theorem period_l1 (h : Ok n s) (L : List (List Int)) (u v : Int) (hd : BdM n n 768000 (fwk s n)) (i : Nat) (hi : i < n) (R : Int → Prop)
  (hr : EvP R (fun k => llperiod.l0 k (n : Int) (mat n (upd nevf (arcf s (fwk s n)) (i + 1) 0)) (n : Int) ((i + 1 : Nat) : Int) L u v (mat n s) (mat n (fwk s n)))) : ∀ d j, j + d = n →
  EvP R (fun k => llperiod.l1 k (n : Int) (mat n (upd nevf (arcf s (fwk s n)) i j)) (i : Int) (n : Int) (i : Int) (n : Int) (j : Int) L u v (mat n s) (mat n (fwk s n))) := by
 have h6 := h.six
 intro d
 induction d with
 | zero =>
  intro j hj
  obtain rfl : j = n := by omega
  refine EvP.step (fun k => ?_) hr
  simp only [llperiod.l1]
  rw [ji, wr1 i jj, upd_next]
 | succ d ih =>
  intro j hj
  have hj' : j < n := by omega
  have e1 : (mat n (upd nevf (arcf s (fwk s n)) i j)).length = n := yE _ _
  have e2 : ((mat n (upd nevf (arcf s (fwk s n)) i j)).getD i []).length = n := by rw [mat_get _ hi, yB]
  have hc := critical_f L u v h.bd hd jj jj jj i j hi hj'
  refine EvP.step (fun k => ?_) (ih (j + 1) jj)
  simp only [llperiod.l1]
  rw [jh, hc]
  simp only [Option.bind_some]
  by_cases c : crit s (fwk s n) i j = true
  ·
   rw [if_pos c, jh, jh, jh, rdL, jh, wr1 j jj, toN, toN]
   have := upd_set (n := n) nevf (arcf s (fwk s n)) i j hi
   rw [show arcf s (fwk s n) i j = 0 from if_pos c] at this
   rw [this]
  ·
   rw [if_neg c, wr1 j jj, upd_skip n nevf (arcf s (fwk s n)) i j (if_neg c)]
theorem period_l0 (h : Ok n s) (L : List (List Int)) (u v : Int) (hd : BdM n n 768000 (fwk s n)) : ∀ d i, i + d = n →
  EvP (fun r => ∃ c', Whole n s n c' ∧ r = (c' : Int)) (fun k => llperiod.l0 k (n : Int) (mat n (upd nevf (arcf s (fwk s n)) i 0)) (n : Int) (i : Int) L u v (mat n s) (mat n (fwk s n))) := by
 have h6 := h.six
 intro d
 induction d with
 | zero =>
  intro i hi
  obtain rfl : i = n := by omega
  have ec := closed_mat (n := i) (M := 0) jj (arc_bd i s (fwk s i)) jj jj jj (arc_nopos i s (fwk s i))
  refine EvP.step (f := fun k => (lgclosed.f k (mat i (arcf s (fwk s i)))).bind fun t => llperiod.l2 k (i : Int) (mat i (arcf s (fwk s i))) t ((1 : Nat) : Int) (i : Int) ((0 : Nat) : Int)) (fun k => ?_) (EvP.bind ec (period_l2 h i 0 jj 1 ⟨by omega, by decide, fun p hp => by omega, fun x => ⟨fun _ p hp => by omega, fun _ => Nat.one_dvd x⟩⟩))
  simp only [llperiod.l0]
  rw [ji, upd_all]
  rfl
 | succ d ih =>
  intro i hi
  refine EvP.step (fun k => ?_) (period_l1 h L u v hd i jj _ (ih (i + 1) jj) n 0 jj)
  simp only [llperiod.l0]
  rw [jh]
  rfl
theorem period_f (h : Ok n s) (L : List (List Int)) (u v : Int) (hd : BdM n n 768000 (fwk s n)) : ∃ c, IsPer n s c ∧ Ev (fun k => llperiod.f k L u v (mat n s) (mat n (fwk s n))) (c : Int) := by
 have h6 := h.six
 have em : Ev (fun k => lgmapped_period_1.f k (mat n onef) 0) (mat n (mapf (fun _ => NEV) (ent (mat n onef)))) := mapped_f (g := fun _ => NEV) jj (isMat_mat n onef) fun _ _ _ _ _ => rfl
 have e0 : mat n (mapf (fun _ => NEV) (ent (mat n onef))) = mat n (upd nevf (arcf s (fwk s n)) 0 0) := mat_congr fun p q hp hq => by
  have e2 : upd nevf (arcf s (fwk s n)) 0 0 p q = NEV := ji
  rw [e2]
  unfold mapf
  split <;> rfl
 rw [e0] at em
 obtain ⟨r, ⟨c, hc, rfl⟩, er⟩ := period_l0 h L u v hd n 0 jj
 refine ⟨c, h.per hc.1 hc.2.2.1 hc.2.2.2, ?_⟩
 unfold llperiod.f
 rw [yE]
 exact Ev.bind (one_f n jj) (Ev.bind em er)
end
def addf (add x : Int) : Int := if x = NEV then NEV else x + add
section
variable {n : Nat} {a : Nat → Nat → Int} {num den : Int} {B : Nat → Nat → Prop}
theorem slack_pow (ha : BdM n n 1000 a) (ht : Top n a B num den) {k : Nat} (hk : k ≤ 10000000000) {i j : Nat} (hi : i < n) (hj : j < n) :
  powf n (slackf num den a) k i j = if powf n a k i j = NEV then NEV else den * powf n a k i j - num * (k : Nat) := by
 have hs := slack_bd ha ht
 have f1 : powf n a k i j ≠ NEV → powf n (slackf num den a) k i j ≠ NEV ∧ den * powf n a k i j - num * (k : Nat) ≤ powf n (slackf num den a) k i j := fun hne => by
  obtain ⟨v, hv, v0, vL, vw⟩ := Go.of_pow hi hj hne
  have e := slack_wt (num := num) (den := den) hv
  have := Go.le_pow hs jj jj ⟨v, slack_wk' ha ht hv, v0, vL, rfl⟩
  rw [e, vw] at this
  exact this
 have f2 : powf n (slackf num den a) k i j ≠ NEV → powf n a k i j ≠ NEV ∧ powf n (slackf num den a) k i j ≤ den * powf n a k i j - num * (k : Nat) := fun hne => by
  obtain ⟨v, hv, v0, vL, vw⟩ := Go.of_pow hi hj hne
  have hv' := slack_wk ha ht hv
  have e := slack_wt (num := num) (den := den) hv'
  have := Go.le_pow ha jj jj ⟨v, hv', v0, vL, rfl⟩
  refine ⟨this.1, ?_⟩
  rw [← vw, e]
  have := Int.mul_le_mul_of_nonneg_left this.2 (Int.le_of_lt ht.den0)
  omega
 by_cases e : powf n a k i j = NEV
 ·
  rw [if_pos e]
  by_cases e2 : powf n (slackf num den a) k i j = NEV
  ·
   exact e2
  ·
   exact absurd e (f2 e2).1
 ·
  rw [if_neg e]
  have h1 := f1 e
  have h2 := f2 h1.1
  omega
theorem rep_iff (ha : BdM n n 1000 a) (ht : Top n a B num den) {k x : Nat} (hk : k + x ≤ 10000000000) {add : Int} (hadd : den * add = num * (x : Nat)) :
  Rep n (slackf num den a) k x ↔ ∀ i j, i < n → j < n → powf n a (k + x) i j = addf add (powf n a k i j) := by
 have key : ∀ i j, i < n → j < n → (powf n (slackf num den a) (k + x) i j = powf n (slackf num den a) k i j ↔ powf n a (k + x) i j = addf add (powf n a k i j)) := by
  intro i j hi hj
  have e1 := slack_pow ha ht (k := k + x) hk hi hj
  have e2 := slack_pow ha ht (k := k) jj hi hj
  have b1 := BdM.pow (slack_bd ha ht) (k + x) i j hi hj
  have b2 := BdM.pow (slack_bd ha ht) k i j hi hj
  have c1 := BdM.pow ha (k + x) i j hi hj
  have c2 := BdM.pow ha k i j hi hj
  have n1 : (NEV : Int) = -1152921504606846976 := rfl
  unfold addf
  by_cases h1 : powf n a (k + x) i j = NEV
  ·
   rw [if_pos h1] at e1
   by_cases h2 : powf n a k i j = NEV
   ·
    rw [if_pos h2] at e2
    rw [e1, e2, h1, if_pos h2]
   ·
    rw [if_neg h2] at e2
    rw [e1, h1, if_neg h2]
    constructor
    ·
     intro h
     exfalso
     rw [e2] at h b2
     rcases b2 with b2 | b2
     ·
      have f1 := Go.of_pow hi hj h2
      obtain ⟨v, hv, v0, vL, vw⟩ := f1
      have e := slack_wt (num := num) (den := den) hv
      have := (Go.le_pow (slack_bd ha ht) jj jj ⟨v, slack_wk' ha ht hv, v0, vL, rfl⟩).1
      rw [e2] at this
      exact this b2
     ·
      omega
    ·
     intro h
     exfalso
     rcases c2 with c2 | c2
     ·
      exact h2 c2
     ·
      have hx : (x : Int) ≤ 10000000000 := by omega
      have m1 := Int.mul_le_mul_of_nonneg_right ht.lo (by omega : (0 : Int) ≤ (x : Nat))
      have m2 := Int.mul_le_mul_of_nonneg_left (show add ≤ -1000000000000000000 by omega) (Int.le_of_lt ht.den0)
      have m3 := ht.den0
      omega
  ·
   rw [if_neg h1] at e1
   by_cases h2 : powf n a k i j = NEV
   ·
    rw [if_pos h2] at e2
    rw [e2, if_pos h2]
    constructor
    ·
     intro h
     exfalso
     obtain ⟨v, hv, v0, vL, vw⟩ := Go.of_pow hi hj h1
     have := (Go.le_pow (slack_bd ha ht) jj jj ⟨v, slack_wk' ha ht hv, v0, vL, rfl⟩).1
     exact this h
    ·
     intro h; exact absurd h h1
   ·
    rw [if_neg h2] at e2
    rw [e1, e2, if_neg h2]
    have d0 := ht.den0
    rw [Int.natCast_add, Int.mul_add]
    constructor
    ·
     intro h
     refine Int.eq_of_mul_eq_mul_left (by omega : den ≠ 0) ?_
     rw [Int.mul_add, hadd]
     omega
    ·
     intro h
     rw [h, Int.mul_add, hadd]
     omega
 exact ⟨fun h i j hi hj => (key i j hi hj).1 (h i j hi hj), fun h i j hi hj => (key i j hi hj).2 (h i j hi hj)⟩
theorem slack_ok (hn1 : 1 ≤ n) (hn : n ≤ 6) (ha : BdM n n 1000 a) (ht : Top n a (Seen n (n + 1) 0) num den) : Ok n (slackf num den a) := ⟨hn1, hn, slack_bd ha ht, slack_nopos hn ha ht⟩
theorem slack_con (ha : BdM n n 1000 a) (ht : Top n a B num den) (h : Conn n a) : Con n (slackf num den a) := fun i j hi hj => by
 obtain ⟨L, v, hv, v0, vL⟩ := h i j hi hj
 exact ⟨L, _, v, slack_wk' ha ht hv, v0, vL, rfl⟩
theorem slack_onz (ha : BdM n n 1000 a) (ht : Top n a (Seen n (n + 1) 0) num den) : ∃ u, OnZ n (slackf num den a) u := by
 obtain ⟨k, i, hS, hne, he⟩ := ht.att
 obtain ⟨v, hv, v0, vL, vw⟩ := pow_att k i i hS.2.1 hS.2.1 hne
 refine ⟨i, k, hS.1, v, slack_wk' ha ht hv, v0, vL, ?_⟩
 rw [slack_wt hv, vw, Int.mul_comm den]
 omega
theorem copr {p q : Int} {m : Nat} (hp : ∀ d : Int, d ∣ p → d ∣ q → d ∣ 1) (h : q ∣ p * (m : Nat)) : q ∣ (m : Int) := by
 have hc : Nat.Coprime q.natAbs p.natAbs := by
  have h1 := hp ((Nat.gcd q.natAbs p.natAbs : Nat) : Int) (Int.ofNat_dvd_left.2 (Nat.gcd_dvd_right _ _)) (Int.ofNat_dvd_left.2 (Nat.gcd_dvd_left _ _))
  exact Nat.dvd_one.1 (Int.natCast_dvd_natCast.1 h1)
 have h2 : q.natAbs ∣ p.natAbs * m := by
  have := Int.natAbs_dvd_natAbs.2 h
  rwa [Int.natAbs_mul, Int.natAbs_natCast] at this
 exact Int.natAbs_dvd.1 (Int.natCast_dvd_natCast.2 (hc.dvd_of_dvd_mul_left h2))
theorem per_den (ha : BdM n n 1000 a) (ht : Top n a (Seen n (n + 1) 0) num den) {c : Nat} (hc : IsPer n (slackf num den a) c) : den ∣ (c : Int) := by
 obtain ⟨u, hu⟩ := slack_onz ha ht
 have d0 := ht.den0
 obtain ⟨d, rfl⟩ : ∃ d : Nat, den = (d : Int) := ⟨den.toNat, by omega⟩
 refine Int.natCast_dvd_natCast.2 ((hc.iff c).1 (Nat.dvd_refl c) u hu d fun L hL => ?_)
 obtain ⟨v, hv, v0, vL, vw⟩ := hL
 rw [slack_wt (slack_wk ha ht hv)] at vw
 exact Int.natCast_dvd_natCast.1 (copr ht.low ⟨wt a v L, by omega⟩)
theorem per_60 {s : Nat → Nat → Int} (h : Ok n s) {c : Nat} (hc : IsPer n s c) : c ∣ 60 := by
 refine (hc.iff 60).2 fun u hu d hd => ?_
 obtain ⟨q, hq, hqn, hzq⟩ := hu.small h.bd h.hs h.no
 have h6 := h.six
 refine Nat.dvd_trans (hd q hzq) ?_
 have : q = 1 ∨ q = 2 ∨ q = 3 ∨ q = 4 ∨ q = 5 ∨ q = 6 := by omega
 rcases this with rfl | rfl | rfl | rfl | rfl | rfl <;> decide
end
theorem power_big {n : Nat} {A : List (List Int)} (h : Arg n A) (m : Nat) (hm : m ≤ 10000000000) :
  Ev (fun r => lgpower.f r A (m : Int)) (mat n (powf n (ent A) m)) := by
 have h6 := h.six
 have h1 := one_f n jj
 have hp := power_l0 (n := n) (M := 1000) (a := ent A) jj h.bd jj m jj 1 0 jj
 rw [pow_one h, Nat.one_mul, Nat.zero_add] at hp
 unfold lgpower.f
 rw [h.is.1]
 exact Ev.bind h1 hp
theorem Equal_l0 (n : Nat) (hn : n ≤ 1000) (f g : Nat → Int) : ∀ d j, j + d = n → ∃ b, Ev (fun k => slices_Equal_int_int.l0 k (vec n f) (vec n g) (n : Int) (j : Int)) b ∧ (b = true ↔ ∀ q, j ≤ q → q < n → f q = g q) := by
 intro d
 induction d with
 | zero =>
  intro j hj
  refine ⟨true, ev_now fun k => ?_, fun _ q h1 h2 => by omega, fun _ => rfl⟩
  simp only [slices_Equal_int_int.l0]
  rw [ji]
 | succ d ih =>
  intro j hj
  have hj' : j < n := by omega
  have l1 : (vec n f).length = n := yB _ _
  have l2 : (vec n g).length = n := yB _ _
  have v1 : (vec n f).getD j 0 = f j := vec_get _ hj'
  have v2 : (vec n g).getD j 0 = g j := vec_get _ hj'
  obtain ⟨b, hb, hbi⟩ := ih (j + 1) jj
  by_cases e : f j = g j
  ·
   refine ⟨b, Ev.step (fun k => ?_) hb, ?_⟩
   ·
    simp only [slices_Equal_int_int.l0]
    rw [jh, jh, jh, jh, rdI, rdI, v1, v2, if_pos e, wr1 j jj]
   ·
    rw [hbi]
    constructor
    ·
     intro h q h1 h2
     by_cases e2 : q = j
     ·
      subst e2; exact e
     ·
      exact h q jj h2
    ·
     intro h q h1 h2; exact h q jj h2
  ·
   refine ⟨false, ev_now fun k => ?_, fun h => absurd h (by decide), fun h => absurd (h j jj hj') e⟩
   simp only [slices_Equal_int_int.l0]
   rw [jh, jh, jh, jh, rdI, rdI, v1, v2, if_neg e]
theorem Regime1_l0 (n : Nat) (hn : n ≤ 1000) (f g : Nat → Nat → Int) : ∀ d i, i + d = n → ∃ b, Ev (fun k => line_Regime_1.l0 k (mat n g) (mat n f) (n : Int) (i : Int)) b ∧ (b = true ↔ ∀ p q, i ≤ p → p < n → q < n → f p q = g p q) := by
 intro d
 induction d with
 | zero =>
  intro i hi
  refine ⟨true, ev_now fun k => ?_, fun _ p q h1 h2 => by omega, fun _ => rfl⟩
  simp only [line_Regime_1.l0]
  rw [ji]
 | succ d ih =>
  intro i hi
  have hi' : i < n := by omega
  have l1 : (mat n f).length = n := yE _ _
  have l2 : (mat n g).length = n := yE _ _
  obtain ⟨b, hb, hbi⟩ := ih (i + 1) jj
  obtain ⟨e, he, hei⟩ := Equal_l0 n hn (f i) (g i) n 0 jj
  have he' : Ev (fun k => slices_Equal_int_int.f k ((mat n f).getD i []) ((mat n g).getD i [])) e := by
   unfold slices_Equal_int_int.f
   rw [mat_get _ hi', mat_get _ hi', yB, yB]
   exact Ev.congr (fun k => if_pos rfl) he
  have step : ∀ k, line_Regime_1.l0 (k + 1) (mat n g) (mat n f) (n : Int) (i : Int) = (slices_Equal_int_int.f k ((mat n f).getD i []) ((mat n g).getD i [])).bind fun t => if t = true then line_Regime_1.l0 k (mat n g) (mat n f) (n : Int) ((i + 1 : Nat) : Int) else some false := fun k => by
   simp only [line_Regime_1.l0]
   rw [jh, jh, jh, jh, rdL, rdL, wr1 i jj]
  by_cases e1 : e = true
  ·
   refine ⟨b, Ev.step step (Ev.bind he' (Ev.congr (fun k => if_pos e1) hb)), ?_⟩
   rw [hbi]
   constructor
   ·
    intro h p q h1 h2 h3
    by_cases e2 : p = i
    ·
     subst e2; exact hei.1 e1 q jj h3
    ·
     exact h p q jj h2 h3
   ·
    intro h p q h1 h2 h3; exact h p q jj h2 h3
  ·
   refine ⟨false, Ev.step step (Ev.bind he' (ev_some fun k => if_neg e1)), fun h => absurd h (by decide), fun h => absurd (hei.2 fun q _ h3 => h i q jj hi' h3) e1⟩
theorem Regime1_f {n : Nat} {A : List (List Int)} (hA : Arg n A) {num den : Int} {B : Nat → Nat → Prop} (ht : Top n (ent A) B num den) (m c : Nat) (hm : m ≤ 100000000) (hc : c ≤ 60) (add : Int) (hadd : den * add = num * (c : Nat)) :
  ∃ b, Ev (fun k => line_Regime_1.f k (m : Int) A add (c : Int)) b ∧ (b = true ↔ Rep n (slackf num den (ent A)) m c) := by
 have h6 := hA.six
 have p1 := power_big hA m jj
 have p2 := power_big hA c jj
 have bp := BdM.pow hA.bd m
 have d0 := ht.den0
 have ab : -360000 ≤ add ∧ add ≤ 360000 := by
  have m1 := Int.mul_le_mul_of_nonneg_right ht.lo (by omega : (0 : Int) ≤ (c : Nat))
  have m2 := Int.mul_le_mul_of_nonneg_right ht.hi (by omega : (0 : Int) ≤ (c : Nat))
  have d6 := ht.den6
  have : den = 1 ∨ den = 2 ∨ den = 3 ∨ den = 4 ∨ den = 5 ∨ den = 6 := by omega
  rcases this with rfl | rfl | rfl | rfl | rfl | rfl <;> omega
 have em : Ev (fun k => lgmapped_add.f k (mat n (powf n (ent A) m)) add) (mat n (mapf (fun e => e + add) (ent (mat n (powf n (ent A) m))))) := mapped_f (g := fun e => e + add) jj (isMat_mat n _) fun i j hi hj hne => by
  rw [ent_mat _ hi hj] at hne ⊢
  have := (bp i j hi hj).resolve_left hne
  show some (wrap64 (powf n (ent A) m i j + add)) = _
  rw [wr jj jj]
 have e0 : mat n (mapf (fun e => e + add) (ent (mat n (powf n (ent A) m)))) = mat n (fun i j => addf add (powf n (ent A) m i j)) := mat_congr fun i j hi hj => by
  unfold mapf addf
  rw [ent_mat _ hi hj]
 rw [e0] at em
 have et := times_pow (n := n) jj hA.bd jj m c jj
 obtain ⟨b, hb, hbi⟩ := Regime1_l0 n jj (powf n (ent A) (m + c)) (fun i j => addf add (powf n (ent A) m i j)) n 0 jj
 refine ⟨b, ?_, ?_⟩
 ·
  unfold line_Regime_1.f
  refine Ev.bind p1 (Ev.bind em (Ev.bind p2 (Ev.bind et ?_)))
  rw [yE]
  exact hb
 ·
  rw [hbi, rep_iff hA.bd ht jj hadd]
  exact ⟨fun h i j hi hj => h i j jj hi hj, fun h p q _ hp hq => h p q hp hq⟩
section
variable {n : Nat} {A : List (List Int)} {num den : Int} {L : List (List Int)} {u v : Int} {S D : List (List Int)}
theorem Regime_l1 (hA : Arg n A) (ht : Top n (ent A) (Seen n (n + 1) 0) num den) (c k : Nat) (hc : c ≤ 60) (add : Int) (hadd : den * add = num * (c : Nat)) (hk : Rep n (slackf num den (ent A)) k c) (hmin : ∀ j, j < k → ¬ Rep n (slackf num den (ent A)) j c) : ∀ d lo hi, hi - lo ≤ d → lo ≤ k → k ≤ hi → hi ≤ 100000000 →
  Ev (fun r => line_Regime.l1 r (c : Int) add (hi : Int) (lo : Int) A u v S D) ((c : Int), (k : Int), (0 : Int)) := by
 intro d
 induction d with
 | zero =>
  intro lo hi hd h1 h2 h3
  obtain rfl : lo = k := by omega
  obtain rfl : hi = lo := by omega
  refine ev_now fun r => ?_
  simp only [line_Regime.l1]
  rw [ji]
 | succ d ih =>
  intro lo hi hd h1 h2 h3
  by_cases e : lo < hi
  ·
   have emid : wrap64 (Int.tdiv (wrap64 ((lo : Int) + (hi : Int))) 2) = (((lo + hi) / 2 : Nat) : Int) := by
    rw [wr (x := (lo : Int) + (hi : Int)) jj jj, show (lo : Int) + (hi : Int) = ((lo + hi : Nat) : Int) by omega, tdiv2, wr jj jj]
   obtain ⟨b, hb, hbi⟩ := Regime1_f hA ht ((lo + hi) / 2) c jj hc add hadd
   refine Ev.step (f := fun r => (line_Regime_1.f r (((lo + hi) / 2 : Nat) : Int) A add (c : Int)).bind fun t => if t = true then line_Regime.l1 r (c : Int) add (((lo + hi) / 2 : Nat) : Int) (lo : Int) A u v S D else line_Regime.l1 r (c : Int) add (hi : Int) (((lo + hi) / 2 + 1 : Nat) : Int) A u v S D) (fun r => ?_) (Ev.bind hb ?_)
   ·
    simp only [line_Regime.l1]
    rw [jh, emid, wr1 ((lo + hi) / 2) jj]
   ·
    by_cases eb : b = true
    ·
     refine Ev.congr (fun r => if_pos eb) (ih lo ((lo + hi) / 2) jj h1 ?_ jj)
     by_cases e2 : k ≤ (lo + hi) / 2
     ·
      exact e2
     ·
      exact absurd (hbi.1 eb) (hmin _ jj)
    ·
     refine Ev.congr (fun r => if_neg eb) (ih ((lo + hi) / 2 + 1) hi jj ?_ h2 h3)
     by_cases e2 : k ≤ (lo + hi) / 2
     ·
      have := hk.later ((lo + hi) / 2 - k)
      rw [show k + ((lo + hi) / 2 - k) = (lo + hi) / 2 by omega] at this
      exact absurd (hbi.2 this) eb
     ·
      omega
  ·
   obtain rfl : lo = k := by omega
   obtain rfl : hi = lo := by omega
   refine ev_now fun r => ?_
   simp only [line_Regime.l1]
   rw [ji]
theorem Regime_l0 (hA : Arg n A) (ht : Top n (ent A) (Seen n (n + 1) 0) num den) (c k : Nat) (hc : c ≤ 60) (add : Int) (hadd : den * add = num * (c : Nat)) (hk : Rep n (slackf num den (ent A)) k c) (hmin : ∀ j, j < k → ¬ Rep n (slackf num den (ent A)) j c) (big : k ≤ 10000000) : ∀ d t, t + d = 24 →
  Ev (fun r => line_Regime.l0 r (c : Int) add ((2 ^ t : Nat) : Int) A u v S D) ((c : Int), (k : Int), (0 : Int)) := by
 intro d
 induction d with
 | zero =>
  intro t ht2
  obtain rfl : t = 24 := by omega
  obtain ⟨b, hb, hbi⟩ := Regime1_f hA ht (2 ^ 24) c (by decide) hc add hadd
  have : Rep n (slackf num den (ent A)) (2 ^ 24) c := by
   have h1 := hk.later (2 ^ 24 - k)
   rwa [show k + (2 ^ 24 - k) = 2 ^ 24 by have : (2 : Nat) ^ 24 = 16777216 := (by decide); omega] at h1
  have l1 := Regime_l1 (u := u) (v := v) (S := S) (D := D) hA ht c k hc add hadd hk hmin (2 ^ 24) 0 (2 ^ 24) jj jj (by have : (2 : Nat) ^ 24 = 16777216 := (by decide); omega) (by decide)
  refine Ev.step (f := fun r => (line_Regime_1.f r ((2 ^ 24 : Nat) : Int) A add (c : Int)).bind fun t => if t = true then line_Regime.l1 r (c : Int) add ((2 ^ 24 : Nat) : Int) ((0 : Nat) : Int) A u v S D else line_Regime.l0 r (c : Int) add (wrap64 (((2 ^ 24 : Nat) : Int) * 2)) A u v S D) (fun r => ?_) (Ev.bind hb (Ev.congr (fun r => if_pos (hbi.2 this)) l1))
  simp only [line_Regime.l0]
  rfl
 | succ d ih =>
  intro t ht2
  have hp : (2 : Nat) ^ t ≤ 2 ^ 23 := Nat.pow_le_pow_right jj jj
  have h23 : (2 : Nat) ^ 23 = 8388608 := by decide
  have hs : (2 : Nat) ^ (t + 1) = 2 ^ t * 2 := Nat.pow_succ ..
  have ih' := ih (t + 1) jj
  rw [hs] at ih'
  revert ih' hp
  generalize (2 : Nat) ^ t = p
  intro hp ih'
  obtain ⟨b, hb, hbi⟩ := Regime1_f hA ht p c jj hc add hadd
  refine Ev.step (f := fun r => (line_Regime_1.f r (p : Int) A add (c : Int)).bind fun t => if t = true then line_Regime.l1 r (c : Int) add (p : Int) ((0 : Nat) : Int) A u v S D else line_Regime.l0 r (c : Int) add (wrap64 ((p : Int) * 2)) A u v S D) (fun r => ?_) (Ev.bind hb ?_)
  ·
   simp only [line_Regime.l0]
   rfl
  by_cases eb : b = true
  ·
   refine Ev.congr (fun r => if_pos eb) (Regime_l1 hA ht c k hc add hadd hk hmin p 0 p jj jj ?_ jj)
   by_cases e2 : k ≤ p
   ·
    exact e2
   ·
    exact absurd (hbi.1 eb) (hmin _ jj)
  ·
   refine Ev.congr (fun r => ?_) ih'
   rw [if_neg eb, wr (x := (p : Int) * 2) jj jj]
   rfl
end
structure RegIs (n : Nat) (a : Nat → Nat → Int) (num den : Int) (c k : Nat) : Prop where
 top : Top n a (Seen n (n + 1) 0) num den
 conn : Conn n a
 per : IsPer n (slackf num den a) c
 rep : Rep n (slackf num den a) k c
 min : ∀ j, j < k → ¬ Rep n (slackf num den a) j c
 big : k ≤ 10000000
theorem Regime_no {A : List (List Int)} (ra : Rows A) (h : ¬ ∃ n, Arg n A) : Ev (fun k => line_Regime.f k A) (0, 0, 2) := by
 have eo := ((of_f A ra).resolve_left (fun h2 => h h2.1)).2
 have e1 : Ev (fun k => line_looked.f k A) ([], 0, 0, [], [], 2) := by
  unfold line_looked.f
  exact Ev.bind eo (ev_some fun k => if_neg (by decide))
 unfold line_Regime.f
 exact Ev.bind e1 (ev_some fun k => if_neg (by decide))
theorem Regime_f {n : Nat} {A : List (List Int)} (hA : Arg n A) (ra : Rows A) :
  ((∀ k i, Seen n (n + 1) 0 k i → powf n (ent A) k i i = NEV) ∧ Ev (fun k => line_Regime.f k A) (0, 0, 10)) ∨
  ∃ num den, Top n (ent A) (Seen n (n + 1) 0) num den ∧ Ev (fun k => lgpace.f k A) (num, den, true) ∧
   ((¬ Conn n (ent A) ∧ Ev (fun k => line_Regime.f k A) (0, 0, 10)) ∨
   ∃ c k, RegIs n (ent A) num den c k ∧ Ev (fun r => line_Regime.f r A) ((c : Int), (k : Int), (0 : Int))) := by
 have h6 := hA.six
 have h1 := hA.one
 rcases looked_f hA ra with ⟨h, el, x, y, ep⟩ | ⟨num, den, ht, ep, el⟩
 ·
  refine .inl ⟨h, ?_⟩
  unfold line_Regime.f
  exact Ev.bind el (ev_some fun k => if_neg (by decide))
 ·
  refine .inr ⟨num, den, ht, ep, ?_⟩
  obtain ⟨b, hb, hbi⟩ := connected_f hA
  rw [conn_iff h6] at hbi
  cases b with
  | false =>
   refine .inl ⟨fun h => absurd (hbi.2 h) (by decide), ?_⟩
   unfold line_Regime.f
   exact Ev.bind el (Ev.congr (fun k => if_pos rfl) (Ev.bind hb (ev_some fun k => if_neg (by decide))))
  | true =>
   have hcn := hbi.1 rfl
   have ok := slack_ok h1 h6 hA.bd ht
   obtain ⟨c, hc, ec⟩ := period_f ok A num den (eig_bd h6 hA.bd ht)
   have hc60 := Nat.le_of_dvd jj (per_60 ok hc)
   obtain ⟨w, hw⟩ := per_den hA.bd ht hc
   obtain ⟨u0, hu0⟩ := slack_onz hA.bd ht
   have d0 := ht.den0
   have hadd : den * (num * w) = num * (c : Nat) := by rw [hw, Int.mul_left_comm]
   have bigr := cyc_rep h1 h6 ok.bd ok.no (slack_con hA.bd ht hcn) hu0 hc (m := 10000000) jj jj
   obtain ⟨k, hk, hmin⟩ := least_nat (P := fun k => Rep n (slackf num den (ent A)) k c) ⟨_, bigr⟩
   have hbig : k ≤ 10000000 := by
    by_cases e : k ≤ 10000000
    ·
     exact e
    ·
     exact absurd bigr (hmin _ jj)
   refine .inr ⟨c, k, ⟨ht, hcn, hc, hk, hmin, hbig⟩, ?_⟩
   have hl := Regime_l0 (u := num) (v := den) (S := mat n (slackf num den (ent A))) (D := mat n (fwk (slackf num den (ent A)) n)) hA ht c k hc60 (num * w) hadd hk hmin hbig 24 0 jj
   have nb : -360000 ≤ num * (c : Nat) ∧ num * (c : Nat) ≤ 360000 := by
    have m1 := Int.mul_le_mul_of_nonneg_right ht.lo (by omega : (0 : Int) ≤ (c : Nat))
    have m2 := Int.mul_le_mul_of_nonneg_right ht.hi (by omega : (0 : Int) ≤ (c : Nat))
    omega
   have nw : -360000 ≤ num * w ∧ num * w ≤ 360000 := by
    have d6 := ht.den6
    have : den = 1 ∨ den = 2 ∨ den = 3 ∨ den = 4 ∨ den = 5 ∨ den = 6 := by omega
    rcases this with rfl | rfl | rfl | rfl | rfl | rfl <;> omega
   have eadd : wrap64 (Int.tdiv (wrap64 ((c : Int) * num)) den) = num * w := by
    rw [Int.mul_comm (c : Int) num, wr (x := num * (c : Nat)) jj jj, ← hadd, Int.mul_tdiv_cancel_left _ (by omega : den ≠ 0), wr jj jj]
   unfold line_Regime.f
   refine Ev.bind el (Ev.congr (fun k => if_pos rfl) (Ev.bind hb (Ev.congr (fun k => if_pos rfl) (Ev.bind ec (Ev.congr (fun k => ?_) hl)))))
   rw [if_neg (show ¬ den = 0 by omega)]
   show line_Regime.l0 k (c : Int) (wrap64 (Int.tdiv (wrap64 ((c : Int) * num)) den)) 1 A num den _ _ = _
   rw [eadd]
   rfl
theorem Product_eq : ∀ k, (∀ a b c d, r5Product.l0 k a b c d = l5product.l0 k a b c d) ∧ (∀ a b c d e f, r5Product.l1 k a b c d e f = l5product.l1 k a b c d e f) ∧ (∀ a b c d e f g h, r5Product.l2 k a b c d e f g h = l5product.l2 k a b c d e f g h)
 | 0 => ⟨fun _ _ _ _ => by simp only [r5Product.l0, l5product.l0], fun _ _ _ _ _ _ => by simp only [r5Product.l1, l5product.l1], fun _ _ _ _ _ _ _ _ => by simp only [r5Product.l2, l5product.l2]⟩
 | k + 1 => by
  obtain ⟨i0, i1, i2⟩ := Product_eq k
  have hp : ∀ a b, r5plus.f a b = l5plus.f a b := fun _ _ => rfl
  refine ⟨fun a b c d => ?_, fun a b c d e f => ?_, fun a b c d e f g h => ?_⟩
  ·
   simp only [r5Product.l0, l5product.l0, i1]
  ·
   simp only [r5Product.l1, l5product.l1, i0, i2]
  ·
   simp only [r5Product.l2, l5product.l2, i1, i2, hp]
theorem Product_mat {n : Nat} (hn : n ≤ 1000) {M N : Int} {a b : Nat → Nat → Int} (ha : BdM n n M a) (hb : BdM n n N b) (hMN : M + N < 1152921504606846976) (hM : 0 ≤ M) (hN : 0 ≤ N) :
  Ev (fun k => r5Product.f k (mat n a) (mat n b)) (mat n (mulf n a b)) :=
 Ev.congr (fun k => (Product_eq k).1 _ _ _ _) (product_mat hn ha hb hMN hM hN)
def rowp (i n j : Nat) : List Int := vec n (fun b => if b < j then onef i b else 0)
theorem rowp_set (i n j : Nat) (e : i ≠ j) : (rowp i n j).set j NEV = rowp i n (j + 1) := by
 refine range_map_set n _ _ j _ (fun _ => ?_) (fun b _ hb => ?_)
 ·
  rw [jh]; unfold onef; rw [if_neg e]
 ·
  by_cases h : b < j
  ·
   rw [if_pos h, jh]
  ·
   rw [if_neg h, ji]
theorem rowp_skip (i n : Nat) : rowp i n i = rowp i n (i + 1) := vec_congr fun b _ => by
 by_cases h : b < i
 ·
  rw [if_pos h, jh]
 ·
  rw [if_neg h]
  by_cases e : b = i
  ·
   rw [jh]; unfold onef; rw [if_pos e.symm]
  ·
   rw [ji]
theorem rowp_zero (i n : Nat) : List.replicate n 0 = rowp i n 0 := by
 unfold rowp vec
 rw [show (fun b : Nat => if b < 0 then onef i b else 0) = fun _ => (0 : Int) from funext fun b => ji, List.map_const', List.length_range]
theorem rowp_all (i n : Nat) : rowp i n n = vec n (onef i) := vec_congr fun _ hb => if_pos hb
theorem One_l1 (n : Nat) (hn : n ≤ 1000) (i : Nat) (hi : i < n) (r : List (List Int))
  (hr : Ev (fun k => r5One.l0 k (n : Int) ((List.range (i + 1)).map fun a => vec n (onef a)) ((i + 1 : Nat) : Int)) r) :
  ∀ d j, j + d = n → Ev (fun k => r5One.l1 k (n : Int) ((List.range i).map fun a => vec n (onef a)) (i : Int) (rowp i n j) (j : Int)) r := by
 intro d
 induction d with
 | zero =>
  intro j hj
  refine Ev.step (f := fun k => r5One.l0 k (n : Int) ((List.range (i + 1)).map fun a => vec n (onef a)) ((i + 1 : Nat) : Int)) (fun k => ?_) hr
  simp only [r5One.l1]
  rw [ji, wr1 i jj, show j = n by omega, rowp_all, if_pos (by rw [List.length_map, List.length_range]; omega), rowsof_succ]
 | succ d ih =>
  intro j hj
  refine Ev.step (f := fun k => r5One.l1 k (n : Int) ((List.range i).map fun a => vec n (onef a)) (i : Int) (rowp i n (j + 1)) ((j + 1 : Nat) : Int)) (fun k => ?_) (ih (j + 1) jj)
  simp only [r5One.l1]
  rw [jh, wr1 j jj]
  by_cases e : i = j
  ·
   subst e
   rw [if_pos rfl, rowp_skip]
  ·
   rw [ji, jh, show (rowp i n j).length = n from yB _ _, jh, toN, show (-1152921504606846976 : Int) = NEV from rfl, rowp_set i n j e]
theorem One_l0 (n : Nat) (hn : n ≤ 1000) : ∀ d i, i + d = n → Ev (fun k => r5One.l0 k (n : Int) ((List.range i).map fun a => vec n (onef a)) (i : Int)) (mat n onef) := by
 intro d
 induction d with
 | zero =>
  intro i hi
  obtain rfl : i = n := by omega
  refine ev_now (fun k => ?_)
  simp only [r5One.l0]
  rw [ji]
  rfl
 | succ d ih =>
  intro i hi
  refine Ev.step (f := fun k => r5One.l1 k (n : Int) ((List.range i).map fun a => vec n (onef a)) (i : Int) (rowp i n 0) ((0 : Nat) : Int)) (fun k => ?_) (One_l1 n hn i jj _ (ih (i + 1) jj) n 0 jj)
  simp only [r5One.l0]
  rw [jh, jh, toN, jh, rowp_zero i]
  rfl
theorem One_f (n : Nat) (hn : n ≤ 1000) : Ev (fun k => r5One.f k (n : Int)) (mat n onef) := One_l0 n hn n 0 jj
def From (r : List Int) (j : Nat) : Prop := ∀ q, j ≤ q → q < r.length → oddB (-1000) 1000 (r.getD q 0) = false
theorem Matrix_l1 (A : List (List Int)) (n : Nat) (hn : n ≤ 6) (hA : A.length = n) (i : Nat) (hi : i < n) (hr : (A.getD i []).length = n) (b : Bool)
  (hb : Ev (fun k => r5Matrix.l0 k A (n : Int) ((i + 1 : Nat) : Int)) b) : ∀ d j, j + d = n →
  (From (A.getD i []) j ∧ Ev (fun k => r5Matrix.l1 k A (n : Int) (i : Int) (j : Int)) b) ∨ (¬ From (A.getD i []) j ∧ Ev (fun k => r5Matrix.l1 k A (n : Int) (i : Int) (j : Int)) false) := by
 intro d
 induction d with
 | zero =>
  intro j hj
  refine .inl ⟨fun q h1 h2 => by omega, Ev.step (fun k => ?_) hb⟩
  simp only [r5Matrix.l1]
  rw [ji, wr1 i jj]
 | succ d ih =>
  intro j hj
  have step : ∀ k, r5Matrix.l1 (k + 1) A (n : Int) (i : Int) (j : Int) = if oddB (-1000) 1000 ((A.getD i []).getD j 0) = true then some false else r5Matrix.l1 k A (n : Int) (i : Int) ((j + 1 : Nat) : Int) := by
   intro k
   simp only [r5Matrix.l1]
   rw [jh, jh, jh, jh, rdL, rdI, jh, wr1 j jj]
   unfold oddB
   rw [show (-1152921504606846976 : Int) = NEV from rfl]
   by_cases e : (A.getD i []).getD j 0 = NEV
   ·
    rw [if_pos e, if_neg (by rw [decide_eq_true_iff]; exact fun h => h.1 e)]
   ·
    rw [if_neg e]
    by_cases e1 : (A.getD i []).getD j 0 < -1000
    ·
     rw [if_pos e1, if_pos (by rw [decide_eq_true_iff]; exact ⟨e, .inl e1⟩)]
    ·
     rw [if_neg e1]
     by_cases e2 : (A.getD i []).getD j 0 > 1000
     ·
      rw [if_pos e2, if_pos (by rw [decide_eq_true_iff]; exact ⟨e, .inr e2⟩)]
     ·
      rw [if_neg e2, if_neg (by rw [decide_eq_true_iff]; exact fun h => h.2.elim e1 e2)]
  by_cases ho : oddB (-1000) 1000 ((A.getD i []).getD j 0) = true
  ·
   refine .inr ⟨fun hf => ?_, Ev.step (f := fun _ => some false) (fun k => by rw [step, if_pos ho]) (Ev.now _)⟩
   have := hf j jj jj
   rw [ho] at this; cases this
  ·
   rcases ih (j + 1) jj with ⟨h1, h2⟩ | ⟨h1, h2⟩
   ·
    refine .inl ⟨fun q hq hq2 => ?_, Ev.step (fun k => by rw [step, if_neg ho]) h2⟩
    by_cases e : q = j
    ·
     subst e; exact Bool.eq_false_iff.2 ho
    ·
     exact h1 q jj hq2
   ·
    exact .inr ⟨fun hf => h1 fun q hq hq2 => hf q jj hq2, Ev.step (fun k => by rw [step, if_neg ho]) h2⟩
theorem Matrix_l0 (A : List (List Int)) (n : Nat) (hn : n ≤ 6) (hA : A.length = n) : ∀ d i, i + d = n →
  (RowsOk A i ∧ Ev (fun k => r5Matrix.l0 k A (n : Int) (i : Int)) true) ∨ (¬ RowsOk A i ∧ Ev (fun k => r5Matrix.l0 k A (n : Int) (i : Int)) false) := by
 intro d
 induction d with
 | zero =>
  intro i hi
  refine .inl ⟨fun j h1 h2 => by omega, ev_now (fun k => ?_)⟩
  simp only [r5Matrix.l0]
  rw [ji]
 | succ d ih =>
  intro i hi
  by_cases hr : (A.getD i []).length = n
  ·
   have go : ∀ b, Ev (fun k => r5Matrix.l1 k A (n : Int) (i : Int) ((0 : Nat) : Int)) b → Ev (fun k => r5Matrix.l0 k A (n : Int) (i : Int)) b := fun b h => Ev.step (fun k => by
    simp only [r5Matrix.l0]
    rw [jh, jh, jh, rdL, jh]
    rfl) h
   rcases ih (i + 1) jj with ⟨h1, h2⟩ | ⟨h1, h2⟩
   ·
    rcases Matrix_l1 A n hn hA i jj hr _ h2 n 0 jj with ⟨g1, g2⟩ | ⟨g1, g2⟩
    ·
     refine .inl ⟨fun j hj hj2 => ?_, go _ g2⟩
     by_cases e : j = i
     ·
      subst e; exact ⟨by omega, fun q hq => g1 q jj hq⟩
     ·
      exact h1 j jj hj2
    ·
     exact .inr ⟨fun hh => g1 fun q _ hq => (hh i jj jj).2 q hq, go _ g2⟩
   ·
    rcases Matrix_l1 A n hn hA i jj hr _ h2 n 0 jj with ⟨g1, g2⟩ | ⟨g1, g2⟩
    ·
     exact .inr ⟨fun hh => h1 fun j hj hj2 => hh j jj hj2, go _ g2⟩
    ·
     exact .inr ⟨fun hh => h1 fun j hj hj2 => hh j jj hj2, go _ g2⟩
  ·
   refine .inr ⟨fun hh => hr (by rw [(hh i jj jj).1, hA]), ev_now (fun k => ?_)⟩
   simp only [r5Matrix.l0]
   rw [jh, jh, jh, rdL, ji]
theorem Matrix_f (A : List (List Int)) : ((∃ n, Arg n A) ∧ Ev (fun k => r5Matrix.f k A) true) ∨ ((¬ ∃ n, Arg n A) ∧ Ev (fun k => r5Matrix.f k A) false) := by
 have no : Ev (fun k => r5Matrix.j0 k A (A.length : Int) true) false := ev_now fun k => by simp only [r5Matrix.j0]; exact if_pos trivial
 by_cases h1 : 1 ≤ A.length
 ·
  by_cases h6 : A.length ≤ 6
  ·
   have go : ∀ b, Ev (fun k => r5Matrix.l0 k A (A.length : Int) ((0 : Nat) : Int)) b → Ev (fun k => r5Matrix.f k A) b := fun b h => by
    unfold r5Matrix.f
    refine Ev.congr (f := fun k => r5Matrix.j0 k A (A.length : Int) false) (fun k => ?_) (Ev.step (fun k => ?_) h)
    ·
     rw [ji, decide_eq_false jj]
    ·
     simp only [r5Matrix.j0]; rw [if_neg (by decide)]; rfl
   rcases Matrix_l0 A A.length h6 rfl A.length 0 jj with ⟨g1, g2⟩ | ⟨g1, g2⟩
   ·
    exact .inl ⟨(arg_iff A).2 ⟨h1, h6, g1⟩, go _ g2⟩
   ·
    exact .inr ⟨fun h => g1 ((arg_iff A).1 h).2.2, go _ g2⟩
  ·
   refine .inr ⟨fun h => h6 ((arg_iff A).1 h).2.1, Ev.congr (fun k => ?_) no⟩
   unfold r5Matrix.f
   rw [ji, decide_eq_true jj]
 ·
  refine .inr ⟨fun h => h1 ((arg_iff A).1 h).1, Ev.congr (fun k => ?_) no⟩
  unfold r5Matrix.f
  rw [jh]
end Go.Proofs.Ythjmfbmffchicaa.Pure
end
