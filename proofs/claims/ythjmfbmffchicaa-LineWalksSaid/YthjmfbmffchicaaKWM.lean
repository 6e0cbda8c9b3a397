/- What the functions that the law reaches compute, and the plain laws of it, down to the plain statement of the law. Bounds stand in each theorem. -/
import Derived.RowKit
import Derived.Test.YthjmfbmffchicaaKWf4
import Derived.Test.YthjmfbmffchicaaKWf0
import Derived.Test.YthjmfbmffchicaaKWf2
import Derived.Test.YthjmfbmffchicaaKWf1
import Derived.Test.YthjmfbmffchicaaKWf5
import Derived.Test.YthjmfbmffchicaaKWf3
import Derived.OpenShut
import Derived.Deep.Matrix
import Derived.ProofKit
import Derived.Test.YthjmfbmffchicaaKWW
section
namespace Go.Proofs.Ythjmfbmffchicaa.Mp
def NEV : Int := -1152921504606846976
def pl (a b : Int) : Int := if a = NEV then NEV else if b = NEV then NEV else a + b
def sup (h : Nat → Int) : Nat → Int
  | 0 => NEV
  | n + 1 => max (sup h n) (h n)
def Bd (M x : Int) : Prop := x = NEV ∨ (-M ≤ x ∧ x ≤ M)
def mulf (n : Nat) (a b : Nat → Nat → Int) (i j : Nat) : Int := sup (fun k => pl (a i k) (b k j)) n
def onef (i j : Nat) : Int := if i = j then 0 else NEV
def powf (n : Nat) (a : Nat → Nat → Int) : Nat → Nat → Nat → Int
  | 0 => onef
  | k + 1 => mulf n (powf n a k) a
theorem Bd.mono {M N x : Int} (h : Bd M x) (hMN : M ≤ N) : Bd N x := by
  rcases h with h | h
  · exact .inl h
  · exact .inr (by omega)
theorem Bd.ge {M x : Int} (h : Bd M x) (hM : M < 1152921504606846976) : NEV ≤ x := by
  unfold Bd NEV at *; omega
theorem sup_nev (h : Nat → Int) (n : Nat) : NEV ≤ sup h n := by
  induction n with
  | zero => exact Int.le_refl _
  | succ n ih => simp only [sup]; omega
theorem sup_le {h : Nat → Int} {n : Nat} {v : Int} (h0 : NEV ≤ v) (hk : ∀ k, k < n → h k ≤ v) : sup h n ≤ v := by
  induction n with
  | zero => exact h0
  | succ n ih =>
    have h1 := ih (fun k hk' => hk k (by omega))
    have h2 := hk n (by omega)
    simp only [sup]; omega
theorem le_sup {h : Nat → Int} {n k : Nat} (hk : k < n) : h k ≤ sup h n := by
  induction n with
  | zero => omega
  | succ n ih =>
    simp only [sup]
    by_cases e : k = n
    · subst e; omega
    · have := ih (by omega); omega
theorem sup_mem (h : Nat → Int) (n : Nat) : sup h n = NEV ∨ ∃ k, k < n ∧ sup h n = h k := by
  induction n with
  | zero => exact .inl rfl
  | succ n ih =>
    simp only [sup]
    by_cases e : h n ≤ sup h n
    · rw [Int.max_eq_left e]
      rcases ih with ih | ⟨k, hk, ih⟩
      · exact .inl ih
      · exact .inr ⟨k, by omega, ih⟩
    · rw [Int.max_eq_right (by omega)]
      exact .inr ⟨n, by omega, rfl⟩
theorem sup_congr {h g : Nat → Int} {n : Nat} (e : ∀ k, k < n → h k = g k) : sup h n = sup g n := by
  induction n with
  | zero => rfl
  | succ n ih => simp only [sup]; rw [ih (fun k hk => e k (by omega)), e n (by omega)]
theorem sup_comm (h : Nat → Nat → Int) (n m : Nat) : sup (fun k => sup (fun l => h k l) m) n = sup (fun l => sup (fun k => h k l) n) m := by
  apply Int.le_antisymm
  · refine sup_le (sup_nev _ _) (fun k hk => sup_le (sup_nev _ _) (fun l hl => ?_))
    exact Int.le_trans (le_sup (h := fun k => h k l) hk) (le_sup (h := fun l => sup (fun k => h k l) n) hl)
  · refine sup_le (sup_nev _ _) (fun l hl => sup_le (sup_nev _ _) (fun k hk => ?_))
    exact Int.le_trans (le_sup (h := fun l => h k l) hl) (le_sup (h := fun k => sup (fun l => h k l) m) hk)
theorem Bd.pl {M N a b : Int} (ha : Bd M a) (hb : Bd N b) : Bd (M + N) (pl a b) := by
  unfold Bd Mp.pl at *
  split
  · exact .inl rfl
  · split
    · exact .inl rfl
    · exact .inr (by omega)
theorem Bd.sup {M : Int} {h : Nat → Int} {n : Nat} (hh : ∀ k, k < n → Bd M (h k)) : Bd M (sup h n) := by
  rcases sup_mem h n with e | ⟨k, hk, e⟩
  · exact .inl e
  · rw [e]; exact hh k hk
theorem pl_assoc {M N K a b c : Int} (ha : Bd M a) (hb : Bd N b) (hc : Bd K c) (hs : M + N + K < 1152921504606846976) (hM : 0 ≤ M) (hN : 0 ≤ N) (hK : 0 ≤ K) :
    pl (pl a b) c = pl a (pl b c) := by
  unfold Bd pl NEV at *
  repeat' split <;> omega
theorem pl_max_left {M N x y c : Int} (hx : Bd M x) (hy : Bd M y) (hc : Bd N c) (hs : M + N < 1152921504606846976) (hM : 0 ≤ M) (hN : 0 ≤ N) :
    pl (max x y) c = max (pl x c) (pl y c) := by
  unfold Bd pl NEV at *
  repeat' split <;> omega
theorem pl_max_right {M N x y c : Int} (hx : Bd M x) (hy : Bd M y) (hc : Bd N c) (hs : M + N < 1152921504606846976) (hM : 0 ≤ M) (hN : 0 ≤ N) :
    pl c (max x y) = max (pl c x) (pl c y) := by
  unfold Bd pl NEV at *
  repeat' split <;> omega
theorem pl_nev_left (c : Int) : pl NEV c = NEV := by simp [pl]
theorem pl_nev_right (c : Int) : pl c NEV = NEV := by simp [pl]
theorem pl_sup_left {M N c : Int} {h : Nat → Int} {n : Nat} (hh : ∀ k, k < n → Bd M (h k)) (hc : Bd N c) (hs : M + N < 1152921504606846976) (hM : 0 ≤ M) (hN : 0 ≤ N) :
    pl (sup h n) c = sup (fun k => pl (h k) c) n := by
  induction n with
  | zero => exact pl_nev_left c
  | succ n ih =>
    simp only [sup]
    rw [pl_max_left (Bd.sup (fun k hk => hh k (by omega))) (hh n (by omega)) hc hs hM hN, ih (fun k hk => hh k (by omega))]
theorem pl_sup_right {M N c : Int} {h : Nat → Int} {n : Nat} (hh : ∀ k, k < n → Bd M (h k)) (hc : Bd N c) (hs : M + N < 1152921504606846976) (hM : 0 ≤ M) (hN : 0 ≤ N) :
    pl c (sup h n) = sup (fun k => pl c (h k)) n := by
  induction n with
  | zero => exact pl_nev_right c
  | succ n ih =>
    simp only [sup]
    rw [pl_max_right (Bd.sup (fun k hk => hh k (by omega))) (hh n (by omega)) hc hs hM hN, ih (fun k hk => hh k (by omega))]
def BdM (n m : Nat) (M : Int) (a : Nat → Nat → Int) : Prop := ∀ i j, i < n → j < m → Bd M (a i j)
theorem BdM.mul {n m : Nat} {M N : Int} {a b : Nat → Nat → Int} (ha : BdM n n M a) (hb : BdM n m N b) : BdM n m (M + N) (mulf n a b) :=
  fun i j hi hj => Bd.sup fun k hk => (ha i k hi hk).pl (hb k j hk hj)
theorem mul_assoc {n m : Nat} {M N K : Int} {a b c : Nat → Nat → Int} (ha : BdM n n M a) (hb : BdM n n N b) (hc : BdM n m K c) (hs : M + N + K < 1152921504606846976) (hM : 0 ≤ M) (hN : 0 ≤ N) (hK : 0 ≤ K)
    {i j : Nat} (hi : i < n) (hj : j < m) : mulf n (mulf n a b) c i j = mulf n a (mulf n b c) i j := by
  have h1 : mulf n (mulf n a b) c i j = sup (fun k => sup (fun l => pl (pl (a i l) (b l k)) (c k j)) n) n :=
    sup_congr fun k hk => pl_sup_left (fun l hl => (ha i l hi hl).pl (hb l k hl hk)) (hc k j hk hj) hs (by omega) hK
  have h2 : mulf n a (mulf n b c) i j = sup (fun l => sup (fun k => pl (a i l) (pl (b l k) (c k j))) n) n :=
    sup_congr fun l hl => pl_sup_right (fun k hk => (hb l k hl hk).pl (hc k j hk hj)) (ha i l hi hl) (by omega) (by omega) hM
  rw [h1, h2, sup_comm]
  exact sup_congr fun l hl => sup_congr fun k hk => pl_assoc (ha i l hi hl) (hb l k hl hk) (hc k j hk hj) hs hM hN hK
theorem mul_congr {n : Nat} {a a' b b' : Nat → Nat → Int} {i j : Nat} (ha : ∀ k, k < n → a i k = a' i k) (hb : ∀ k, k < n → b k j = b' k j) : mulf n a b i j = mulf n a' b' i j :=
  sup_congr fun k hk => by rw [ha k hk, hb k hk]
theorem one_mul {n m : Nat} {M : Int} {a : Nat → Nat → Int} (ha : BdM n m M a) (hM : M < 1152921504606846976) {i j : Nat} (hi : i < n) (hj : j < m) : mulf n onef a i j = a i j := by
  apply Int.le_antisymm
  · refine sup_le ((ha i j hi hj).ge hM) (fun k hk => ?_)
    show pl (onef i k) (a k j) ≤ a i j
    unfold onef
    by_cases e : i = k
    · subst e
      rw [if_pos rfl]
      unfold pl
      split
      · rename_i h; exact absurd h (by decide)
      · split
        · rename_i h; omega
        · omega
    · rw [if_neg e, pl_nev_left]; exact (ha i j hi hj).ge hM
  · have h := le_sup (h := fun k => pl (onef i k) (a k j)) hi
    have e : pl (onef i i) (a i j) = a i j := by
      unfold onef pl
      rw [if_pos rfl, if_neg (by decide)]
      split
      · rename_i h; exact h.symm
      · omega
    show a i j ≤ sup (fun k => pl (onef i k) (a k j)) n
    simp only [e] at h
    exact h
theorem mul_one {n m : Nat} {M : Int} {a : Nat → Nat → Int} (ha : BdM m n M a) (hM : M < 1152921504606846976) {i j : Nat} (hi : i < m) (hj : j < n) : mulf n a onef i j = a i j := by
  apply Int.le_antisymm
  · refine sup_le ((ha i j hi hj).ge hM) (fun k hk => ?_)
    show pl (a i k) (onef k j) ≤ a i j
    unfold onef
    by_cases e : k = j
    · subst e
      rw [if_pos rfl]
      unfold pl
      split
      · rename_i h; omega
      · split
        · rename_i h; exact absurd h (by decide)
        · omega
    · rw [if_neg e, pl_nev_right]; exact (ha i j hi hj).ge hM
  · have h := le_sup (h := fun k => pl (a i k) (onef k j)) hj
    have e : pl (a i j) (onef j j) = a i j := by
      unfold onef pl
      rw [if_pos rfl]
      split
      · rename_i h; exact h.symm
      · rw [if_neg (by decide)]; omega
    show a i j ≤ sup (fun k => pl (a i k) (onef k j)) n
    simp only [e] at h
    exact h
theorem BdM.one (n : Nat) : BdM n n 0 onef := fun i j _ _ => by
  unfold onef
  split
  · exact .inr (by omega)
  · exact .inl rfl
theorem BdM.pow {n : Nat} {M : Int} {a : Nat → Nat → Int} (ha : BdM n n M a) (k : Nat) : BdM n n (M * k) (powf n a k) := by
  induction k with
  | zero => exact fun i j hi hj => (BdM.one n i j hi hj).mono (by simp)
  | succ k ih =>
    refine fun i j hi hj => (BdM.mul ih ha i j hi hj).mono ?_
    rw [Int.natCast_succ, Int.mul_add]
    omega
theorem pow_add {n : Nat} {M : Int} {a : Nat → Nat → Int} (ha : BdM n n M a) (hM : 0 ≤ M) (j : Nat) : ∀ k : Nat, M * (j + k : Nat) < 1152921504606846976 → ∀ {x y : Nat}, x < n → y < n → powf n a (j + k) x y = mulf n (powf n a j) (powf n a k) x y
  | 0, hs, x, y, hx, hy => by
    refine (mul_one (BdM.pow ha j) ?_ hx hy).symm
    simpa using hs
  | k + 1, hs, x, y, hx, hy => by
    have hs' : M * (j : Nat) + M * (k : Nat) + M < 1152921504606846976 := by
      have : M * ((j + (k + 1) : Nat) : Int) = M * (j : Nat) + M * (k : Nat) + M := by
        rw [show ((j + (k + 1) : Nat) : Int) = (j : Int) + (k : Int) + 1 by omega, Int.mul_add, Int.mul_add]; omega
      omega
    have hs2 : M * ((j + k : Nat) : Int) < 1152921504606846976 := by
      have : M * ((j + k : Nat) : Int) = M * (j : Nat) + M * (k : Nat) := by
        rw [show ((j + k : Nat) : Int) = (j : Int) + (k : Int) by omega, Int.mul_add]
      omega
    have e1 : powf n a (j + (k + 1)) x y = mulf n (mulf n (powf n a j) (powf n a k)) a x y :=
      mul_congr (fun z hz => pow_add ha hM j k hs2 hx hz) (fun _ _ => rfl)
    rw [e1]
    exact mul_assoc (BdM.pow ha j) (BdM.pow ha k) ha hs' (Int.mul_nonneg hM (by omega)) (Int.mul_nonneg hM (by omega)) hM hx hy
def ent (A : List (List Int)) (i j : Nat) : Int := (A.getD i []).getD j 0
def mat (n : Nat) (f : Nat → Nat → Int) : List (List Int) := (List.range n).map fun i => (List.range n).map fun j => f i j
def vec (n : Nat) (f : Nat → Int) : List Int := (List.range n).map f
def IsMat (n : Nat) (A : List (List Int)) : Prop := A.length = n ∧ ∀ i, i < n → (A.getD i []).length = n
theorem vec_length (n : Nat) (f : Nat → Int) : (vec n f).length = n := by simp [vec]
theorem vec_get {n : Nat} (f : Nat → Int) {i : Nat} (hi : i < n) : (vec n f).getD i 0 = f i := by
  simp [vec, List.getD_eq_getElem?_getD, List.getElem?_range hi]
theorem mat_length (n : Nat) (f : Nat → Nat → Int) : (mat n f).length = n := by simp [mat]
theorem mat_get {n : Nat} (f : Nat → Nat → Int) {i : Nat} (hi : i < n) : (mat n f).getD i [] = vec n (f i) := by
  simp [mat, vec, List.getD_eq_getElem?_getD, List.getElem?_range hi]
theorem isMat_mat (n : Nat) (f : Nat → Nat → Int) : IsMat n (mat n f) := ⟨mat_length n f, fun i hi => by rw [mat_get f hi, vec_length]⟩
theorem ent_mat {n : Nat} (f : Nat → Nat → Int) {i j : Nat} (hi : i < n) (hj : j < n) : ent (mat n f) i j = f i j := by
  unfold ent
  rw [mat_get f hi, vec_get _ hj]
theorem vec_ext {n : Nat} {x : List Int} (hx : x.length = n) : vec n (fun i => x.getD i 0) = x := by
  apply List.ext_getElem
  · rw [vec_length, hx]
  · intro i h1 h2
    simp [vec, List.getD_eq_getElem?_getD, List.getElem?_eq_getElem h2]
theorem mat_ext {n : Nat} {A : List (List Int)} (hA : IsMat n A) : mat n (ent A) = A := by
  apply List.ext_getElem
  · rw [mat_length, hA.1]
  · intro i h1 h2
    have hi : i < n := by rw [mat_length] at h1; exact h1
    have e : (A.getD i []) = A[i] := by simp [List.getD_eq_getElem?_getD, List.getElem?_eq_getElem h2]
    have := vec_ext (hA.2 i hi)
    rw [← e, ← this]
    simp [mat, vec, ent]
theorem vec_congr {n : Nat} {f g : Nat → Int} (h : ∀ i, i < n → f i = g i) : vec n f = vec n g := by
  unfold vec
  exact List.map_congr_left fun i hi => h i (by simpa using hi)
theorem mat_congr {n : Nat} {f g : Nat → Nat → Int} (h : ∀ i j, i < n → j < n → f i j = g i j) : mat n f = mat n g := by
  unfold mat
  exact List.map_congr_left fun i hi => List.map_congr_left fun j hj => h i j (by simpa using hi) (by simpa using hj)
end Go.Proofs.Ythjmfbmffchicaa.Mp
end
section
namespace Go.Proofs.Ythjmfbmffchicaa.Pure
open Go.RowKit Go.Proofs.Ythjmfbmffchicaa.V Go.Proofs.YthjmfbmffchicaaW.PrintWords Go.Proofs.YthjmfbmffchicaaW.PrintLast Go.Proofs.YthjmfbmffchicaaW.PrintMore
open Go.Proofs.Ythjmfbmffchicaa.Mp
theorem wr {x : Int} (h : -9223372036854775808 ≤ x) (h' : x ≤ 9223372036854775807) : wrap64 x = x := by unfold wrap64; omega
theorem wr1 (i : Nat) (h : i < 9223372036854775807) : wrap64 ((i : Int) + 1) = ((i + 1 : Nat) : Int) := by unfold wrap64; omega
theorem rdL (xs : List (List Int)) (i : Nat) : rd_L1 xs (i : Int) = xs.getD i [] := rfl
theorem rdI (xs : List Int) (i : Nat) : rd xs (i : Int) = xs.getD i 0 := rfl
theorem toN (i : Nat) : ((i : Int)).toNat = i := rfl
theorem mx_max (a b : Int) : mx a b = max a b := by unfold mx; split <;> omega
theorem ev_now {α : Type} {g : Nat → Option α} {r : α} (h : ∀ k, g (k + 1) = some r) : Ev g r := Ev.step (f := fun _ => some r) h (Ev.now r)
theorem ev_some {α : Type} {g : Nat → Option α} {r : α} (h : ∀ k, g k = some r) : Ev g r := Ev.congr h (Ev.now r)
theorem both_f {M N a b : Int} (ha : Bd M a) (hb : Bd N b) (h : M + N < 1152921504606846976) (hM : 0 ≤ M) (hN : 0 ≤ N) : line_both_int.f a b = some (pl a b) := by
  unfold line_both_int.f line_never_int.f pl NEV
  simp only [Option.bind_some]
  split
  · rfl
  · split
    · rfl
    · unfold Bd NEV at ha hb
      rw [wr (by omega) (by omega)]
def part (n : Nat) (f : Nat → Nat → Int) (i : Nat) : List (List Int) := (List.range n).map fun a => if a < i then vec n (f a) else []
def part2 (n : Nat) (f : Nat → Nat → Int) (i j : Nat) : List (List Int) := (List.range n).map fun a => if a < i then vec n (f a) else if a = i then vec n (fun b => if b < j then f i b else 0) else []
theorem range_map_set {α : Type} (n : Nat) (g g' : Nat → α) (i : Nat) (v : α) (hv : i < n → g' i = v) (hg : ∀ a, a < n → a ≠ i → g' a = g a) : ((List.range n).map g).set i v = (List.range n).map g' := by
  apply List.ext_getElem
  · simp
  · intro a h1 h2
    have ha : a < n := by simpa using h2
    by_cases e : a = i
    · subst e; simp [hv ha]
    · rw [List.getElem_set_ne (by omega)]; simp [hg a ha e]
theorem part_length (n : Nat) (f : Nat → Nat → Int) (i : Nat) : (part n f i).length = n := by simp [part]
theorem part2_length (n : Nat) (f : Nat → Nat → Int) (i j : Nat) : (part2 n f i j).length = n := by simp [part2]
theorem part_zero (n : Nat) (f : Nat → Nat → Int) : List.replicate n [] = part n f 0 := by
  unfold part
  apply List.ext_getElem <;> simp
theorem part_all (n : Nat) (f : Nat → Nat → Int) : part n f n = mat n f := by
  unfold part mat vec
  exact List.map_congr_left fun a ha => by rw [if_pos (by simpa using ha)]
theorem part_open (n : Nat) (f : Nat → Nat → Int) (i : Nat) (_hi : i < n) : (part n f i).set i (List.replicate n 0) = part2 n f i 0 := by
  refine range_map_set n _ _ i _ (fun _ => ?_) (fun a _ ha => ?_)
  · rw [if_neg (by omega), if_pos rfl]
    unfold vec
    apply List.ext_getElem <;> simp
  · by_cases h : a < i
    · rw [if_pos h, if_pos h]
    · rw [if_neg h, if_neg h, if_neg ha]
theorem part2_get (n : Nat) (f : Nat → Nat → Int) (i j : Nat) (hi : i < n) : (part2 n f i j).getD i [] = vec n (fun b => if b < j then f i b else 0) := by
  simp [part2, List.getD_eq_getElem?_getD, List.getElem?_range hi]
theorem part2_set (n : Nat) (f : Nat → Nat → Int) (i j : Nat) (hi : i < n) (_hj : j < n) : (part2 n f i j).set i (((part2 n f i j).getD i []).set j (f i j)) = part2 n f i (j + 1) := by
  rw [part2_get n f i j hi]
  refine range_map_set n _ _ i _ (fun _ => ?_) (fun a _ ha => ?_)
  · rw [if_neg (by omega), if_pos rfl]
    refine (range_map_set n _ _ j _ (fun _ => ?_) (fun b _ hb => ?_)).symm
    · rw [if_pos (by omega)]
    · by_cases h : b < j
      · rw [if_pos h, if_pos (by omega)]
      · rw [if_neg h, if_neg (by omega)]
  · by_cases h : a < i
    · rw [if_pos h, if_pos h]
    · rw [if_neg h, if_neg h, if_neg ha, if_neg ha]
theorem part2_skip (n : Nat) (f : Nat → Nat → Int) (i j : Nat) (h0 : f i j = 0) : part2 n f i j = part2 n f i (j + 1) := by
  unfold part2
  refine List.map_congr_left fun a _ => ?_
  by_cases h : a < i
  · rw [if_pos h, if_pos h]
  · rw [if_neg h, if_neg h]
    by_cases e : a = i
    · rw [if_pos e, if_pos e]
      refine vec_congr fun b _ => ?_
      by_cases h : b < j
      · rw [if_pos h, if_pos (by omega)]
      · by_cases e2 : b = j
        · subst e2; rw [if_neg h, if_pos (by omega), h0]
        · rw [if_neg h, if_neg (by omega)]
    · rw [if_neg e, if_neg e]
theorem part2_all (n : Nat) (f : Nat → Nat → Int) (i : Nat) : part2 n f i n = part n f (i + 1) := by
  unfold part2 part
  refine List.map_congr_left fun a ha => ?_
  have ha' : a < n := by simpa using ha
  by_cases h : a < i
  · rw [if_pos h, if_pos (by omega)]
  · by_cases e : a = i
    · subst e
      rw [if_neg h, if_pos rfl, if_pos (by omega)]
      exact vec_congr fun b hb => by rw [if_pos hb]
    · rw [if_neg h, if_neg e, if_neg (by omega)]
theorem one_l1 (n : Nat) (hn : n ≤ 1000) (i : Nat) (hi : i < n) (r : List (List Int))
    (hr : Ev (fun k => line_one_int.l0 k (n : Int) (part n onef (i + 1)) (n : Int) ((i + 1 : Nat) : Int)) r) :
    ∀ d j, j + d = n → Ev (fun k => line_one_int.l1 k (n : Int) (part2 n onef i j) (i : Int) (n : Int) (i : Int) (n : Int) (j : Int)) r := by
  intro d
  induction d with
  | zero =>
    intro j hj
    refine Ev.step (f := fun k => line_one_int.l0 k (n : Int) (part n onef (i + 1)) (n : Int) ((i + 1 : Nat) : Int)) (fun k => ?_) hr
    simp only [line_one_int.l1]
    rw [if_neg (by omega), wr1 i (by omega), show j = n by omega, part2_all]
  | succ d ih =>
    intro j hj
    refine Ev.step (f := fun k => line_one_int.l1 k (n : Int) (part2 n onef i (j + 1)) (i : Int) (n : Int) (i : Int) (n : Int) ((j + 1 : Nat) : Int)) (fun k => ?_) (ih (j + 1) (by omega))
    simp only [line_one_int.l1]
    rw [if_pos (by omega), wr1 j (by omega)]
    by_cases e : i = j
    · subst e
      rw [if_pos rfl, part2_skip n onef i i (by unfold onef; rw [if_pos rfl])]
    · rw [if_neg (by omega), if_pos (by omega), part2_length, if_pos (by omega)]
      unfold line_never_int.f
      simp only [Option.bind_some]
      rw [if_pos (by omega), rdL, part2_get n onef i j hi, vec_length, if_pos (by omega), toN, toN]
      have h := part2_set n onef i j hi (by omega)
      rw [part2_get n onef i j hi, show onef i j = -1152921504606846976 by unfold onef; rw [if_neg e]; rfl] at h
      rw [h]
theorem one_l0 (n : Nat) (hn : n ≤ 1000) : ∀ d i, i + d = n → Ev (fun k => line_one_int.l0 k (n : Int) (part n onef i) (n : Int) (i : Int)) (mat n onef) := by
  intro d
  induction d with
  | zero =>
    intro i hi
    refine ev_now (fun k => ?_)
    simp only [line_one_int.l0]
    rw [if_neg (by omega), show i = n by omega, part_all]
  | succ d ih =>
    intro i hi
    refine Ev.step (f := fun k => line_one_int.l1 k (n : Int) (part2 n onef i 0) (i : Int) (n : Int) (i : Int) (n : Int) ((0 : Nat) : Int)) (fun k => ?_) (one_l1 n hn i (by omega) _ (ih (i + 1) (by omega)) n 0 (by omega))
    simp only [line_one_int.l0]
    rw [if_pos (by omega), if_pos (by omega), toN, if_pos (by omega), if_pos (by omega), part_length, if_pos (by omega), toN, part_open n onef i (by omega)]
    rfl
theorem one_f (n : Nat) (hn : n ≤ 1000) : Ev (fun k => line_one_int.f k (n : Int)) (mat n onef) := by
  refine Ev.congr (fun k => ?_) (one_l0 n hn n 0 (by omega))
  unfold line_one_int.f
  rw [if_pos (by omega), toN, if_pos (by omega), part_zero n onef]
  rfl
section
variable {n : Nat} {M N : Int} {A B : List (List Int)}
theorem times_l2 (hn : n ≤ 1000) (hA : IsMat n A) (hB : IsMat n B) (ha : BdM n n M (ent A)) (hb : BdM n n N (ent B)) (hMN : M + N < 1152921504606846976) (hM : 0 ≤ M) (hN : 0 ≤ N) (i j : Nat) (hi : i < n) (hj : j < n) (r : List (List Int))
    (hr : Ev (fun k => lgtimes.l1 k A B (part2 n (mulf n (ent A) (ent B)) i (j + 1)) (i : Int) (n : Int) (i : Int) (n : Int) ((j + 1 : Nat) : Int)) r) :
    ∀ d q, q + d = n → Ev (fun k => lgtimes.l2 k A B (part2 n (mulf n (ent A) (ent B)) i j) (i : Int) (j : Int) (sup (fun k => pl (ent A i k) (ent B k j)) q) (n : Int) (i : Int) (n : Int) (j : Int) (n : Int) (q : Int)) r := by
  intro d
  induction d with
  | zero =>
    intro q hq
    obtain rfl : q = n := by omega
    refine Ev.step (f := fun k => lgtimes.l1 k A B (part2 q (mulf q (ent A) (ent B)) i (j + 1)) (i : Int) (q : Int) (i : Int) (q : Int) ((j + 1 : Nat) : Int)) (fun k => ?_) hr
    simp only [lgtimes.l2]
    rw [if_neg (by omega), if_pos (by omega), part2_length, if_pos (by omega), if_pos (by omega), rdL, part2_get q _ i j hi, vec_length, if_pos (by omega), wr1 j (by omega), toN, toN]
    have h := part2_set q (mulf q (ent A) (ent B)) i j hi hj
    rw [part2_get q _ i j hi] at h
    rw [← h]
    rfl
  | succ d ih =>
    intro q hq
    refine Ev.step (f := fun k => lgtimes.l2 k A B (part2 n (mulf n (ent A) (ent B)) i j) (i : Int) (j : Int) (sup (fun k => pl (ent A i k) (ent B k j)) (q + 1)) (n : Int) (i : Int) (n : Int) (j : Int) (n : Int) ((q + 1 : Nat) : Int)) (fun k => ?_) (ih (q + 1) (by omega))
    simp only [lgtimes.l2]
    rw [if_pos (by omega), if_pos (by omega), hA.1, if_pos (by omega), if_pos (by omega), rdL, hA.2 i hi, if_pos (by omega), hB.1, if_pos (by omega), if_pos (by omega), rdL, hB.2 q (by omega), if_pos (by omega), rdI, rdI]
    have h := both_f (ha i q hi (by omega)) (hb q j (by omega) hj) hMN hM hN
    unfold ent at h
    rw [h]
    simp only [Option.bind_some]
    rw [wr1 q (by omega), mx_max]
    rfl
theorem times_l1 (hn : n ≤ 1000) (hA : IsMat n A) (hB : IsMat n B) (ha : BdM n n M (ent A)) (hb : BdM n n N (ent B)) (hMN : M + N < 1152921504606846976) (hM : 0 ≤ M) (hN : 0 ≤ N) (i : Nat) (hi : i < n) (r : List (List Int))
    (hr : Ev (fun k => lgtimes.l0 k A B (part n (mulf n (ent A) (ent B)) (i + 1)) (n : Int) ((i + 1 : Nat) : Int)) r) :
    ∀ d j, j + d = n → Ev (fun k => lgtimes.l1 k A B (part2 n (mulf n (ent A) (ent B)) i j) (i : Int) (n : Int) (i : Int) (n : Int) (j : Int)) r := by
  intro d
  induction d with
  | zero =>
    intro j hj
    refine Ev.step (f := fun k => lgtimes.l0 k A B (part n (mulf n (ent A) (ent B)) (i + 1)) (n : Int) ((i + 1 : Nat) : Int)) (fun k => ?_) hr
    simp only [lgtimes.l1]
    rw [if_neg (by omega), wr1 i (by omega), show j = n by omega, part2_all]
  | succ d ih =>
    intro j hj
    refine Ev.step (f := fun k => lgtimes.l2 k A B (part2 n (mulf n (ent A) (ent B)) i j) (i : Int) (j : Int) (sup (fun k => pl (ent A i k) (ent B k j)) 0) (n : Int) (i : Int) (n : Int) (j : Int) (n : Int) ((0 : Nat) : Int)) (fun k => ?_) (times_l2 hn hA hB ha hb hMN hM hN i j hi (by omega) r (ih (j + 1) (by omega)) n 0 (by omega))
    simp only [lgtimes.l1]
    rw [if_pos (by omega)]
    unfold line_never_int.f
    simp only [Option.bind_some]
    rw [hA.1]
    rfl
theorem times_l0 (hn : n ≤ 1000) (hA : IsMat n A) (hB : IsMat n B) (ha : BdM n n M (ent A)) (hb : BdM n n N (ent B)) (hMN : M + N < 1152921504606846976) (hM : 0 ≤ M) (hN : 0 ≤ N) :
    ∀ d i, i + d = n → Ev (fun k => lgtimes.l0 k A B (part n (mulf n (ent A) (ent B)) i) (n : Int) (i : Int)) (mat n (mulf n (ent A) (ent B))) := by
  intro d
  induction d with
  | zero =>
    intro i hi
    refine ev_now (fun k => ?_)
    simp only [lgtimes.l0]
    rw [if_neg (by omega), show i = n by omega, part_all]
  | succ d ih =>
    intro i hi
    refine Ev.step (f := fun k => lgtimes.l1 k A B (part2 n (mulf n (ent A) (ent B)) i 0) (i : Int) (n : Int) (i : Int) (n : Int) ((0 : Nat) : Int)) (fun k => ?_) (times_l1 hn hA hB ha hb hMN hM hN i (by omega) _ (ih (i + 1) (by omega)) n 0 (by omega))
    simp only [lgtimes.l0]
    rw [if_pos (by omega), hA.1, if_pos (by omega), toN, if_pos (by omega), if_pos (by omega), part_length, if_pos (by omega), toN, part_open n _ i (by omega)]
    rfl
theorem times_f (hn : n ≤ 1000) (hA : IsMat n A) (hB : IsMat n B) (ha : BdM n n M (ent A)) (hb : BdM n n N (ent B)) (hMN : M + N < 1152921504606846976) (hM : 0 ≤ M) (hN : 0 ≤ N) :
    Ev (fun k => lgtimes.f k A B) (mat n (mulf n (ent A) (ent B))) := by
  refine Ev.congr (fun k => ?_) (times_l0 hn hA hB ha hb hMN hM hN n 0 (by omega))
  unfold lgtimes.f
  rw [hA.1, if_pos (by omega), toN, if_pos (by omega), part_zero n (mulf n (ent A) (ent B))]
  rfl
end
theorem times_mat {n : Nat} (hn : n ≤ 1000) {M N : Int} {a b : Nat → Nat → Int} (ha : BdM n n M a) (hb : BdM n n N b) (hMN : M + N < 1152921504606846976) (hM : 0 ≤ M) (hN : 0 ≤ N) :
    Ev (fun k => lgtimes.f k (mat n a) (mat n b)) (mat n (mulf n a b)) := by
  have e : mat n (mulf n (ent (mat n a)) (ent (mat n b))) = mat n (mulf n a b) :=
    mat_congr fun i j hi hj => mul_congr (fun k hk => ent_mat a hi hk) (fun k hk => ent_mat b hk hj)
  rw [← e]
  exact times_f hn (isMat_mat n a) (isMat_mat n b) (fun i j hi hj => by rw [ent_mat a hi hj]; exact ha i j hi hj) (fun i j hi hj => by rw [ent_mat b hi hj]; exact hb i j hi hj) hMN hM hN
end Go.Proofs.Ythjmfbmffchicaa.Pure
end
section
namespace Go.Proofs.Ythjmfbmffchicaa.Pure
open Go.RowKit Go.Proofs.Ythjmfbmffchicaa.V Go.Proofs.YthjmfbmffchicaaW.PrintWords Go.Proofs.YthjmfbmffchicaaW.PrintLast Go.Proofs.YthjmfbmffchicaaW.PrintMore
open Go.Proofs.Ythjmfbmffchicaa.Mp
section
variable {n : Nat} {M : Int} {a : Nat → Nat → Int}
theorem mat_pow_mul (ha : BdM n n M a) (hM : 0 ≤ M) (j k : Nat) (hs : M * (j + k : Nat) < 1152921504606846976) : mat n (mulf n (powf n a j) (powf n a k)) = mat n (powf n a (j + k)) :=
  mat_congr fun _ _ hx hy => (pow_add ha hM j k hs hx hy).symm
theorem times_pow (hn : n ≤ 1000) (ha : BdM n n M a) (hM : 0 ≤ M) (j k : Nat) (hs : M * (j + k : Nat) < 1152921504606846976) :
    Ev (fun r => lgtimes.f r (mat n (powf n a j)) (mat n (powf n a k))) (mat n (powf n a (j + k))) := by
  rw [← mat_pow_mul ha hM j k hs]
  have e : M * ((j + k : Nat) : Int) = M * (j : Nat) + M * (k : Nat) := by
    rw [show ((j + k : Nat) : Int) = (j : Int) + (k : Int) by omega, Int.mul_add]
  exact times_mat hn (BdM.pow ha j) (BdM.pow ha k) (by omega) (Int.mul_nonneg hM (by omega)) (Int.mul_nonneg hM (by omega))
end
structure Arg (n : Nat) (A : List (List Int)) : Prop where
  is : IsMat n A
  one : 1 ≤ n
  six : n ≤ 6
  bd : BdM n n 1000 (ent A)
theorem pow_one {n : Nat} {A : List (List Int)} (h : Arg n A) : mat n (powf n (ent A) 1) = A := by
  conv => rhs; rw [← mat_ext h.is]
  exact mat_congr fun i j hi hj => one_mul h.bd (by omega) hi hj
def onf (n : Nat) (a : Nat → Nat → Int) (x : Nat → Int) (i : Nat) : Int := sup (fun j => pl (a i j) (x j)) n
def vpart (n : Nat) (f : Nat → Int) (i : Nat) : List Int := vec n (fun a => if a < i then f a else 0)
theorem vpart_length (n : Nat) (f : Nat → Int) (i : Nat) : (vpart n f i).length = n := vec_length _ _
theorem vpart_set (n : Nat) (f : Nat → Int) (i : Nat) : (vpart n f i).set i (f i) = vpart n f (i + 1) := by
  refine range_map_set n _ _ i _ (fun _ => ?_) (fun b _ hb => ?_)
  · rw [if_pos (by omega)]
  · by_cases h : b < i
    · rw [if_pos h, if_pos (by omega)]
    · rw [if_neg h, if_neg (by omega)]
section
variable {n : Nat} {M N : Int} {A : List (List Int)} {x : List Int}
theorem on_l1 (hn : n ≤ 1000) (hA : IsMat n A) (hx : x.length = n) (ha : BdM n n M (ent A)) (hb : ∀ j, j < n → Bd N (x.getD j 0)) (hMN : M + N < 1152921504606846976) (hM : 0 ≤ M) (hN : 0 ≤ N) (i : Nat) (hi : i < n) (r : List Int)
    (hr : Ev (fun k => lgon.l0 k A x (vpart n (onf n (ent A) (fun j => x.getD j 0)) (i + 1)) (n : Int) ((i + 1 : Nat) : Int)) r) :
    ∀ d q, q + d = n → Ev (fun k => lgon.l1 k A x (vpart n (onf n (ent A) (fun j => x.getD j 0)) i) (i : Int) (sup (fun j => pl (ent A i j) (x.getD j 0)) q) (n : Int) (i : Int) (n : Int) (q : Int)) r := by
  intro d
  induction d with
  | zero =>
    intro q hq
    obtain rfl : q = n := by omega
    refine Ev.step (f := fun k => lgon.l0 k A x (vpart q (onf q (ent A) (fun j => x.getD j 0)) (i + 1)) (q : Int) ((i + 1 : Nat) : Int)) (fun k => ?_) hr
    simp only [lgon.l1]
    rw [if_neg (by omega), if_pos (by omega), vpart_length, if_pos (by omega), wr1 i (by omega), toN, ← vpart_set]
    rfl
  | succ d ih =>
    intro q hq
    refine Ev.step (f := fun k => lgon.l1 k A x (vpart n (onf n (ent A) (fun j => x.getD j 0)) i) (i : Int) (sup (fun j => pl (ent A i j) (x.getD j 0)) (q + 1)) (n : Int) (i : Int) (n : Int) ((q + 1 : Nat) : Int)) (fun k => ?_) (ih (q + 1) (by omega))
    simp only [lgon.l1]
    rw [if_pos (by omega), if_pos (by omega), hA.1, if_pos (by omega), if_pos (by omega), rdL, hA.2 i hi, if_pos (by omega), hx, if_pos (by omega), rdI, rdI]
    have h := both_f (ha i q hi (by omega)) (hb q (by omega)) hMN hM hN
    unfold ent at h
    rw [h]
    simp only [Option.bind_some]
    rw [wr1 q (by omega), mx_max]
    rfl
theorem on_l0 (hn : n ≤ 1000) (hA : IsMat n A) (hx : x.length = n) (ha : BdM n n M (ent A)) (hb : ∀ j, j < n → Bd N (x.getD j 0)) (hMN : M + N < 1152921504606846976) (hM : 0 ≤ M) (hN : 0 ≤ N) :
    ∀ d i, i + d = n → Ev (fun k => lgon.l0 k A x (vpart n (onf n (ent A) (fun j => x.getD j 0)) i) (n : Int) (i : Int)) (vec n (onf n (ent A) (fun j => x.getD j 0))) := by
  intro d
  induction d with
  | zero =>
    intro i hi
    refine ev_now (fun k => ?_)
    simp only [lgon.l0]
    rw [if_neg (by omega), show i = n by omega]
    congr 1
    exact vec_congr fun a ha => if_pos ha
  | succ d ih =>
    intro i hi
    refine Ev.step (f := fun k => lgon.l1 k A x (vpart n (onf n (ent A) (fun j => x.getD j 0)) i) (i : Int) (sup (fun j => pl (ent A i j) (x.getD j 0)) 0) (n : Int) (i : Int) (n : Int) ((0 : Nat) : Int)) (fun k => ?_) (on_l1 hn hA hx ha hb hMN hM hN i (by omega) _ (ih (i + 1) (by omega)) n 0 (by omega))
    simp only [lgon.l0]
    rw [if_pos (by omega)]
    unfold line_never_int.f
    simp only [Option.bind_some]
    rw [hA.1]
    rfl
theorem on_f (hn : n ≤ 1000) (hA : IsMat n A) (hx : x.length = n) (ha : BdM n n M (ent A)) (hb : ∀ j, j < n → Bd N (x.getD j 0)) (hMN : M + N < 1152921504606846976) (hM : 0 ≤ M) (hN : 0 ≤ N) :
    Ev (fun k => lgon.f k A x) (vec n (onf n (ent A) (fun j => x.getD j 0))) := by
  refine Ev.congr (fun k => ?_) (on_l0 hn hA hx ha hb hMN hM hN n 0 (by omega))
  unfold lgon.f
  rw [hA.1, if_pos (by omega), toN, if_pos (by omega)]
  congr 1
  unfold vpart vec
  apply List.ext_getElem <;> simp
end
theorem index_ev (L : Nat → List Int → Int → Int → Option Int) (g : Int → Option Bool) (p : Int → Bool) (hg : ∀ x, g x = some (p x))
    (hL : ∀ k x0 x7 x8, L (k + 1) x0 x7 x8 = if x8 < x7 then (if 0 ≤ x8 then (if x8 < (x0.length : Int) then ((g (rd x0 x8)).bind fun t => (if t = true then (some x8) else (L k x0 x7 (wrap64 (x8 + 1))))) else (none)) else (none)) else (some (-1)))
    (l : List Int) (hl : l.length ≤ 9223372036854775807) : ∀ d i, i + d = l.length → ∃ v : Int, Ev (fun k => L k l (l.length : Int) (i : Int)) v ∧ (0 ≤ v ↔ ∃ j, i ≤ j ∧ j < l.length ∧ p (l.getD j 0) = true) := by
  intro d
  induction d with
  | zero =>
    intro i hi
    refine ⟨-1, ev_now (fun k => ?_), ⟨fun h => by omega, fun ⟨j, h1, h2, _⟩ => by omega⟩⟩
    rw [hL, if_neg (by omega)]
  | succ d ih =>
    intro i hi
    by_cases hp : p (l.getD i 0) = true
    · refine ⟨i, ev_now (fun k => ?_), ⟨fun _ => ⟨i, by omega, by omega, hp⟩, fun _ => by omega⟩⟩
      rw [hL, if_pos (by omega), if_pos (by omega), if_pos (by omega), hg, rdI]
      simp only [Option.bind_some]
      rw [if_pos hp]
    · obtain ⟨v, hv, hiff⟩ := ih (i + 1) (by omega)
      refine ⟨v, Ev.step (f := fun k => L k l (l.length : Int) ((i + 1 : Nat) : Int)) (fun k => ?_) hv, ?_⟩
      · rw [hL, if_pos (by omega), if_pos (by omega), if_pos (by omega), hg, rdI]
        simp only [Option.bind_some]
        rw [if_neg hp, wr1 i (by omega)]
      · rw [hiff]
        constructor
        · rintro ⟨j, h1, h2, h3⟩; exact ⟨j, by omega, h2, h3⟩
        · rintro ⟨j, h1, h2, h3⟩
          refine ⟨j, ?_, h2, h3⟩
          have : j ≠ i := fun e => hp (e ▸ h3)
          omega
def oddB (lo hi x : Int) : Bool := decide (x ≠ NEV ∧ (x < lo ∨ x > hi))
theorem odd_iff {lo hi x : Int} : oddB lo hi x = false ↔ (x = NEV ∨ (lo ≤ x ∧ x ≤ hi)) := by
  unfold oddB
  rw [decide_eq_false_iff_not]
  constructor
  · intro h; by_cases e : x = NEV
    · exact .inl e
    · exact .inr (by omega)
  · intro h h'; rcases h with h | h
    · exact h'.1 h
    · omega
theorem of_1_f (x : Int) : line_of_1.f x = some (oddB (-1000) 1000 x) := by
  unfold line_of_1.f oddB NEV
  split
  · simp_all
  · split
    · congr 1; symm; rw [decide_eq_true_iff]; omega
    · congr 1; rw [decide_eq_decide]; omega
def AllIn (lo hi : Int) (l : List Int) : Prop := ∀ j, j < l.length → oddB lo hi (l.getD j 0) = false
theorem contains_of {g : Nat → Option Int} {v : Int} (hv : Ev g v) {lo hi : Int} {l : List Int} (hiff : 0 ≤ v ↔ ∃ j, 0 ≤ j ∧ j < l.length ∧ oddB lo hi (l.getD j 0) = true) :
    (AllIn lo hi l ∧ Ev (fun k => (g k).bind fun t => some (decide (t ≥ 0))) false) ∨ (¬ AllIn lo hi l ∧ Ev (fun k => (g k).bind fun t => some (decide (t ≥ 0))) true) := by
  by_cases h : 0 ≤ v
  · obtain ⟨j, _, h2, h3⟩ := hiff.1 h
    refine .inr ⟨fun hh => (by rw [hh j h2] at h3; cases h3), Ev.bind hv ?_⟩
    exact ev_some (fun _ => by simp; omega)
  · refine .inl ⟨fun j hj => ?_, Ev.bind hv (ev_some (fun _ => by simp; omega))⟩
    cases e : oddB lo hi (l.getD j 0) with
    | false => rfl
    | true => exact absurd (hiff.2 ⟨j, by omega, hj, e⟩) h
theorem contains_of_1 (l : List Int) (hl : l.length ≤ 9223372036854775807) :
    (AllIn (-1000) 1000 l ∧ Ev (fun k => scfof_1.f k l 0) false) ∨ (¬ AllIn (-1000) 1000 l ∧ Ev (fun k => scfof_1.f k l 0) true) := by
  obtain ⟨v, hv, hiff⟩ := index_ev sifof_1.l0 line_of_1.f _ of_1_f (fun _ _ _ _ => rfl) l hl l.length 0 (by omega)
  exact contains_of hv hiff
def Rows (A : List (List Int)) : Prop := ∀ i, i < A.length → (A.getD i []).length ≤ 9223372036854775807
def RowsOk (A : List (List Int)) (i : Nat) : Prop := ∀ j, i ≤ j → j < A.length → (A.getD j []).length = A.length ∧ AllIn (-1000) 1000 (A.getD j [])
theorem of_l0 (A : List (List Int)) (hA : Rows A) (hl : A.length ≤ 6) : ∀ d i, i + d = A.length →
    (RowsOk A i ∧ Ev (fun k => line_of.l0 k A A (A.length : Int) (i : Int)) (A, true)) ∨ (¬ RowsOk A i ∧ Ev (fun k => line_of.l0 k A A (A.length : Int) (i : Int)) ([], false)) := by
  intro d
  induction d with
  | zero =>
    intro i hi
    refine .inl ⟨fun j h1 h2 => by omega, ev_now (fun k => ?_)⟩
    simp only [line_of.l0]
    rw [if_neg (by omega)]
  | succ d ih =>
    intro i hi
    by_cases hr : (A.getD i []).length = A.length
    · rcases contains_of_1 (A.getD i []) (hA i (by omega)) with ⟨ha, he⟩ | ⟨ha, he⟩
      · have step : ∀ k, line_of.l0 (k + 1) A A (A.length : Int) (i : Int) = (scfof_1.f k (A.getD i []) 0).bind fun t => if t = true then some ([], false) else line_of.l0 k A A (A.length : Int) ((i + 1 : Nat) : Int) := by
          intro k
          simp only [line_of.l0]
          rw [if_pos (by omega), if_pos (by omega), if_pos (by omega), rdL, if_pos (by omega), wr1 i (by omega)]
        rcases ih (i + 1) (by omega) with ⟨h1, h2⟩ | ⟨h1, h2⟩
        · refine .inl ⟨fun j hj hj2 => ?_, Ev.step step (Ev.bind he (Ev.congr (fun k => if_neg (by decide)) h2))⟩
          by_cases e : j = i
          · subst e; exact ⟨hr, ha⟩
          · exact h1 j (by omega) hj2
        · exact .inr ⟨fun hh => h1 fun j hj hj2 => hh j (by omega) hj2, Ev.step step (Ev.bind he (Ev.congr (fun k => if_neg (by decide)) h2))⟩
      · refine .inr ⟨fun hh => ha (hh i (by omega) (by omega)).2, Ev.step (f := fun k => (scfof_1.f k (A.getD i []) 0).bind fun t => if t = true then some ([], false) else line_of.l0 k A A (A.length : Int) ((i + 1 : Nat) : Int)) (fun k => ?_) (Ev.bind he (ev_some fun k => if_pos rfl))⟩
        simp only [line_of.l0]
        rw [if_pos (by omega), if_pos (by omega), if_pos (by omega), rdL, if_pos (by omega), wr1 i (by omega)]
    · refine .inr ⟨fun hh => hr (hh i (by omega) (by omega)).1, ev_now (fun k => ?_)⟩
      simp only [line_of.l0]
      rw [if_pos (by omega), if_pos (by omega), if_pos (by omega), rdL, if_neg (by omega)]
theorem arg_iff (A : List (List Int)) : (∃ n, Arg n A) ↔ 1 ≤ A.length ∧ A.length ≤ 6 ∧ RowsOk A 0 := by
  constructor
  · rintro ⟨n, h⟩
    have e := h.is.1
    have h1 := h.one
    have h6 := h.six
    refine ⟨by omega, by omega, fun j _ hj => ⟨by rw [h.is.2 j (by omega), e], fun q hq => ?_⟩⟩
    rw [h.is.2 j (by omega)] at hq
    exact odd_iff.2 (h.bd j q (by omega) hq)
  · rintro ⟨h1, h6, hr⟩
    refine ⟨A.length, ⟨rfl, fun i hi => (hr i (by omega) hi).1⟩, h1, h6, fun i j hi hj => ?_⟩
    exact odd_iff.1 ((hr i (by omega) hi).2 j (by rw [(hr i (by omega) hi).1]; exact hj))
theorem of_f (A : List (List Int)) (hA : Rows A) : ((∃ n, Arg n A) ∧ Ev (fun k => line_of.f k A) (A, true)) ∨ ((¬ ∃ n, Arg n A) ∧ Ev (fun k => line_of.f k A) ([], false)) := by
  rw [arg_iff]
  have no : ∀ k, line_of.j0 (k + 1) A true = some ([], false) := fun k => by simp only [line_of.j0]; rw [if_pos (by decide)]
  by_cases h1 : 1 ≤ A.length
  · by_cases h6 : A.length ≤ 6
    · have step : ∀ k, line_of.f (k + 1) A = line_of.l0 k A A (A.length : Int) ((0 : Nat) : Int) := fun k => by
        unfold line_of.f
        rw [if_neg (by omega), show decide ((A.length : Int) > 6) = false by rw [decide_eq_false_iff_not]; omega]
        simp only [line_of.j0]
        rw [if_neg (by decide)]
        rfl
      rcases of_l0 A hA h6 A.length 0 (by omega) with ⟨h, he⟩ | ⟨h, he⟩
      · exact .inl ⟨⟨h1, h6, h⟩, Ev.step step he⟩
      · exact .inr ⟨fun hh => h hh.2.2, Ev.step step he⟩
    · refine .inr ⟨fun hh => h6 hh.2.1, ev_now (fun k => ?_)⟩
      unfold line_of.f
      rw [if_neg (by omega), show decide ((A.length : Int) > 6) = true by rw [decide_eq_true_iff]; omega]
      exact no k
  · refine .inr ⟨fun hh => h1 hh.1, ev_now (fun k => ?_)⟩
    unfold line_of.f
    rw [if_pos (by omega)]
    exact no k
end Go.Proofs.Ythjmfbmffchicaa.Pure
end
section
namespace Go.Proofs.Ythjmfbmffchicaa.Pure
open Go.RowKit Go.Proofs.Ythjmfbmffchicaa.V Go.Proofs.YthjmfbmffchicaaW.PrintWords Go.Proofs.YthjmfbmffchicaaW.PrintLast Go.Proofs.YthjmfbmffchicaaW.PrintMore
open Go.Proofs.Ythjmfbmffchicaa.Mp
theorem few_l0 (A : List (List Int)) : ∀ d i : Nat, i + d = 20 → ∃ b, Ev (fun k => l5few.l0 k A (i : Int)) b ∧ (b = true → A.length ≤ 20 ∧ ∀ j, i ≤ j → j < A.length → (A.getD j []).length ≤ 20) := by
  intro d
  induction d with
  | zero =>
    intro i hi
    by_cases h : i < A.length
    · refine ⟨false, ev_now (fun k => ?_), fun h => by cases h⟩
      simp only [l5few.l0]
      rw [if_pos (by omega), if_pos (by omega)]
    · refine ⟨true, ev_now (fun k => ?_), fun _ => ⟨by omega, fun j h1 h2 => by omega⟩⟩
      simp only [l5few.l0]
      rw [if_neg (by omega)]
  | succ d ih =>
    intro i hi
    by_cases h : i < A.length
    · by_cases hr : (A.getD i []).length ≤ 20
      · obtain ⟨b, hb, hbt⟩ := ih (i + 1) (by omega)
        refine ⟨b, Ev.step (f := fun k => l5few.l0 k A ((i + 1 : Nat) : Int)) (fun k => ?_) hb, fun e => ⟨(hbt e).1, fun j h1 h2 => ?_⟩⟩
        · simp only [l5few.l0]
          rw [if_pos (by omega), if_neg (by omega), if_pos (by omega), rdL, if_neg (by omega), wr1 i (by omega)]
        · by_cases e2 : j = i
          · subst e2; exact hr
          · exact (hbt e).2 j (by omega) h2
      · refine ⟨false, ev_now (fun k => ?_), fun h => by cases h⟩
        simp only [l5few.l0]
        rw [if_pos (by omega), if_neg (by omega), if_pos (by omega), rdL, if_pos (by omega)]
    · refine ⟨true, ev_now (fun k => ?_), fun _ => ⟨by omega, fun j h1 h2 => by omega⟩⟩
      simp only [l5few.l0]
      rw [if_neg (by omega)]
theorem few_f (A : List (List Int)) : ∃ b, Ev (fun k => l5few.f k A) b ∧ (b = true → A.length ≤ 20 ∧ ∀ j, j < A.length → (A.getD j []).length ≤ 20) := by
  obtain ⟨b, hb, h⟩ := few_l0 A 20 0 (by omega)
  exact ⟨b, hb, fun e => ⟨(h e).1, fun j hj => (h e).2 j (by omega) hj⟩⟩
theorem same_l0 (x : List Int) (hx : x.length ≤ 9223372036854775807) : ∀ d i, i + d = x.length → Ev (fun k => l5same.l0 k x x (i : Int)) true := by
  intro d
  induction d with
  | zero =>
    intro i hi
    refine ev_now (fun k => ?_)
    simp only [l5same.l0]
    rw [if_neg (by omega)]
  | succ d ih =>
    intro i hi
    refine Ev.step (f := fun k => l5same.l0 k x x ((i + 1 : Nat) : Int)) (fun k => ?_) (ih (i + 1) (by omega))
    simp only [l5same.l0]
    rw [if_pos (by omega), if_pos (by omega), if_pos (by omega), if_pos trivial, wr1 i (by omega)]
theorem same_f (x : List Int) (hx : x.length ≤ 9223372036854775807) : Ev (fun k => l5same.f k x x) true := by
  unfold l5same.f
  exact Ev.congr (fun k => if_pos rfl) (same_l0 x hx x.length 0 (by omega))
theorem rows_l0 (A : List (List Int)) (hA : A.length ≤ 9223372036854775807) (hr : Rows A) : ∀ d i, i + d = A.length → Ev (fun k => l5rows.l0 k A A (i : Int)) true := by
  intro d
  induction d with
  | zero =>
    intro i hi
    refine ev_now (fun k => ?_)
    simp only [l5rows.l0]
    rw [if_neg (by omega)]
  | succ d ih =>
    intro i hi
    refine Ev.step (f := fun k => (l5same.f k (A.getD i []) (A.getD i [])).bind fun t => if t = true then l5rows.l0 k A A ((i + 1 : Nat) : Int) else some false) (fun k => ?_) (Ev.bind (same_f (A.getD i []) (hr i (by omega))) (Ev.congr (fun k => if_pos rfl) (ih (i + 1) (by omega))))
    simp only [l5rows.l0]
    rw [if_pos (by omega), if_pos (by omega), if_pos (by omega), rdL, wr1 i (by omega)]
theorem rows_f (A : List (List Int)) (hA : A.length ≤ 9223372036854775807) (hr : Rows A) : Ev (fun k => l5rows.f k A A) true := by
  unfold l5rows.f
  exact Ev.congr (fun k => if_pos rfl) (rows_l0 A hA hr A.length 0 (by omega))
theorem rows_mat (n : Nat) (hn : n ≤ 1000) (f : Nat → Nat → Int) : Rows (mat n f) := fun i hi => by
  rw [mat_length] at hi
  rw [mat_get f hi, vec_length]; omega
section
variable {n : Nat} {A : List (List Int)}
end
theorem plus_f {M N a b : Int} (ha : Bd M a) (hb : Bd N b) (h : M + N < 1152921504606846976) (hM : 0 ≤ M) (hN : 0 ≤ N) : l5plus.f a b = some (pl a b) := by
  unfold l5plus.f pl NEV
  split
  · rfl
  · split
    · rfl
    · unfold Bd NEV at ha hb
      rw [wr (by omega) (by omega)]
section
variable {n : Nat} {M N : Int} {A B : List (List Int)}
theorem vec_succ (f : Nat → Int) (j : Nat) : vec j f ++ [f j] = vec (j + 1) f := by simp [vec, List.range_succ]
theorem rowsof_succ (n : Nat) (f : Nat → Nat → Int) (i : Nat) : ((List.range i).map fun a => vec n (f a)) ++ [vec n (f i)] = (List.range (i + 1)).map fun a => vec n (f a) := by simp [List.range_succ]
theorem product_l2 (hn : n ≤ 1000) (hA : IsMat n A) (hB : IsMat n B) (ha : BdM n n M (ent A)) (hb : BdM n n N (ent B)) (hMN : M + N < 1152921504606846976) (hM : 0 ≤ M) (hN : 0 ≤ N) (i j : Nat) (hi : i < n) (hj : j < n) (out : List (List Int)) (r : List (List Int))
    (hr : Ev (fun k => l5product.l1 k A B out (i : Int) (vec (j + 1) (mulf n (ent A) (ent B) i)) ((j + 1 : Nat) : Int)) r) :
    ∀ d q, q + d = n → Ev (fun k => l5product.l2 k A B out (i : Int) (vec j (mulf n (ent A) (ent B) i)) (j : Int) (sup (fun k => pl (ent A i k) (ent B k j)) q) (q : Int)) r := by
  intro d
  induction d with
  | zero =>
    intro q hq
    obtain rfl : q = n := by omega
    refine Ev.step (f := fun k => l5product.l1 k A B out (i : Int) (vec (j + 1) (mulf q (ent A) (ent B) i)) ((j + 1 : Nat) : Int)) (fun k => ?_) hr
    simp only [l5product.l2]
    rw [hA.1, if_neg (by omega), vec_length, if_pos (by omega), wr1 j (by omega), ← vec_succ]
    rfl
  | succ d ih =>
    intro q hq
    refine Ev.step (f := fun k => l5product.l2 k A B out (i : Int) (vec j (mulf n (ent A) (ent B) i)) (j : Int) (sup (fun k => pl (ent A i k) (ent B k j)) (q + 1)) ((q + 1 : Nat) : Int)) (fun k => ?_) (ih (q + 1) (by omega))
    simp only [l5product.l2]
    rw [hA.1, if_pos (by omega), if_pos (by omega), if_pos (by omega), if_pos (by omega), rdL, hA.2 i hi, if_pos (by omega), hB.1, if_pos (by omega), if_pos (by omega), rdL, hB.2 q (by omega), if_pos (by omega), rdI, rdI]
    have h := plus_f (ha i q hi (by omega)) (hb q j (by omega) hj) hMN hM hN
    unfold ent at h
    rw [h]
    simp only [Option.bind_some]
    rw [wr1 q (by omega), mx_max]
    rfl
theorem product_l1 (hn : n ≤ 1000) (hA : IsMat n A) (hB : IsMat n B) (ha : BdM n n M (ent A)) (hb : BdM n n N (ent B)) (hMN : M + N < 1152921504606846976) (hM : 0 ≤ M) (hN : 0 ≤ N) (i : Nat) (hi : i < n) (r : List (List Int))
    (hr : Ev (fun k => l5product.l0 k A B ((List.range (i + 1)).map fun a => vec n (mulf n (ent A) (ent B) a)) ((i + 1 : Nat) : Int)) r) :
    ∀ d j, j + d = n → Ev (fun k => l5product.l1 k A B ((List.range i).map fun a => vec n (mulf n (ent A) (ent B) a)) (i : Int) (vec j (mulf n (ent A) (ent B) i)) (j : Int)) r := by
  intro d
  induction d with
  | zero =>
    intro j hj
    obtain rfl : j = n := by omega
    refine Ev.step (f := fun k => l5product.l0 k A B ((List.range (i + 1)).map fun a => vec j (mulf j (ent A) (ent B) a)) ((i + 1 : Nat) : Int)) (fun k => ?_) hr
    simp only [l5product.l1]
    rw [hA.1, if_neg (by omega), List.length_map, List.length_range, if_pos (by omega), wr1 i (by omega), rowsof_succ]
  | succ d ih =>
    intro j hj
    refine Ev.step (f := fun k => l5product.l2 k A B ((List.range i).map fun a => vec n (mulf n (ent A) (ent B) a)) (i : Int) (vec j (mulf n (ent A) (ent B) i)) (j : Int) (sup (fun k => pl (ent A i k) (ent B k j)) 0) ((0 : Nat) : Int)) (fun k => ?_) (product_l2 hn hA hB ha hb hMN hM hN i j hi (by omega) _ r (ih (j + 1) (by omega)) n 0 (by omega))
    simp only [l5product.l1]
    rw [hA.1, if_pos (by omega)]
    rfl
theorem product_l0 (hn : n ≤ 1000) (hA : IsMat n A) (hB : IsMat n B) (ha : BdM n n M (ent A)) (hb : BdM n n N (ent B)) (hMN : M + N < 1152921504606846976) (hM : 0 ≤ M) (hN : 0 ≤ N) :
    ∀ d i, i + d = n → Ev (fun k => l5product.l0 k A B ((List.range i).map fun a => vec n (mulf n (ent A) (ent B) a)) (i : Int)) (mat n (mulf n (ent A) (ent B))) := by
  intro d
  induction d with
  | zero =>
    intro i hi
    obtain rfl : i = n := by omega
    refine ev_now (fun k => ?_)
    simp only [l5product.l0]
    rw [hA.1, if_neg (by omega)]
    rfl
  | succ d ih =>
    intro i hi
    refine Ev.step (f := fun k => l5product.l1 k A B ((List.range i).map fun a => vec n (mulf n (ent A) (ent B) a)) (i : Int) (vec 0 (mulf n (ent A) (ent B) i)) ((0 : Nat) : Int)) (fun k => ?_) (product_l1 hn hA hB ha hb hMN hM hN i (by omega) _ (ih (i + 1) (by omega)) n 0 (by omega))
    simp only [l5product.l0]
    rw [hA.1, if_pos (by omega)]
    rfl
theorem product_f (hn : n ≤ 1000) (hA : IsMat n A) (hB : IsMat n B) (ha : BdM n n M (ent A)) (hb : BdM n n N (ent B)) (hMN : M + N < 1152921504606846976) (hM : 0 ≤ M) (hN : 0 ≤ N) :
    Ev (fun k => l5product.f k A B) (mat n (mulf n (ent A) (ent B))) := product_l0 hn hA hB ha hb hMN hM hN n 0 (by omega)
end
theorem product_mat {n : Nat} (hn : n ≤ 1000) {M N : Int} {a b : Nat → Nat → Int} (ha : BdM n n M a) (hb : BdM n n N b) (hMN : M + N < 1152921504606846976) (hM : 0 ≤ M) (hN : 0 ≤ N) :
    Ev (fun k => l5product.f k (mat n a) (mat n b)) (mat n (mulf n a b)) := by
  have e : mat n (mulf n (ent (mat n a)) (ent (mat n b))) = mat n (mulf n a b) :=
    mat_congr fun i j hi hj => mul_congr (fun k hk => ent_mat a hi hk) (fun k hk => ent_mat b hk hj)
  rw [← e]
  exact product_f hn (isMat_mat n a) (isMat_mat n b) (fun i j hi hj => by rw [ent_mat a hi hj]; exact ha i j hi hj) (fun i j hi hj => by rw [ent_mat b hi hj]; exact hb i j hi hj) hMN hM hN
end Go.Proofs.Ythjmfbmffchicaa.Pure
end
section
namespace Go.Proofs.Ythjmfbmffchicaa.Pure
open Go.RowKit Go.Proofs.Ythjmfbmffchicaa.V Go.Proofs.YthjmfbmffchicaaW.PrintWords Go.Proofs.YthjmfbmffchicaaW.PrintLast Go.Proofs.YthjmfbmffchicaaW.PrintMore
open Go.Proofs.Ythjmfbmffchicaa.Mp
def crit (s d : Nat → Nat → Int) (i j : Nat) : Bool := pl (s i j) (d j i) == 0
def critV (n : Nat) (s d : Nat → Nat → Int) (i : Nat) : Bool := (List.range n).any (crit s d i)
def critL (n : Nat) (s d : Nat → Nat → Int) (i : Nat) : List Int := ((List.range i).filter (critV n s d)).map Int.ofNat
section
variable {n : Nat} {s d : Nat → Nat → Int} {M N : Int}
end
end Go.Proofs.Ythjmfbmffchicaa.Pure
end
section
namespace Go.Proofs.Ythjmfbmffchicaa.Mp
structure Wk (n : Nat) (a : Nat → Nat → Int) (v : Nat → Nat) (L : Nat) : Prop where
  lt : ∀ t, t ≤ L → v t < n
  arc : ∀ t, t < L → a (v (t + 1)) (v t) ≠ NEV
def wt (a : Nat → Nat → Int) (v : Nat → Nat) : Nat → Int
  | 0 => 0
  | L + 1 => wt a v L + a (v (L + 1)) (v L)
theorem wt_congr {a : Nat → Nat → Int} {u v : Nat → Nat} {L : Nat} (h : ∀ t, t ≤ L → u t = v t) : wt a u L = wt a v L := by
  induction L with
  | zero => rfl
  | succ L ih => simp only [wt]; rw [ih (fun t ht => h t (by omega)), h (L + 1) (by omega), h L (by omega)]
theorem wt_add (a : Nat → Nat → Int) (v : Nat → Nat) (p r : Nat) : wt a v (p + r) = wt a v p + wt a (fun t => v (t + p)) r := by
  induction r with
  | zero => simp [wt]
  | succ r ih =>
    show wt a v (p + r) + a (v (p + r + 1)) (v (p + r)) = wt a v p + (wt a (fun t => v (t + p)) r + a (v (r + 1 + p)) (v (r + p)))
    rw [ih, show p + r + 1 = r + 1 + p by omega, show p + r = r + p by omega]; omega
theorem Wk.shift {n : Nat} {a : Nat → Nat → Int} {v : Nat → Nat} {p r : Nat} (h : Wk n a v (p + r)) : Wk n a (fun t => v (t + p)) r :=
  ⟨fun t ht => h.lt (t + p) (by omega), fun t ht => by have := h.arc (t + p) (by omega); rw [show t + 1 + p = t + p + 1 by omega]; exact this⟩
theorem Wk.left {n : Nat} {a : Nat → Nat → Int} {v : Nat → Nat} {p L : Nat} (h : Wk n a v L) (hp : p ≤ L) : Wk n a v p :=
  ⟨fun t ht => h.lt t (by omega), fun t ht => h.arc t (by omega)⟩
theorem wt_bd {n : Nat} {M : Int} {a : Nat → Nat → Int} {v : Nat → Nat} (ha : BdM n n M a) {L : Nat} (h : Wk n a v L) : -(M * (L : Nat)) ≤ wt a v L ∧ wt a v L ≤ M * (L : Nat) := by
  induction L with
  | zero => simp [wt]
  | succ L ih =>
    have h1 := ih (h.left (by omega))
    have h2 := (ha _ _ (h.lt (L + 1) (by omega)) (h.lt L (by omega))).resolve_left (h.arc L (by omega))
    simp only [wt]
    rw [Int.natCast_succ, Int.mul_add]
    omega
theorem pow_ge {n : Nat} {M : Int} {a : Nat → Nat → Int} (ha : BdM n n M a) (hM : 0 ≤ M) : ∀ (L : Nat) (v : Nat → Nat), M * (L : Nat) < 1152921504606846976 → Wk n a v L → wt a v L ≤ powf n a L (v L) (v 0)
  | 0, v, _, h => by simp [wt, powf, onef]
  | L + 1, v, hs, h => by
    have hs' : M * (L : Nat) + M < 1152921504606846976 := by rw [Int.natCast_succ, Int.mul_add] at hs; omega
    have hu : Wk n a (fun t => v (t + 1)) L := Wk.shift (p := 1) (r := L) (by rw [Nat.add_comm]; exact h)
    have e : wt a v (L + 1) = a (v 1) (v 0) + wt a (fun t => v (t + 1)) L := by
      rw [Nat.add_comm L 1, wt_add]; simp [wt]
    have ih := pow_ge ha hM L _ (by omega) hu
    have hb := BdM.pow ha L (v (L + 1)) (v 1) (h.lt _ (by omega)) (h.lt _ (by omega))
    have hw := wt_bd ha hu
    have h0 := (ha (v 1) (v 0) (h.lt 1 (by omega)) (h.lt 0 (by omega))).resolve_left (h.arc 0 (by omega))
    have harc := h.arc 0 (by omega)
    have hL : 0 ≤ M * (L : Nat) := Int.mul_nonneg hM (by omega)
    have hle := le_sup (h := fun k => pl (powf n a L (v (L + 1)) k) (a k (v 0))) (h.lt 1 (by omega))
    have hn : powf n a L (v (L + 1)) (v 1) ≠ NEV := by
      intro e2
      have : wt a (fun t => v (t + 1)) L ≤ NEV := by rw [← e2]; exact ih
      unfold NEV at this
      omega
    show wt a v (L + 1) ≤ sup (fun k => pl (powf n a L (v (L + 1)) k) (a k (v 0))) n
    refine Int.le_trans ?_ hle
    show wt a v (L + 1) ≤ pl (powf n a L (v (L + 1)) (v 1)) (a (v 1) (v 0))
    unfold pl
    rw [if_neg hn, if_neg harc, e]
    have ih' : wt a (fun t => v (t + 1)) L ≤ powf n a L (v (L + 1)) (v 1) := ih
    omega
theorem pow_att {n : Nat} {a : Nat → Nat → Int} : ∀ (L : Nat) (i j : Nat), i < n → j < n → powf n a L i j ≠ NEV → ∃ v, Wk n a v L ∧ v 0 = j ∧ v L = i ∧ wt a v L = powf n a L i j
  | 0, i, j, hi, hj, h => by
    have e : i = j := by
      by_cases e : i = j
      · exact e
      · exact absurd (by simp [powf, onef, e]) h
    subst e
    exact ⟨fun _ => i, ⟨fun _ _ => hi, fun t ht => by omega⟩, rfl, rfl, by simp [wt, powf, onef]⟩
  | L + 1, i, j, hi, hj, h => by
    rcases sup_mem (fun k => pl (powf n a L i k) (a k j)) n with e | ⟨k, hk, e⟩
    · exact absurd e h
    · have hp : powf n a (L + 1) i j = pl (powf n a L i k) (a k j) := e
      have h1 : powf n a L i k ≠ NEV := fun e1 => h (by rw [hp, e1, pl_nev_left])
      have h2 : a k j ≠ NEV := fun e1 => h (by rw [hp, e1, pl_nev_right])
      obtain ⟨u, hu, u0, uL, uw⟩ := pow_att L i k hi hk h1
      refine ⟨fun t => if t = 0 then j else u (t - 1), ⟨fun t ht => ?_, fun t ht => ?_⟩, by simp, by simp [uL], ?_⟩
      · by_cases e0 : t = 0
        · simp [e0, hj]
        · simp only [e0, if_false]; exact hu.lt (t - 1) (by omega)
      · by_cases e0 : t = 0
        · subst e0; simp [u0, h2]
        · have := hu.arc (t - 1) (by omega)
          simp only [e0, if_false]
          rw [if_neg (by omega), show t + 1 - 1 = t - 1 + 1 by omega]; exact this
      · rw [Nat.add_comm L 1, wt_add, Nat.add_comm 1 L, hp]
        have e1 : wt a (fun t => (fun t => if t = 0 then j else u (t - 1)) (t + 1)) L = wt a u L := wt_congr fun t _ => by simp
        rw [e1, uw]
        unfold pl
        rw [if_neg h1, if_neg h2]
        simp [wt, u0]; omega
theorem php : ∀ (n : Nat) (f : Nat → Nat), (∀ t, t ≤ n → f t < n) → ∃ p q, p < q ∧ q ≤ n ∧ f p = f q
  | 0, f, h => absurd (h 0 (by omega)) (by omega)
  | n + 1, f, h => by
    by_cases he : ∃ t, t ≤ n ∧ f t = f (n + 1)
    · obtain ⟨t, ht, e⟩ := he
      exact ⟨t, n + 1, by omega, by omega, e⟩
    · have hne : ∀ t, t ≤ n → f t ≠ f (n + 1) := fun t ht e => he ⟨t, ht, e⟩
      obtain ⟨p, q, hpq, hq, e⟩ := php n (fun t => if f t = n then f (n + 1) else f t) (fun t ht => by
        have h1 := h t (by omega); have h2 := h (n + 1) (by omega); have h3 := hne t ht
        show (if f t = n then f (n + 1) else f t) < n
        split <;> omega)
      refine ⟨p, q, hpq, by omega, ?_⟩
      have h3 := hne p (by omega); have h4 := hne q hq
      replace e : (if f p = n then f (n + 1) else f p) = (if f q = n then f (n + 1) else f q) := e
      by_cases e1 : f p = n
      · by_cases e2 : f q = n
        · omega
        · rw [if_pos e1, if_neg e2] at e; exact absurd e.symm h4
      · by_cases e2 : f q = n
        · rw [if_neg e1, if_pos e2] at e; exact absurd e h3
        · rw [if_neg e1, if_neg e2] at e; exact e
def cutw (v : Nat → Nat) (p d : Nat) (t : Nat) : Nat := if t ≤ p then v t else v (t + d)
theorem cutw_wk {n : Nat} {a : Nat → Nat → Int} {v : Nat → Nat} {p d r : Nat} (h : Wk n a v (p + d + r)) (e : v p = v (p + d)) : Wk n a (cutw v p d) (p + r) := by
  refine ⟨fun t ht => ?_, fun t ht => ?_⟩
  · unfold cutw; split
    · exact h.lt t (by omega)
    · exact h.lt (t + d) (by omega)
  · unfold cutw
    by_cases h1 : t + 1 ≤ p
    · rw [if_pos h1, if_pos (by omega)]; exact h.arc t (by omega)
    · rw [if_neg h1]
      by_cases h2 : t ≤ p
      · obtain rfl : t = p := by omega
        rw [if_pos h2, e, show t + 1 + d = t + d + 1 by omega]; exact h.arc (t + d) (by omega)
      · rw [if_neg h2, show t + 1 + d = t + d + 1 by omega]; exact h.arc (t + d) (by omega)
theorem cutw_wt {a : Nat → Nat → Int} {v : Nat → Nat} {p d r : Nat} (e : v p = v (p + d)) : wt a v (p + d + r) = wt a (cutw v p d) (p + r) + wt a (fun t => v (t + p)) d := by
  have e1 : wt a (cutw v p d) p = wt a v p := wt_congr fun t ht => if_pos ht
  have e2 : wt a (fun t => cutw v p d (t + p)) r = wt a (fun t => v (t + (p + d))) r := wt_congr fun t _ => by
    unfold cutw
    by_cases h : t = 0
    · subst h; rw [if_pos (by omega), Nat.zero_add, Nat.zero_add]; exact e
    · rw [if_neg (by omega), Nat.add_assoc]
  rw [wt_add a v (p + d) r, wt_add a v p d, wt_add a (cutw v p d) p r, e1, e2]; omega
theorem cutw_zero (v : Nat → Nat) (p d : Nat) : cutw v p d 0 = v 0 := if_pos (by omega)
theorem cutw_end {v : Nat → Nat} {p d r : Nat} (e : v p = v (p + d)) : cutw v p d (p + r) = v (p + d + r) := by
  unfold cutw
  by_cases h : r = 0
  · subst h; rw [if_pos (by omega)]; simpa using e
  · rw [if_neg (by omega)]; congr 1; omega
def NoPos (n : Nat) (a : Nat → Nat → Int) : Prop := ∀ k i, 1 ≤ k → k ≤ n → i < n → powf n a k i i ≤ 0
theorem closed_le {n : Nat} {M : Int} {a : Nat → Nat → Int} (ha : BdM n n M a) (hM : 0 ≤ M) (hs : M * (n : Nat) < 1152921504606846976) (hp : NoPos n a) : ∀ (L : Nat) (v : Nat → Nat), Wk n a v L → v 0 = v L → wt a v L ≤ 0 := by
  intro L
  induction L using Nat.strongRecOn with
  | ind L ih =>
    intro v h e
    by_cases h0 : L = 0
    · subst h0; simp [wt]
    · by_cases hn : L ≤ n
      · have h1 := pow_ge ha hM L v (Int.lt_of_le_of_lt (Int.mul_le_mul_of_nonneg_left (by omega) hM) hs) h
        rw [e] at h1
        exact Int.le_trans h1 (hp L (v L) (by omega) hn (h.lt L (by omega)))
      · obtain ⟨p, q, hpq, hq, epq⟩ := php n v (fun t ht => h.lt t (by omega))
        obtain ⟨d, rfl⟩ : ∃ d, q = p + d := ⟨q - p, by omega⟩
        obtain ⟨r, rfl⟩ : ∃ r, L = p + d + r := ⟨L - (p + d), by omega⟩
        have h1 := ih (p + r) (by omega) (cutw v p d) (cutw_wk h epq) (by rw [cutw_zero, cutw_end epq]; exact e)
        have hm : Wk n a (fun t => v (t + p)) d := Wk.shift (h.left (by omega))
        have h2 := ih d (by omega) (fun t => v (t + p)) hm (by show v (0 + p) = v (d + p); rw [Nat.zero_add, Nat.add_comm d p]; exact epq)
        rw [cutw_wt epq]
        omega
theorem pl_mono {M M' N N' x x' y y' : Int} (hx : Bd M x) (hx' : Bd M' x') (hy : Bd N y) (hy' : Bd N' y') (hs : M + M' + N + N' < 1152921504606846976 ∧ 0 ≤ M ∧ 0 ≤ M' ∧ 0 ≤ N ∧ 0 ≤ N') (h1 : x ≤ x') (h2 : y ≤ y') : pl x y ≤ pl x' y' := by
  have hg := (hx'.pl hy').ge (by omega)
  revert hg
  unfold Bd at *
  unfold pl
  by_cases e1 : x = NEV
  · rw [if_pos e1]; exact fun h => h
  · by_cases e2 : y = NEV
    · rw [if_neg e1, if_pos e2]; exact fun h => h
    · unfold NEV at *
      rw [if_neg e1, if_neg e2, if_neg (by omega), if_neg (by omega)]
      omega
def fw0 (a : Nat → Nat → Int) (i j : Nat) : Int := max (onef i j) (a i j)
def fwk (a : Nat → Nat → Int) : Nat → Nat → Nat → Int
  | 0 => fw0 a
  | k + 1 => fun i j => max (fwk a k i j) (pl (fwk a k i k) (fwk a k k j))
def Att (n : Nat) (a : Nat → Nat → Int) (i j : Nat) (x : Int) : Prop := x = NEV ∨ ∃ L v, Wk n a v L ∧ v 0 = j ∧ v L = i ∧ wt a v L = x
theorem Att.pl {n : Nat} {a : Nat → Nat → Int} {i k j : Nat} {x y : Int} (hx : Att n a i k x) (hy : Att n a k j y) : Att n a i j (pl x y) := by
  rcases hx with rfl | ⟨L, v, hv, v0, vL, vw⟩
  · exact .inl (pl_nev_left _)
  rcases hy with rfl | ⟨K, u, hu, u0, uK, uw⟩
  · exact .inl (pl_nev_right _)
  by_cases hx : x = NEV
  · exact .inl (by rw [hx, pl_nev_left])
  by_cases hy : y = NEV
  · exact .inl (by rw [hy, pl_nev_right])
  refine .inr ⟨K + L, fun t => if t ≤ K then u t else v (t - K), ⟨fun t ht => ?_, fun t ht => ?_⟩, by simp [u0], ?_, ?_⟩
  · by_cases h : t ≤ K
    · simp only [h, if_true]; exact hu.lt t h
    · simp only [h, if_false]; exact hv.lt (t - K) (by omega)
  · by_cases h : t + 1 ≤ K
    · simp only [h, if_true]; rw [if_pos (by omega)]; exact hu.arc t (by omega)
    · simp only [h, if_false]
      by_cases h2 : t ≤ K
      · obtain rfl : t = K := by omega
        rw [if_pos h2, uK, ← v0, show t + 1 - t = 0 + 1 by omega]; exact hv.arc 0 (by omega)
      · rw [if_neg h2, show t + 1 - K = t - K + 1 by omega]; exact hv.arc (t - K) (by omega)
  · by_cases h : L = 0
    · subst h; simp [uK, ← v0, vL]
    · simp only [show ¬ K + L ≤ K by omega, if_false]; rw [show K + L - K = L by omega]; exact vL
  · rw [wt_add]
    have e1 : wt a (fun t => if t ≤ K then u t else v (t - K)) K = wt a u K := wt_congr fun t ht => if_pos ht
    have e2 : wt a (fun t => (fun t => if t ≤ K then u t else v (t - K)) (t + K)) L = wt a v L := wt_congr fun t _ => by
      by_cases h : t = 0
      · subst h; simp [uK, v0]
      · simp only [show ¬ t + K ≤ K by omega, if_false]; congr 1; omega
    rw [e1, e2, uw, vw]
    unfold Mp.pl
    rw [if_neg hx, if_neg hy]; omega
theorem Att.max {n : Nat} {a : Nat → Nat → Int} {i j : Nat} {x y : Int} (hx : Att n a i j x) (hy : Att n a i j y) : Att n a i j (max x y) := by
  by_cases h : y ≤ x
  · rw [Int.max_eq_left h]; exact hx
  · rw [Int.max_eq_right (by omega)]; exact hy
theorem fw0_att {n : Nat} {a : Nat → Nat → Int} {i j : Nat} (hi : i < n) (hj : j < n) : Att n a i j (fw0 a i j) := by
  refine Att.max ?_ ?_
  · unfold onef
    by_cases e : i = j
    · subst e
      rw [if_pos rfl]
      exact .inr ⟨0, fun _ => i, ⟨fun _ _ => hi, fun t ht => by omega⟩, rfl, rfl, rfl⟩
    · rw [if_neg e]; exact .inl rfl
  · by_cases h : a i j = NEV
    · exact .inl h
    · refine .inr ⟨1, fun t => if t = 0 then j else i, ⟨fun t ht => ?_, fun t ht => ?_⟩, by simp, by simp, by simp [wt]⟩
      · by_cases e : t = 0
        · simp only [e, if_true]; exact hj
        · simp only [e, if_false]; exact hi
      · obtain rfl : t = 0 := by omega
        simpa using h
theorem fwk_att {n : Nat} {a : Nat → Nat → Int} : ∀ k, k ≤ n → ∀ i j, i < n → j < n → Att n a i j (fwk a k i j)
  | 0, _, _, _, hi, hj => fw0_att hi hj
  | k + 1, hk, i, j, hi, hj => Att.max (fwk_att k (by omega) i j hi hj) (Att.pl (fwk_att k (by omega) i k hi (by omega)) (fwk_att k (by omega) k j (by omega) hj))
theorem fwk_mono (a : Nat → Nat → Int) (i j : Nat) : ∀ k, fw0 a i j ≤ fwk a k i j
  | 0 => Int.le_refl _
  | k + 1 => by have := fwk_mono a i j k; simp only [fwk]; omega
theorem Bd.max {M x y : Int} (hx : Bd M x) (hy : Bd M y) : Bd M (max x y) := by
  by_cases h : y ≤ x
  · rw [Int.max_eq_left h]; exact hx
  · rw [Int.max_eq_right (by omega)]; exact hy
theorem fwk_bd {n : Nat} {M : Int} {a : Nat → Nat → Int} (ha : BdM n n M a) (hM : 0 ≤ M) : ∀ k, k ≤ n → BdM n n (M * (2 ^ k : Nat)) (fwk a k)
  | 0, _ => fun i j hi hj => Bd.max ((BdM.one n i j hi hj).mono (by simpa using hM)) ((ha i j hi hj).mono (by simp))
  | k + 1, hk => fun i j hi hj => by
    have ih := fwk_bd ha hM k (by omega)
    have e : M * ((2 ^ (k + 1) : Nat) : Int) = M * (2 ^ k : Nat) + M * (2 ^ k : Nat) := by
      rw [Nat.pow_succ, Nat.mul_two, Int.natCast_add, Int.mul_add]
    have h0 : 0 ≤ M * ((2 ^ k : Nat) : Int) := Int.mul_nonneg hM (Int.natCast_nonneg _)
    rw [e]
    revert ih h0
    generalize M * ((2 ^ k : Nat) : Int) = P
    intro ih h0
    exact Bd.max ((ih i j hi hj).mono (by omega)) ((ih i k hi (by omega)).pl (ih k j (by omega) hj))
section
variable {n : Nat} {M : Int} {a : Nat → Nat → Int}
theorem fwk_diag (ha : BdM n n M a) (hM : 0 ≤ M) (hs : M * (n : Nat) < 1152921504606846976) (hp : NoPos n a) {k : Nat} (hk : k ≤ n) {i : Nat} (hi : i < n) : fwk a k i i = 0 := by
  have h1 : 0 ≤ fwk a k i i := Int.le_trans (by unfold fw0 onef; rw [if_pos rfl]; omega) (fwk_mono a i i k)
  rcases fwk_att (a := a) k hk i i hi hi with e | ⟨L, v, hv, v0, vL, vw⟩
  · rw [e] at h1; exact absurd h1 (by decide)
  · have := closed_le ha hM hs hp L v hv (by rw [v0, vL])
    omega
theorem fwk_tr (ha : BdM n n M a) (hM : 0 ≤ M) (hs : M * (n : Nat) < 1152921504606846976) (hp : NoPos n a) (h2 : M * (2 ^ n : Nat) < 100000000000000000) : ∀ k, k ≤ n → ∀ m, m < k → ∀ i j, i < n → j < n → pl (fwk a k i m) (fwk a k m j) ≤ fwk a k i j := by
  intro k
  induction k with
  | zero => intro _ m hm; omega
  | succ k ih =>
    intro hk m hm i j hi hj
    have B : ∀ i j, i < n → j < n → Bd 100000000000000000 (fwk a k i j) := fun i j hi hj => (fwk_bd ha hM k (by omega) i j hi hj).mono
      (Int.le_of_lt (Int.lt_of_le_of_lt (Int.mul_le_mul_of_nonneg_left (by exact_mod_cast Nat.pow_le_pow_right (by omega) (by omega)) hM) h2))
    have hkk := fwk_diag ha hM hs hp (k := k) (by omega) (i := k) (by omega)
    have bik := B i k hi (by omega)
    have bkj := B k j (by omega) hj
    have bij := B i j hi hj
    simp only [fwk]
    by_cases e : m = k
    · subst e
      rw [hkk]
      have : pl (max (fwk a m i m) (pl (fwk a m i m) 0)) (max (fwk a m m j) (pl 0 (fwk a m m j))) = pl (fwk a m i m) (fwk a m m j) := by
        unfold Bd pl NEV at *
        repeat' split <;> omega
      rw [this]; omega
    · have bim := B i m hi (by omega)
      have bmj := B m j (by omega) hj
      have bkm := B k m (by omega) (by omega)
      have bmk := B m k (by omega) (by omega)
      have t1 := ih (by omega) m (by omega) i j hi hj
      have t2 := ih (by omega) m (by omega) k j (by omega) hj
      have t3 := ih (by omega) m (by omega) i k hi (by omega)
      have t4 := ih (by omega) m (by omega) k k (by omega) (by omega)
      rw [hkk] at t4
      revert bik bkj bij bim bmj bkm bmk t1 t2 t3 t4
      generalize fwk a k i k = x1
      generalize fwk a k k j = x2
      generalize fwk a k i j = x3
      generalize fwk a k i m = x4
      generalize fwk a k m j = x5
      generalize fwk a k k m = x6
      generalize fwk a k m k = x7
      clear hkk B ih
      intro bik bkj bij bim bmj bkm bmk t1 t2 t3 t4
      have b16 := bik.pl bkm
      have b72 := bmk.pl bkj
      have b12 := bik.pl bkj
      have bR : Bd 200000000000000000 (max x5 (pl x7 x2)) := Bd.max (bmj.mono (by omega)) (b72.mono (by omega))
      rw [pl_max_left (M := 200000000000000000) (bim.mono (by omega)) (b16.mono (by omega)) bR (by omega) (by omega) (by omega),
        pl_max_right (M := 200000000000000000) (N := 200000000000000000) (bmj.mono (by omega)) (b72.mono (by omega)) (bim.mono (by omega)) (by omega) (by omega) (by omega),
        pl_max_right (M := 200000000000000000) (N := 200000000000000000) (bmj.mono (by omega)) (b72.mono (by omega)) (b16.mono (by omega)) (by omega) (by omega) (by omega)]
      have u1 : pl x4 (pl x7 x2) ≤ pl x1 x2 := by
        rw [← pl_assoc bim bmk bkj (by omega) (by omega) (by omega) (by omega)]
        exact pl_mono (bim.pl bmk) bik bkj bkj (by omega) t3 (Int.le_refl _)
      have u2 : pl (pl x1 x6) x5 ≤ pl x1 x2 := by
        rw [pl_assoc bik bkm bmj (by omega) (by omega) (by omega) (by omega)]
        exact pl_mono bik bik (bkm.pl bmj) bkj (by omega) (Int.le_refl _) t2
      have u3 : pl (pl x1 x6) (pl x7 x2) ≤ pl x1 x2 := by
        rw [pl_assoc bik bkm b72 (by omega) (by omega) (by omega) (by omega), ← pl_assoc bkm bmk bkj (by omega) (by omega) (by omega) (by omega)]
        have z : pl (pl x6 x7) x2 ≤ x2 := by
          have := pl_mono (bkm.pl bmk) (.inr (by omega) : Bd 100000000000000000 (0 : Int)) bkj bkj (by omega) t4 (Int.le_refl _)
          have e0 : pl 0 x2 = x2 := by
            unfold pl
            rw [if_neg (by decide)]
            split <;> omega
          rw [e0] at this; exact this
        exact pl_mono bik bik ((bkm.pl bmk).pl bkj) bkj (by omega) (Int.le_refl _) z
      omega
end
end Go.Proofs.Ythjmfbmffchicaa.Mp
end
section
namespace Go.Proofs.Ythjmfbmffchicaa.Pure
open Go.RowKit Go.Proofs.Ythjmfbmffchicaa.V Go.Proofs.YthjmfbmffchicaaW.PrintWords Go.Proofs.YthjmfbmffchicaaW.PrintLast
open Go.Proofs.Ythjmfbmffchicaa.Mp
structure IsGcd (a b g : Int) : Prop where
  left : g ∣ a
  right : g ∣ b
  all : ∀ d : Int, d ∣ a → d ∣ b → d ∣ g
  pos : a ≠ 0 ∨ b ≠ 0 → 0 < g
theorem gcd_l0 : ∀ (N : Nat) (a b : Int), b.natAbs ≤ N → -1000000 ≤ a → a ≤ 1000000 → -1000000 ≤ b → b ≤ 1000000 → ∃ g, Ev (fun k => line_gcd.l0 k a b) g ∧ IsGcd a b g := by
  intro N
  induction N with
  | zero =>
    intro a b hN h1 h2 _ _
    obtain rfl : b = 0 := by omega
    refine ⟨mx a (wrap64 (-a)), ev_now fun k => by simp only [line_gcd.l0]; rw [if_pos trivial], ?_⟩
    rw [mx_max, wr (by omega) (by omega)]
    by_cases h : 0 ≤ a
    · rw [show max a (-a) = a by omega]
      exact ⟨Int.dvd_refl _, Int.dvd_zero _, fun _ h _ => h, fun h => by omega⟩
    · rw [show max a (-a) = -a by omega]
      exact ⟨Int.neg_dvd.2 (Int.dvd_refl _), Int.dvd_zero _, fun _ h _ => Int.dvd_neg.2 h, fun h => by omega⟩
  | succ N ih =>
    intro a b hN h1 h2 h3 h4
    by_cases hb : b = 0
    · exact ih a b (by omega) h1 h2 h3 h4
    have hlt := Int.natAbs_tmod a b
    have hm : a.natAbs % b.natAbs < b.natAbs := Nat.mod_lt _ (by omega)
    obtain ⟨g, e, hg⟩ := ih b (Int.tmod a b) (by omega) h3 h4 (by omega) (by omega)
    have hd := Int.mul_tdiv_add_tmod a b
    refine ⟨g, Ev.step (fun k => ?_) e, ?_, hg.left, fun d d1 d2 => hg.all d d2 ?_, fun _ => hg.pos (.inl hb)⟩
    · simp only [line_gcd.l0]
      rw [if_neg hb]
    · rw [← hd]; exact Int.dvd_add (Int.dvd_trans hg.left (Int.dvd_mul_right _ _)) hg.right
    · rw [show Int.tmod a b = a - b * Int.tdiv a b by omega]
      exact Int.dvd_sub d1 (Int.dvd_trans d2 (Int.dvd_mul_right _ _))
theorem gcd_f (a b : Int) (h1 : -1000000 ≤ a) (h2 : a ≤ 1000000) (h3 : -1000000 ≤ b) (h4 : b ≤ 1000000) : ∃ g, Ev (fun k => line_gcd.f k a b) g ∧ IsGcd a b g := gcd_l0 b.natAbs a b (by omega) h1 h2 h3 h4
structure Top (n : Nat) (a : Nat → Nat → Int) (B : Nat → Nat → Prop) (num den : Int) : Prop where
  den0 : 0 < den
  den6 : den ≤ 6
  lo : -6000 ≤ num
  hi : num ≤ 6000
  top : ∀ k i, B k i → powf n a k i i ≠ NEV → powf n a k i i * den ≤ num * (k : Nat)
  att : ∃ k i, B k i ∧ powf n a k i i ≠ NEV ∧ powf n a k i i * den = num * (k : Nat)
  low : ∀ d : Int, d ∣ num → d ∣ den → d ∣ 1
def Best (n : Nat) (a : Nat → Nat → Int) (B : Nat → Nat → Prop) (num den : Int) (f : Bool) : Prop :=
  (f = false ∧ ∀ k i, B k i → powf n a k i i = NEV) ∨ (f = true ∧ Top n a B num den)
theorem cross {p q x k num den : Int} (h1 : p * den ≤ num * q) (h2 : num * k ≤ x * den) (hd : 0 < den) (hq : 0 ≤ q) (hk : 0 ≤ k) : p * k ≤ x * q := by
  refine Int.le_of_mul_le_mul_right ?_ hd
  have a1 := Int.mul_le_mul_of_nonneg_right h1 hk
  have a2 := Int.mul_le_mul_of_nonneg_right h2 hq
  have e1 : p * k * den = p * den * k := by rw [Int.mul_assoc, Int.mul_comm k, ← Int.mul_assoc]
  have e2 : num * q * k = num * k * q := by rw [Int.mul_assoc, Int.mul_comm q, ← Int.mul_assoc]
  have e3 : x * q * den = x * den * q := by rw [Int.mul_assoc, Int.mul_comm q, ← Int.mul_assoc]
  omega
theorem small_mul {x d : Int} (h1 : -6000 ≤ x) (h2 : x ≤ 6000) (h3 : 0 < d) (h4 : d ≤ 6) : wrap64 (x * d) = x * d := by
  have : d = 1 ∨ d = 2 ∨ d = 3 ∨ d = 4 ∨ d = 5 ∨ d = 6 := by omega
  rcases this with rfl | rfl | rfl | rfl | rfl | rfl <;> exact wr (by omega) (by omega)
theorem Top.make {n : Nat} {a : Nat → Nat → Int} {B : Nat → Nat → Prop} {k i : Nat} {x g : Int} (hx : powf n a k i i = x) (hnev : x ≠ NEV) (h1 : -6000 ≤ x) (h2 : x ≤ 6000) (hk : 1 ≤ k) (hk6 : k ≤ 6) (hg : IsGcd x (k : Int) g) (hB : B k i)
    (h : ∀ k' i', B k' i' → powf n a k' i' i' ≠ NEV → powf n a k' i' i' * (k : Nat) ≤ x * (k' : Nat)) : Top n a B (Int.tdiv x g) (Int.tdiv (k : Int) g) := by
  have gp := hg.pos (.inr (by omega))
  obtain ⟨u, hu⟩ := hg.left
  obtain ⟨v, hv⟩ := hg.right
  have e1 : Int.tdiv x g = u := by rw [hu]; exact Int.mul_tdiv_cancel_left _ (by omega)
  have e2 : Int.tdiv (k : Int) g = v := by rw [hv]; exact Int.mul_tdiv_cancel_left _ (by omega)
  have g6 : g ≤ 6 := by have := Int.le_of_dvd (by omega) hg.right; omega
  rw [e1, e2]
  have hg6 : g = 1 ∨ g = 2 ∨ g = 3 ∨ g = 4 ∨ g = 5 ∨ g = 6 := by omega
  have vb : 0 < v ∧ v ≤ 6 := by rcases hg6 with rfl | rfl | rfl | rfl | rfl | rfl <;> omega
  have ub : -6000 ≤ u ∧ u ≤ 6000 := by rcases hg6 with rfl | rfl | rfl | rfl | rfl | rfl <;> omega
  refine ⟨vb.1, vb.2, ub.1, ub.2, fun k' i' hB' hn => ?_, ⟨k, i, hB, by rw [hx]; exact hnev, ?_⟩, fun d d1 d2 => ?_⟩
  · refine Int.le_of_mul_le_mul_left ?_ gp
    have := h k' i' hB' hn
    rw [hu, hv] at this
    have e3 : g * (powf n a k' i' i' * v) = powf n a k' i' i' * (g * v) := by rw [Int.mul_left_comm]
    have e4 : g * (u * (k' : Nat)) = g * u * (k' : Nat) := by rw [Int.mul_assoc]
    rw [e3, e4]; exact this
  · rw [hx, hu, hv, Int.mul_comm g u, Int.mul_assoc]
  · have := hg.all (g * d) (by rw [hu]; exact Int.mul_dvd_mul_left g d1) (by rw [hv]; exact Int.mul_dvd_mul_left g d2)
    obtain ⟨w, hw⟩ := this
    refine ⟨w, ?_⟩
    have e5 : g * 1 = g * (d * w) := by rw [Int.mul_one, ← Int.mul_assoc]; exact hw
    exact Int.eq_of_mul_eq_mul_left (by omega) e5
def Seen (n k i : Nat) (k' i' : Nat) : Prop := 1 ≤ k' ∧ i' < n ∧ (k' < k ∨ (k' = k ∧ i' < i))
theorem pace_l1 {n : Nat} {A : List (List Int)} (hA : Arg n A) (k : Nat) (hk : 1 ≤ k) (hkn : k ≤ n)
    (hr : ∀ f num den, Best n (ent A) (Seen n (k + 1) 0) num den f → ∃ r, Ev (fun q => lgpace.l0 q A f (mat n (powf n (ent A) k)) ((k + 1 : Nat) : Int) num den) r ∧ Best n (ent A) (Seen n (n + 1) 0) r.1 r.2.1 r.2.2) :
    ∀ d i, i + d = n → ∀ f num den, Best n (ent A) (Seen n k i) num den f →
    ∃ r, Ev (fun q => lgpace.l1 q A f (mat n (powf n (ent A) k)) (k : Int) (n : Int) (i : Int) num den) r ∧ Best n (ent A) (Seen n (n + 1) 0) r.1 r.2.1 r.2.2 := by
  have h6 := hA.six
  intro d
  induction d with
  | zero =>
    intro i hi f num den hb
    have hb' : Best n (ent A) (Seen n (k + 1) 0) num den f := by
      have e : Seen n (k + 1) 0 = Seen n k i := by
        funext k' i'
        refine propext ⟨fun h => ⟨h.1, h.2.1, ?_⟩, fun h => ⟨h.1, h.2.1, ?_⟩⟩
        · have := h.2.1; have := h.2.2; omega
        · have := h.2.2; omega
      rw [e]; exact hb
    obtain ⟨r, e, h⟩ := hr f num den hb'
    refine ⟨r, Ev.step (fun q => ?_) e, h⟩
    simp only [lgpace.l1]
    rw [if_neg (by omega), wr1 k (by omega)]
  | succ d ih =>
    intro i hi f num den hb
    have hin : i < n := by omega
    have hml : (mat n (powf n (ent A) k)).length = n := mat_length _ _
    have hrow : ((mat n (powf n (ent A) k)).getD i []).length = n := by rw [mat_get _ hin, vec_length]
    have hval : ((mat n (powf n (ent A) k)).getD i []).getD i 0 = powf n (ent A) k i i := ent_mat _ hin hin
    have hbd := BdM.pow hA.bd k i i hin hin
    obtain ⟨x, hx⟩ : ∃ x, powf n (ent A) k i i = x := ⟨_, rfl⟩
    rw [hx] at hval hbd
    have hxb : x = NEV ∨ (-6000 ≤ x ∧ x ≤ 6000) := hbd.imp id fun h => by omega
    have head : ∀ q, lgpace.l1 (q + 1) A f (mat n (powf n (ent A) k)) (k : Int) (n : Int) (i : Int) num den = if x = NEV then lgpace.l1 q A f (mat n (powf n (ent A) k)) (k : Int) (n : Int) ((i + 1 : Nat) : Int) num den else (if f = true then (if wrap64 (x * den) > wrap64 (num * (k : Int)) then ((line_gcd.f q x (k : Int)).bind fun t => if t = 0 then none else lgpace.l1 q A true (mat n (powf n (ent A) k)) (k : Int) (n : Int) ((i + 1 : Nat) : Int) (wrap64 (Int.tdiv x t)) (wrap64 (Int.tdiv (k : Int) t))) else lgpace.l1 q A f (mat n (powf n (ent A) k)) (k : Int) (n : Int) ((i + 1 : Nat) : Int) num den) else ((line_gcd.f q x (k : Int)).bind fun t => if t = 0 then none else lgpace.l1 q A true (mat n (powf n (ent A) k)) (k : Int) (n : Int) ((i + 1 : Nat) : Int) (wrap64 (Int.tdiv x t)) (wrap64 (Int.tdiv (k : Int) t)))) := by
      intro q
      simp only [lgpace.l1]
      rw [if_pos (by omega), if_pos (by omega), if_pos (by omega), rdL, if_pos (by omega), rdI, hval, wr1 i (by omega)]
      unfold line_never_int.f
      simp only [Option.bind_some]
      rfl
    have seen : ∀ k' i', Seen n k (i + 1) k' i' ↔ Seen n k i k' i' ∨ (k' = k ∧ i' = i) := by
      intro k' i'
      constructor
      · intro h
        by_cases e : k' = k ∧ i' = i
        · exact .inr e
        · exact .inl ⟨h.1, h.2.1, by have := h.2.2; omega⟩
      · rintro (h | ⟨rfl, rfl⟩)
        · exact ⟨h.1, h.2.1, by have := h.2.2; omega⟩
        · exact ⟨hk, hin, .inr ⟨rfl, by omega⟩⟩
    by_cases hn : x = NEV
    · have hb' : Best n (ent A) (Seen n k (i + 1)) num den f := by
        rcases hb with ⟨h0, h⟩ | ⟨h0, h⟩
        · refine .inl ⟨h0, fun k' i' hs => ?_⟩
          rcases (seen k' i').1 hs with hs | ⟨rfl, rfl⟩
          · exact h k' i' hs
          · rw [hx, hn]
        · refine .inr ⟨h0, h.den0, h.den6, h.lo, h.hi, fun k' i' hs hne => ?_, ?_, h.low⟩
          · rcases (seen k' i').1 hs with hs | ⟨rfl, rfl⟩
            · exact h.top k' i' hs hne
            · exact absurd (hx.trans hn) hne
          · obtain ⟨k', i', hs, h3⟩ := h.att
            exact ⟨k', i', (seen k' i').2 (.inl hs), h3⟩
      obtain ⟨r, e, h⟩ := ih (i + 1) (by omega) f num den hb'
      exact ⟨r, Ev.step (fun q => by rw [head, if_pos hn]) e, h⟩
    have hxs := hxb.resolve_left hn
    have take : (∀ k' i', Seen n k i k' i' → powf n (ent A) k' i' i' ≠ NEV → powf n (ent A) k' i' i' * (k : Nat) ≤ x * (k' : Nat)) →
        ∃ r, Ev (fun q => (line_gcd.f q x (k : Int)).bind fun t => if t = 0 then none else lgpace.l1 q A true (mat n (powf n (ent A) k)) (k : Int) (n : Int) ((i + 1 : Nat) : Int) (wrap64 (Int.tdiv x t)) (wrap64 (Int.tdiv (k : Int) t))) r ∧ Best n (ent A) (Seen n (n + 1) 0) r.1 r.2.1 r.2.2 := by
      intro hle
      obtain ⟨g, eg, hg⟩ := gcd_f x (k : Int) (by omega) (by omega) (by omega) (by omega)
      have ht : Top n (ent A) (Seen n k (i + 1)) (Int.tdiv x g) (Int.tdiv (k : Int) g) := by
        refine Top.make hx hn hxs.1 hxs.2 hk (by omega) hg ((seen k i).2 (.inr ⟨rfl, rfl⟩)) fun k' i' hs hne => ?_
        rcases (seen k' i').1 hs with hs | ⟨rfl, rfl⟩
        · exact hle k' i' hs hne
        · rw [hx]; exact Int.le_refl _
      obtain ⟨r, e, h⟩ := ih (i + 1) (by omega) true (Int.tdiv x g) (Int.tdiv (k : Int) g) (.inr ⟨rfl, ht⟩)
      have gp := hg.pos (.inr (by omega))
      have b1 := ht.lo
      have b2 := ht.hi
      have b3 := ht.den0
      have b4 := ht.den6
      refine ⟨r, Ev.bind eg (Ev.congr (fun q => ?_) e), h⟩
      rw [if_neg (by omega), wr (by omega) (by omega), wr (by omega) (by omega)]
    rcases hb with ⟨rfl, h⟩ | ⟨rfl, h⟩
    · obtain ⟨r, e, h'⟩ := take fun k' i' hs hne => absurd (h k' i' hs) hne
      exact ⟨r, Ev.step (fun q => by rw [head, if_neg hn, if_neg (by decide)]) e, h'⟩
    · have w1 : wrap64 (x * den) = x * den := small_mul hxs.1 hxs.2 h.den0 h.den6
      have w2 : wrap64 (num * (k : Int)) = num * (k : Int) := small_mul h.lo h.hi (by omega) (by omega)
      by_cases hgt : x * den > num * (k : Int)
      · obtain ⟨r, e, h'⟩ := take fun k' i' hs hne => cross (h.top k' i' hs hne) (by omega) h.den0 (by omega) (by omega)
        exact ⟨r, Ev.step (fun q => by rw [head, if_neg hn, if_pos rfl, w1, w2, if_pos hgt]) e, h'⟩
      · have hb' : Best n (ent A) (Seen n k (i + 1)) num den true := by
          refine .inr ⟨rfl, h.den0, h.den6, h.lo, h.hi, fun k' i' hs hne => ?_, ?_, h.low⟩
          · rcases (seen k' i').1 hs with hs | ⟨rfl, rfl⟩
            · exact h.top k' i' hs hne
            · rw [hx]; omega
          · obtain ⟨k', i', hs, h3⟩ := h.att
            exact ⟨k', i', (seen k' i').2 (.inl hs), h3⟩
        obtain ⟨r, e, h'⟩ := ih (i + 1) (by omega) true num den hb'
        exact ⟨r, Ev.step (fun q => by rw [head, if_neg hn, if_pos rfl, w1, w2, if_neg hgt]) e, h'⟩
theorem pace_l0 {n : Nat} {A : List (List Int)} (hA : Arg n A) : ∀ d k, k + d = n → ∀ f num den, Best n (ent A) (Seen n (k + 1) 0) num den f →
    ∃ r, Ev (fun q => lgpace.l0 q A f (mat n (powf n (ent A) k)) ((k + 1 : Nat) : Int) num den) r ∧ Best n (ent A) (Seen n (n + 1) 0) r.1 r.2.1 r.2.2 := by
  have h6 := hA.six
  have hl := hA.is.1
  intro d
  induction d with
  | zero =>
    intro k hk f num den hb
    obtain rfl : k = n := by omega
    refine ⟨(num, den, f), ev_now fun q => ?_, hb⟩
    simp only [lgpace.l0]
    rw [if_neg (by omega)]
  | succ d ih =>
    intro k hk f num den hb
    obtain ⟨r, e, h⟩ := pace_l1 hA (k + 1) (by omega) (by omega) (ih (k + 1) (by omega)) n 0 (by omega) f num den hb
    have et : Ev (fun q => lgtimes.f q (mat n (powf n (ent A) k)) A) (mat n (powf n (ent A) (k + 1))) := by
      have := times_pow (n := n) (a := ent A) (M := 1000) (by omega) hA.bd (by omega) k 1 (by omega)
      rwa [pow_one hA] at this
    refine ⟨r, Ev.step (f := fun q => (lgtimes.f q (mat n (powf n (ent A) k)) A).bind fun t => lgpace.l1 q A f t ((k + 1 : Nat) : Int) (n : Int) ((0 : Nat) : Int) num den) (fun q => ?_) (Ev.bind et e), h⟩
    simp only [lgpace.l0]
    rw [if_pos (by omega), hl]
    rfl
theorem pace_f {n : Nat} {A : List (List Int)} (hA : Arg n A) : ∃ r, Ev (fun q => lgpace.f q A) r ∧ Best n (ent A) (Seen n (n + 1) 0) r.1 r.2.1 r.2.2 := by
  have h6 := hA.six
  obtain ⟨r, e, h⟩ := pace_l0 hA n 0 (by omega) false 0 1 (.inl ⟨rfl, fun k' i' hs => absurd hs.2.2 (by have := hs.1; omega)⟩)
  have eo := one_f n (by omega)
  refine ⟨r, ?_, h⟩
  unfold lgpace.f
  rw [hA.is.1]
  exact Ev.bind eo e
end Go.Proofs.Ythjmfbmffchicaa.Pure
end
section
namespace Go.Proofs.Ythjmfbmffchicaa.Pure
open Go.RowKit Go.Proofs.Ythjmfbmffchicaa.V Go.Proofs.YthjmfbmffchicaaW.PrintWords Go.Proofs.YthjmfbmffchicaaW.PrintLast
open Go.Proofs.Ythjmfbmffchicaa.Mp
def upd (f g : Nat → Nat → Int) (i j : Nat) (p q : Nat) : Int := if p < i ∨ (p = i ∧ q < j) then g p q else f p q
theorem upd_old (f g : Nat → Nat → Int) (i j : Nat) : upd f g i j i j = f i j := if_neg (by omega)
theorem upd_set {n : Nat} (f g : Nat → Nat → Int) (i j : Nat) (hi : i < n) : (mat n (upd f g i j)).set i (((mat n (upd f g i j)).getD i []).set j (g i j)) = mat n (upd f g i (j + 1)) := by
  rw [mat_get _ hi]
  have row : (vec n (upd f g i j i)).set j (g i j) = vec n (upd f g i (j + 1) i) := by
    refine range_map_set n _ _ j _ (fun _ => if_pos (by omega)) (fun b _ hb => ?_)
    unfold upd
    by_cases h : b < j
    · rw [if_pos (by omega), if_pos (by omega)]
    · rw [if_neg (by omega), if_neg (by omega)]
  rw [row]
  refine range_map_set n _ _ i _ (fun _ => rfl) (fun b _ hb => vec_congr fun q _ => ?_)
  unfold upd
  by_cases h : b < i
  · rw [if_pos (by omega), if_pos (by omega)]
  · rw [if_neg (by omega), if_neg (by omega)]
theorem upd_next (n : Nat) (f g : Nat → Nat → Int) (i : Nat) : mat n (upd f g i n) = mat n (upd f g (i + 1) 0) := mat_congr fun p q _ hq => by
  unfold upd
  by_cases h : p < i + 1
  · rw [if_pos (by omega), if_pos (by omega)]
  · rw [if_neg (by omega), if_neg (by omega)]
theorem upd_zero (n : Nat) (f g : Nat → Nat → Int) : mat n f = mat n (upd f g 0 0) := mat_congr fun p q _ _ => (if_neg (by omega)).symm
theorem upd_all (n : Nat) (f g : Nat → Nat → Int) : mat n (upd f g n 0) = mat n g := mat_congr fun p q hp _ => if_pos (by omega)
theorem upd_ent {n : Nat} (f g : Nat → Nat → Int) (i j : Nat) {p q : Nat} (hp : p < n) (hq : q < n) : ((mat n (upd f g i j)).getD p []).getD q 0 = upd f g i j p q := ent_mat _ hp hq
section
variable {n : Nat} {M : Int} {A : List (List Int)}
theorem closed_l1 (hn : n ≤ 1000) (hA : IsMat n A) (i : Nat) (hi : i < n) (r : List (List Int))
    (hr : Ev (fun k => lgclosed.l0 k A (mat n (upd onef (fw0 (ent A)) (i + 1) 0)) (n : Int) ((i + 1 : Nat) : Int)) r) : ∀ d j, j + d = n →
    Ev (fun k => lgclosed.l1 k A (mat n (upd onef (fw0 (ent A)) i j)) (i : Int) (n : Int) (i : Int) (n : Int) (j : Int)) r := by
  intro d
  induction d with
  | zero =>
    intro j hj
    obtain rfl : j = n := by omega
    refine Ev.step (fun k => ?_) hr
    simp only [lgclosed.l1]
    rw [if_neg (by omega), wr1 i (by omega), upd_next]
  | succ d ih =>
    intro j hj
    have hj' : j < n := by omega
    refine Ev.step (fun k => ?_) (ih (j + 1) (by omega))
    simp only [lgclosed.l1]
    have e1 : ((mat n (upd onef (fw0 (ent A)) i j)).getD i []).length = n := by rw [mat_get _ hi, vec_length]
    have e2 := hA.2 i hi
    have e3 := hA.1
    rw [if_pos (by omega), if_pos (by omega), if_pos (by rw [mat_length]; omega), if_pos (by omega), rdL, rdL, rdI, rdI, if_pos (by omega), if_pos (by omega), if_pos (by omega), wr1 j (by omega), upd_ent _ _ _ _ hi hj', upd_old, mx_max, toN, toN]
    have e4 : max (onef i j) ((A.getD i []).getD j 0) = fw0 (ent A) i j := rfl
    rw [e4, upd_set _ _ i j hi]
theorem closed_l0 (hn : n ≤ 1000) (hA : IsMat n A) (r : List (List Int)) (hr : Ev (fun k => lgclosed.l2 k A (mat n (fw0 (ent A))) (n : Int) ((0 : Nat) : Int)) r) : ∀ d i, i + d = n →
    Ev (fun k => lgclosed.l0 k A (mat n (upd onef (fw0 (ent A)) i 0)) (n : Int) (i : Int)) r := by
  intro d
  induction d with
  | zero =>
    intro i hi
    obtain rfl : i = n := by omega
    refine Ev.step (fun k => ?_) hr
    simp only [lgclosed.l0]
    rw [if_neg (by omega), upd_all, hA.1]
    rfl
  | succ d ih =>
    intro i hi
    refine Ev.step (fun k => ?_) (closed_l1 hn hA i (by omega) r (ih (i + 1) (by omega)) n 0 (by omega))
    simp only [lgclosed.l0]
    rw [if_pos (by omega), hA.1]
    rfl
theorem pl_zero {x : Int} {M : Int} (hx : Bd M x) (hM : M < 1152921504606846976) : max x (pl x 0) = x := by
  have := hx.ge hM
  unfold pl
  rw [if_neg (by decide : ¬ (0 : Int) = NEV)]
  split <;> omega
theorem zero_pl {x : Int} {M : Int} (hx : Bd M x) (hM : M < 1152921504606846976) : max x (pl 0 x) = x := by
  have := hx.ge hM
  unfold pl
  rw [if_neg (by decide : ¬ (0 : Int) = NEV)]
  split <;> omega
theorem closed_l4 (hn : n ≤ 1000) (ha : BdM n n M (ent A)) (hM : 0 ≤ M) (hs : M * (n : Nat) < 1152921504606846976) (h2 : M * (2 ^ n : Nat) < 100000000000000000) (hp : NoPos n (ent A)) (hl : A.length = n) (k : Nat) (hk : k < n) (i : Nat) (hi : i < n) (r : List (List Int))
    (hr : Ev (fun q => lgclosed.l3 q A (mat n (upd (fwk (ent A) k) (fwk (ent A) (k + 1)) (i + 1) 0)) (k : Int) (n : Int) (k : Int) (n : Int) ((i + 1 : Nat) : Int)) r) : ∀ d j, j + d = n →
    Ev (fun q => lgclosed.l4 q A (mat n (upd (fwk (ent A) k) (fwk (ent A) (k + 1)) i j)) (k : Int) (i : Int) (n : Int) (k : Int) (n : Int) (i : Int) (n : Int) (j : Int)) r := by
  have B : ∀ x y, x < n → y < n → Bd 100000000000000000 (fwk (ent A) k x y) := fun x y hx hy => (fwk_bd ha hM k (by omega) x y hx hy).mono
    (Int.le_of_lt (Int.lt_of_le_of_lt (Int.mul_le_mul_of_nonneg_left (by exact_mod_cast Nat.pow_le_pow_right (by omega) (by omega)) hM) h2))
  have hkk := fwk_diag ha hM hs hp (k := k) (by omega) hk
  have col : ∀ x, x < n → fwk (ent A) (k + 1) x k = fwk (ent A) k x k := fun x hx => by
    simp only [fwk]
    rw [hkk]
    exact pl_zero (B x k hx hk) (by omega)
  have row : ∀ y, y < n → fwk (ent A) (k + 1) k y = fwk (ent A) k k y := fun y hy => by
    simp only [fwk]
    rw [hkk]
    exact zero_pl (B k y hk hy) (by omega)
  intro d
  induction d with
  | zero =>
    intro j hj
    obtain rfl : j = n := by omega
    refine Ev.step (fun q => ?_) hr
    simp only [lgclosed.l4]
    rw [if_neg (by omega), wr1 i (by omega), upd_next]
  | succ d ih =>
    intro j hj
    have hj' : j < n := by omega
    refine Ev.step (fun q => ?_) (ih (j + 1) (by omega))
    simp only [lgclosed.l4]
    have e1 : ((mat n (upd (fwk (ent A) k) (fwk (ent A) (k + 1)) i j)).getD i []).length = n := by rw [mat_get _ hi, vec_length]
    have e2 : ((mat n (upd (fwk (ent A) k) (fwk (ent A) (k + 1)) i j)).getD k []).length = n := by rw [mat_get _ hk, vec_length]
    have e3 : (mat n (upd (fwk (ent A) k) (fwk (ent A) (k + 1)) i j)).length = n := mat_length _ _
    have v1 : upd (fwk (ent A) k) (fwk (ent A) (k + 1)) i j i k = fwk (ent A) k i k := by
      unfold upd; split
      · exact col i hi
      · rfl
    have v2 : upd (fwk (ent A) k) (fwk (ent A) (k + 1)) i j k j = fwk (ent A) k k j := by
      unfold upd; split
      · exact row j hj'
      · rfl
    rw [if_pos (by omega), if_pos (by omega), if_pos (by omega), if_pos (by omega), rdL, rdL, rdI, rdI, rdI, if_pos (by omega), if_pos (by omega), if_pos (by omega), if_pos (by omega), if_pos (by omega),
      upd_ent _ _ _ _ hi hk, upd_ent _ _ _ _ hk hj', upd_ent _ _ _ _ hi hj', v1, v2, upd_old, both_f (B i k hi hk) (B k j hk hj') (by omega) (by omega) (by omega)]
    simp only [Option.bind_some]
    rw [wr1 j (by omega), mx_max, toN, toN]
    have e4 : max (fwk (ent A) k i j) (pl (fwk (ent A) k i k) (fwk (ent A) k k j)) = fwk (ent A) (k + 1) i j := rfl
    rw [e4, upd_set _ _ i j hi]
theorem closed_l3 (hn : n ≤ 1000) (ha : BdM n n M (ent A)) (hM : 0 ≤ M) (hs : M * (n : Nat) < 1152921504606846976) (h2 : M * (2 ^ n : Nat) < 100000000000000000) (hp : NoPos n (ent A)) (hl : A.length = n) (k : Nat) (hk : k < n) (r : List (List Int))
    (hr : Ev (fun q => lgclosed.l2 q A (mat n (fwk (ent A) (k + 1))) (n : Int) ((k + 1 : Nat) : Int)) r) : ∀ d i, i + d = n →
    Ev (fun q => lgclosed.l3 q A (mat n (upd (fwk (ent A) k) (fwk (ent A) (k + 1)) i 0)) (k : Int) (n : Int) (k : Int) (n : Int) (i : Int)) r := by
  intro d
  induction d with
  | zero =>
    intro i hi
    obtain rfl : i = n := by omega
    refine Ev.step (fun q => ?_) hr
    simp only [lgclosed.l3]
    rw [if_neg (by omega), wr1 k (by omega), upd_all]
  | succ d ih =>
    intro i hi
    refine Ev.step (fun q => ?_) (closed_l4 hn ha hM hs h2 hp hl k hk i (by omega) r (ih (i + 1) (by omega)) n 0 (by omega))
    simp only [lgclosed.l3]
    rw [if_pos (by omega), hl]
    rfl
theorem closed_l2 (hn : n ≤ 1000) (ha : BdM n n M (ent A)) (hM : 0 ≤ M) (hs : M * (n : Nat) < 1152921504606846976) (h2 : M * (2 ^ n : Nat) < 100000000000000000) (hp : NoPos n (ent A)) (hl : A.length = n) : ∀ d k, k + d = n →
    Ev (fun q => lgclosed.l2 q A (mat n (fwk (ent A) k)) (n : Int) (k : Int)) (mat n (fwk (ent A) n)) := by
  intro d
  induction d with
  | zero =>
    intro k hk
    obtain rfl : k = n := by omega
    refine ev_now fun q => ?_
    simp only [lgclosed.l2]
    rw [if_neg (by omega)]
  | succ d ih =>
    intro k hk
    refine Ev.step (fun q => ?_) (closed_l3 hn ha hM hs h2 hp hl k (by omega) _ (ih (k + 1) (by omega)) n 0 (by omega))
    simp only [lgclosed.l2]
    rw [if_pos (by omega), hl, upd_zero n (fwk (ent A) k) (fwk (ent A) (k + 1))]
    rfl
theorem closed_f (hn : n ≤ 1000) (hA : IsMat n A) (ha : BdM n n M (ent A)) (hM : 0 ≤ M) (hs : M * (n : Nat) < 1152921504606846976) (h2 : M * (2 ^ n : Nat) < 100000000000000000) (hp : NoPos n (ent A)) :
    Ev (fun q => lgclosed.f q A) (mat n (fwk (ent A) n)) := by
  have e := closed_l0 hn hA _ (closed_l2 hn ha hM hs h2 hp hA.1 n 0 (by omega)) n 0 (by omega)
  rw [← upd_zero] at e
  unfold lgclosed.f
  rw [hA.1]
  exact Ev.bind (one_f n hn) e
end
end Go.Proofs.Ythjmfbmffchicaa.Pure
end
section
namespace Go.Proofs.Ythjmfbmffchicaa.Pure
open Go.RowKit Go.Proofs.Ythjmfbmffchicaa.V Go.Proofs.YthjmfbmffchicaaW.PrintWords Go.Proofs.YthjmfbmffchicaaW.PrintLast
open Go.Proofs.Ythjmfbmffchicaa.Mp
def mapf (g : Int → Int) (a : Nat → Nat → Int) (i j : Nat) : Int := if a i j = NEV then NEV else g (a i j)
def pmix (n : Nat) (g a : Nat → Nat → Int) (i j : Nat) : List (List Int) := (List.range n).map fun p => if p < i then vec n (g p) else if p = i then vec n (fun q => if q < j then g i q else a i q) else []
theorem pmix_length (n : Nat) (g a : Nat → Nat → Int) (i j : Nat) : (pmix n g a i j).length = n := by simp [pmix]
theorem pmix_get (n : Nat) (g a : Nat → Nat → Int) (i j : Nat) (hi : i < n) : (pmix n g a i j).getD i [] = vec n (fun q => if q < j then g i q else a i q) := by
  unfold pmix
  rw [List.getD_eq_getElem?_getD, List.getElem?_map, List.getElem?_range hi]
  simp
theorem pmix_open (n : Nat) (g a : Nat → Nat → Int) (i : Nat) : (part n g i).set i (vec n (a i)) = pmix n g a i 0 := by
  refine range_map_set n _ _ i _ (fun _ => ?_) (fun b _ hb => ?_)
  · rw [if_neg (by omega), if_pos rfl]
    exact vec_congr fun q _ => if_neg (by omega)
  · by_cases h : b < i
    · rw [if_pos h, if_pos h]
    · rw [if_neg h, if_neg h, if_neg hb]
theorem pmix_set (n : Nat) (g a : Nat → Nat → Int) (i j : Nat) (hi : i < n) : (pmix n g a i j).set i (((pmix n g a i j).getD i []).set j (g i j)) = pmix n g a i (j + 1) := by
  rw [pmix_get n g a i j hi]
  have row : (vec n (fun q => if q < j then g i q else a i q)).set j (g i j) = vec n (fun q => if q < j + 1 then g i q else a i q) := by
    refine range_map_set n _ _ j _ (fun _ => if_pos (by omega)) (fun b _ hb => ?_)
    by_cases h : b < j
    · rw [if_pos (by omega), if_pos h]
    · rw [if_neg (by omega), if_neg h]
  rw [row]
  refine range_map_set n _ _ i _ (fun _ => ?_) (fun b _ hb => ?_)
  · rw [if_neg (by omega), if_pos rfl]
  · by_cases h : b < i
    · rw [if_pos h, if_pos h]
    · rw [if_neg h, if_neg h, if_neg hb, if_neg hb]
theorem pmix_skip (n : Nat) (g a : Nat → Nat → Int) (i j : Nat) (h : g i j = a i j) : pmix n g a i j = pmix n g a i (j + 1) := by
  unfold pmix
  refine List.map_congr_left fun p _ => ?_
  by_cases h1 : p < i
  · rw [if_pos h1, if_pos h1]
  · rw [if_neg h1, if_neg h1]
    by_cases h2 : p = i
    · rw [if_pos h2, if_pos h2]
      refine vec_congr fun q _ => ?_
      by_cases h3 : q < j
      · rw [if_pos h3, if_pos (by omega)]
      · rw [if_neg h3]
        by_cases h4 : q = j
        · subst h4; rw [if_pos (by omega), h]
        · rw [if_neg (by omega)]
    · rw [if_neg h2, if_neg h2]
theorem pmix_all (n : Nat) (g a : Nat → Nat → Int) (i : Nat) : pmix n g a i n = part n g (i + 1) := by
  unfold pmix part
  refine List.map_congr_left fun p _ => ?_
  by_cases h1 : p < i
  · rw [if_pos h1, if_pos (by omega)]
  · rw [if_neg h1]
    by_cases h2 : p = i
    · subst h2
      rw [if_pos rfl, if_pos (by omega)]
      exact vec_congr fun q hq => if_pos hq
    · rw [if_neg h2, if_neg (by omega)]
section
variable {n : Nat} {A : List (List Int)} {G : Int → Option Int} {g : Int → Int}
theorem mapped_l1 (hn : n ≤ 1000) (hA : IsMat n A) (hG : ∀ i j, i < n → j < n → ent A i j ≠ NEV → G (ent A i j) = some (g (ent A i j))) (i : Nat) (hi : i < n) (r : List (List Int))
    (hr : Ev (fun k => lgmapped.l0 G k (part n (mapf g (ent A)) (i + 1)) A (n : Int) ((i + 1 : Nat) : Int)) r) : ∀ d j, j + d = n →
    Ev (fun k => lgmapped.l1 G k (pmix n (mapf g (ent A)) (ent A) i j) (i : Int) A (n : Int) (i : Int) (A.getD i []) (n : Int) (j : Int)) r := by
  intro d
  induction d with
  | zero =>
    intro j hj
    obtain rfl : j = n := by omega
    refine Ev.step (fun k => ?_) hr
    simp only [lgmapped.l1]
    rw [if_neg (by omega), wr1 i (by omega), pmix_all]
  | succ d ih =>
    intro j hj
    have hj' : j < n := by omega
    have e2 := hA.2 i hi
    have e3 := pmix_length n (mapf g (ent A)) (ent A) i j
    have e4 : ((pmix n (mapf g (ent A)) (ent A) i j).getD i []).length = n := by rw [pmix_get _ _ _ _ _ hi, vec_length]
    refine Ev.step (fun k => ?_) (ih (j + 1) (by omega))
    simp only [lgmapped.l1]
    rw [if_pos (by omega), if_pos (by omega), if_pos (by omega), wr1 j (by omega), rdI]
    unfold line_never_int.f
    simp only [Option.bind_some]
    by_cases h : (A.getD i []).getD j 0 = NEV
    · rw [if_pos (show (A.getD i []).getD j 0 = -1152921504606846976 from h), pmix_skip _ _ _ _ _ (by unfold mapf; rw [if_pos (show ent A i j = NEV from h)]; exact h.symm)]
    · rw [if_neg (show ¬ (A.getD i []).getD j 0 = -1152921504606846976 from h), if_pos (by omega), if_pos (by omega), show G ((A.getD i []).getD j 0) = some (g (ent A i j)) from hG i j hi hj' h]
      simp only [Option.bind_some]
      rw [rdL, if_pos (by omega), toN, toN]
      have := pmix_set n (mapf g (ent A)) (ent A) i j hi
      rw [show mapf g (ent A) i j = g (ent A i j) from if_neg h] at this
      rw [this]
theorem mapped_l0 (hn : n ≤ 1000) (hA : IsMat n A) (hG : ∀ i j, i < n → j < n → ent A i j ≠ NEV → G (ent A i j) = some (g (ent A i j))) : ∀ d i, i + d = n →
    Ev (fun k => lgmapped.l0 G k (part n (mapf g (ent A)) i) A (n : Int) (i : Int)) (mat n (mapf g (ent A))) := by
  intro d
  induction d with
  | zero =>
    intro i hi
    obtain rfl : i = n := by omega
    refine ev_now fun k => ?_
    simp only [lgmapped.l0]
    rw [if_neg (by omega), part_all]
  | succ d ih =>
    intro i hi
    have hi' : i < n := by omega
    have e1 := hA.1
    have e2 := hA.2 i hi'
    have e3 := part_length n (mapf g (ent A)) i
    refine Ev.step (f := fun k => lgmapped.l1 G k (pmix n (mapf g (ent A)) (ent A) i 0) (i : Int) A (n : Int) (i : Int) (A.getD i []) (n : Int) ((0 : Nat) : Int)) (fun k => ?_) (mapped_l1 hn hA hG i hi' _ (ih (i + 1) (by omega)) n 0 (by omega))
    simp only [lgmapped.l0]
    rw [if_pos (by omega), if_pos (by omega), if_pos (by omega), rdL, show slices_Clone_int_int.f (A.getD i []) = some (A.getD i []) by unfold slices_Clone_int_int.f; simp only [Option.bind_some, List.length_nil, List.nil_append]; exact if_pos (by omega)]
    simp only [Option.bind_some]
    rw [if_pos (by omega), toN, e2, ← pmix_open]
    rw [show vec n (ent A i) = A.getD i [] by rw [← e2]; exact vec_ext rfl]
    rfl
theorem mapped_f (hn : n ≤ 1000) (hA : IsMat n A) (hG : ∀ i j, i < n → j < n → ent A i j ≠ NEV → G (ent A i j) = some (g (ent A i j))) : Ev (fun k => lgmapped.f G k A 0) (mat n (mapf g (ent A))) := by
  have e1 := hA.1
  unfold lgmapped.f
  refine Ev.congr (fun k => ?_) (mapped_l0 hn hA hG n 0 (by omega))
  rw [if_pos (by omega), toN, if_pos (by omega), e1, part_zero]
  rfl
end
theorem fwk_congr {n : Nat} {a b : Nat → Nat → Int} (h : ∀ i j, i < n → j < n → a i j = b i j) : ∀ k, k ≤ n → ∀ i j, i < n → j < n → fwk a k i j = fwk b k i j := by
  intro k
  induction k with
  | zero => intro _ i j hi hj; show max (onef i j) (a i j) = max (onef i j) (b i j); rw [h i j hi hj]
  | succ k ih =>
    intro hk i j hi hj
    show max (fwk a k i j) (pl (fwk a k i k) (fwk a k k j)) = max (fwk b k i j) (pl (fwk b k i k) (fwk b k k j))
    rw [ih (by omega) i j hi hj, ih (by omega) i k hi (by omega), ih (by omega) k j (by omega) hj]
theorem powf_congr {n : Nat} {a b : Nat → Nat → Int} (h : ∀ i j, i < n → j < n → a i j = b i j) : ∀ k, ∀ i j, i < n → j < n → powf n a k i j = powf n b k i j := by
  intro k
  induction k with
  | zero => intro i j _ _; rfl
  | succ k ih => intro i j hi hj; exact mul_congr (fun q hq => ih i q hi hq) (fun q hq => h q j hq hj)
theorem closed_mat {n : Nat} {M : Int} {a : Nat → Nat → Int} (hn : n ≤ 1000) (ha : BdM n n M a) (hM : 0 ≤ M) (hs : M * (n : Nat) < 1152921504606846976) (h2 : M * (2 ^ n : Nat) < 100000000000000000) (hp : NoPos n a) :
    Ev (fun q => lgclosed.f q (mat n a)) (mat n (fwk a n)) := by
  have em : ∀ i j, i < n → j < n → ent (mat n a) i j = a i j := fun i j hi hj => ent_mat _ hi hj
  have := closed_f (A := mat n a) hn (isMat_mat n a) (fun i j hi hj => by rw [em i j hi hj]; exact ha i j hi hj) hM hs h2 (fun k i hk hkn hi => by rw [powf_congr em k i i hi hi]; exact hp k i hk hkn hi)
  rwa [mat_congr fun i j hi hj => fwk_congr em n (by omega) i j hi hj] at this
def slackf (num den : Int) (a : Nat → Nat → Int) : Nat → Nat → Int := mapf (fun e => den * e - num) a
theorem den_mul {x d : Int} (h1 : -1000 ≤ x) (h2 : x ≤ 1000) (h3 : 0 < d) (h4 : d ≤ 6) : -6000 ≤ d * x ∧ d * x ≤ 6000 := by
  have : d = 1 ∨ d = 2 ∨ d = 3 ∨ d = 4 ∨ d = 5 ∨ d = 6 := by omega
  rcases this with rfl | rfl | rfl | rfl | rfl | rfl <;> omega
section
variable {n : Nat} {a : Nat → Nat → Int} {num den : Int} {B : Nat → Nat → Prop}
theorem slack_bd (ha : BdM n n 1000 a) (ht : Top n a B num den) : BdM n n 12000 (slackf num den a) := fun i j hi hj => by
  unfold slackf mapf
  by_cases h : a i j = NEV
  · rw [if_pos h]; exact .inl rfl
  · rw [if_neg h]
    have b := (ha i j hi hj).resolve_left h
    have := den_mul b.1 b.2 ht.den0 ht.den6
    have := ht.lo
    have := ht.hi
    show Bd 12000 (den * a i j - num)
    exact .inr (by omega)
theorem slack_nev {i j : Nat} (ha : Bd 1000 (a i j)) (ht : Top n a B num den) : slackf num den a i j = NEV ↔ a i j = NEV := by
  unfold slackf mapf
  constructor
  · intro h
    by_cases e : a i j = NEV
    · exact e
    · rw [if_neg e] at h
      replace h : den * a i j - num = NEV := h
      have b := ha.resolve_left e
      have := den_mul b.1 b.2 ht.den0 ht.den6
      have := ht.lo
      have := ht.hi
      have n1 : (NEV : Int) = -1152921504606846976 := rfl
      omega
  · intro h; rw [if_pos h]
theorem slack_wk (ha : BdM n n 1000 a) (ht : Top n a B num den) {v : Nat → Nat} {L : Nat} (h : Wk n (slackf num den a) v L) : Wk n a v L :=
  ⟨h.lt, fun t hl e => h.arc t hl ((slack_nev (ha _ _ (h.lt _ (by omega)) (h.lt _ (by omega))) ht).2 e)⟩
theorem slack_wt {v : Nat → Nat} : ∀ {L : Nat}, Wk n a v L → wt (slackf num den a) v L = den * wt a v L - num * (L : Nat) := by
  intro L
  induction L with
  | zero => intro _; simp [wt]
  | succ L ih =>
    intro h
    have e1 := ih (h.left (by omega))
    have e2 : slackf num den a (v (L + 1)) (v L) = den * a (v (L + 1)) (v L) - num := if_neg (h.arc L (by omega))
    show wt (slackf num den a) v L + slackf num den a (v (L + 1)) (v L) = den * (wt a v L + a (v (L + 1)) (v L)) - num * ((L + 1 : Nat) : Int)
    rw [e1, e2, Int.mul_add, Int.natCast_add, Int.mul_add]
    omega
theorem slack_nopos (hn : n ≤ 6) (ha : BdM n n 1000 a) (ht : Top n a (Seen n (n + 1) 0) num den) : NoPos n (slackf num den a) := by
  intro k i hk hkn hi
  by_cases e : powf n (slackf num den a) k i i = NEV
  · rw [e]; decide
  obtain ⟨v, hv, v0, vL, vw⟩ := pow_att k i i hi hi e
  have hv' := slack_wk ha ht hv
  have h1 := pow_ge ha (by omega) k v (by omega) hv'
  rw [v0, vL] at h1
  have h2 : powf n a k i i ≠ NEV := by
    have := (wt_bd ha hv').1
    intro e2
    rw [e2] at h1
    have n1 : (NEV : Int) = -1152921504606846976 := rfl
    omega
  have h3 := ht.top k i ⟨hk, hi, .inl (by omega)⟩ h2
  have h4 := Int.mul_le_mul_of_nonneg_right h1 (by have := ht.den0; omega : (0 : Int) ≤ den)
  rw [← vw, slack_wt hv', Int.mul_comm den]
  omega
end
theorem slack_f {n : Nat} {A : List (List Int)} (hA : Arg n A) {num den : Int} {B : Nat → Nat → Prop} (ht : Top n (ent A) B num den) : Ev (fun k => lgslack.f k A num den) (mat n (slackf num den (ent A))) := by
  have h6 := hA.six
  refine mapped_f (g := fun e => den * e - num) (by omega) hA.is fun i j hi hj hne => ?_
  have b := (hA.bd i j hi hj).resolve_left hne
  have := den_mul b.1 b.2 ht.den0 ht.den6
  have := ht.lo
  have := ht.hi
  unfold lgslack_1.f
  rw [wr (x := den * ent A i j) (by omega) (by omega), wr (by omega) (by omega)]
theorem looked_f {n : Nat} {A : List (List Int)} (hA : Arg n A) (ra : Rows A) :
    ((∀ k i, Seen n (n + 1) 0 k i → powf n (ent A) k i i = NEV) ∧ Ev (fun k => line_looked.f k A) ([], 0, 0, [], [], 10) ∧ ∃ x y, Ev (fun k => lgpace.f k A) (x, y, false)) ∨
    ∃ num den, Top n (ent A) (Seen n (n + 1) 0) num den ∧ Ev (fun k => lgpace.f k A) (num, den, true) ∧
      Ev (fun k => line_looked.f k A) (A, num, den, mat n (slackf num den (ent A)), mat n (fwk (slackf num den (ent A)) n), 0) := by
  have h6 := hA.six
  have eo := ((of_f A ra).resolve_right (fun h => h.1 ⟨n, hA⟩)).2
  obtain ⟨⟨num, den, f⟩, ep, hb⟩ := pace_f hA
  rcases hb with ⟨e, h⟩ | ⟨e, h⟩
  · obtain rfl : f = false := e
    refine .inl ⟨h, ?_, num, den, ep⟩
    unfold line_looked.f
    exact Ev.bind eo (Ev.congr (fun k => if_pos rfl) (Ev.bind ep (ev_some fun k => if_neg (by simp))))
  · obtain rfl : f = true := e
    refine .inr ⟨num, den, h, ep, ?_⟩
    have hbd := slack_bd hA.bd h
    have em : ∀ i j, i < n → j < n → ent (mat n (slackf num den (ent A))) i j = slackf num den (ent A) i j := fun i j hi hj => ent_mat _ hi hj
    have t6 : ((2 ^ n : Nat) : Int) ≤ 64 := by
      have : 2 ^ n ≤ 2 ^ 6 := Nat.pow_le_pow_right (by omega) h6
      omega
    have ec := closed_mat (n := n) (M := 12000) (by omega) hbd (by omega) (by omega) (by omega) (slack_nopos h6 hA.bd h)
    unfold line_looked.f
    exact Ev.bind eo (Ev.congr (fun k => if_pos rfl) (Ev.bind ep (Ev.congr (fun k => if_pos rfl) (Ev.bind (slack_f hA h) (Ev.bind ec (Ev.now _))))))
end Go.Proofs.Ythjmfbmffchicaa.Pure
end
section
namespace Go.Proofs.Ythjmfbmffchicaa.Mp
section
variable {n : Nat} {M : Int} {a : Nat → Nat → Int}
theorem star_bd (ha : BdM n n M a) (hM : 0 ≤ M) (h2 : M * (2 ^ n : Nat) < 100000000000000000) : BdM n n 100000000000000000 (fwk a n) := fun i j hi hj => (fwk_bd ha hM n (by omega) i j hi hj).mono (by omega)
theorem arc_star (i j : Nat) : a i j ≤ fwk a n i j := Int.le_trans (by unfold fw0; omega) (fwk_mono a i j n)
theorem star_step (ha : BdM n n M a) (hM : 0 ≤ M) (hs : M * (n : Nat) < 1152921504606846976) (hp : NoPos n a) (h2 : M * (2 ^ n : Nat) < 100000000000000000) (hM2 : M < 100000000000000000) (i k j : Nat) (hi : i < n) (hk : k < n) (hj : j < n) : pl (a i k) (fwk a n k j) ≤ fwk a n i j := by
  have B := star_bd ha hM h2
  exact Int.le_trans (pl_mono ((ha i k hi hk).mono (Int.le_of_lt hM2)) (B i k hi hk) (B k j hk hj) (B k j hk hj) (by omega) (arc_star i k) (Int.le_refl _)) (fwk_tr ha hM hs hp h2 n (by omega) k hk i j hi hj)
theorem walk_star (ha : BdM n n M a) (hM : 0 ≤ M) (hs : M * (n : Nat) < 1152921504606846976) (hp : NoPos n a) (h2 : M * (2 ^ n : Nat) < 100000000000000000) (hM2 : M < 100000000000000000) {v : Nat → Nat} : ∀ L, Wk n a v L → fwk a n (v L) (v 0) ≠ NEV ∧ wt a v L ≤ fwk a n (v L) (v 0) := by
  intro L
  induction L with
  | zero =>
    intro h
    rw [fwk_diag ha hM hs hp (by omega) (h.lt 0 (by omega))]
    exact ⟨by decide, Int.le_refl _⟩
  | succ L ih =>
    intro h
    have i1 := ih (h.left (by omega))
    have hstep := star_step ha hM hs hp h2 hM2 (v (L + 1)) (v L) (v 0) (h.lt _ (by omega)) (h.lt _ (by omega)) (h.lt _ (by omega))
    have harc := h.arc L (by omega)
    have b1 := ha (v (L + 1)) (v L) (h.lt _ (by omega)) (h.lt _ (by omega))
    have b2 := star_bd ha hM h2 (v L) (v 0) (h.lt _ (by omega)) (h.lt _ (by omega))
    have b3 := star_bd ha hM h2 (v (L + 1)) (v 0) (h.lt _ (by omega)) (h.lt _ (by omega))
    rw [show pl (a (v (L + 1)) (v L)) (fwk a n (v L) (v 0)) = a (v (L + 1)) (v L) + fwk a n (v L) (v 0) by unfold pl; rw [if_neg harc, if_neg i1.1]] at hstep
    have n1 : (NEV : Int) = -1152921504606846976 := rfl
    have c1 := b1.resolve_left harc
    have c2 := b2.resolve_left i1.1
    refine ⟨fun e => ?_, ?_⟩
    · rw [e] at hstep; omega
    · show wt a v L + a (v (L + 1)) (v L) ≤ _
      have := i1.2
      omega
end
end Go.Proofs.Ythjmfbmffchicaa.Mp
end
section
namespace Go.Proofs.Ythjmfbmffchicaa.Pure
open Go.RowKit Go.Proofs.Ythjmfbmffchicaa.V Go.Proofs.YthjmfbmffchicaaW.PrintWords Go.Proofs.YthjmfbmffchicaaW.PrintLast Go.Proofs.YthjmfbmffchicaaW.PrintMore
open Go.Proofs.Ythjmfbmffchicaa.Mp
theorem Contains_f (l : List Int) (hl : l.length ≤ 1000) (x : Int) : ∃ b, Ev (fun k => slices_Contains_int_int.f k l x) b ∧ (b = true ↔ ∃ j, j < l.length ∧ l.getD j 0 = x) := by
  obtain ⟨v, hv, hi⟩ := index_ev (fun k a b c => slices_Index_int_int.l0 k a x b c) (fun y => some (decide (x = y))) (fun y => decide (x = y)) (fun _ => rfl) (fun k x0 x7 x8 => by
    simp only [slices_Index_int_int.l0, Option.bind_some, decide_eq_true_eq]) l (by omega) l.length 0 (by omega)
  refine ⟨decide (v ≥ 0), Ev.bind hv (Ev.now _), ?_⟩
  rw [decide_eq_true_eq, ge_iff_le, hi]
  constructor
  · rintro ⟨j, _, h2, h3⟩; exact ⟨j, h2, (of_decide_eq_true h3).symm⟩
  · rintro ⟨j, h2, h3⟩; exact ⟨j, by omega, h2, decide_eq_true h3.symm⟩
theorem connIndex_l0 (A : List (List Int)) (n : Nat) (hn : n ≤ 1000) (hA : IsMat n A) : ∀ d i, i + d = n →
    ∃ v : Int, Ev (fun k => sifconnected_1.l0 k A (n : Int) (i : Int)) v ∧ (0 ≤ v ↔ ∃ p q, i ≤ p ∧ p < n ∧ q < n ∧ ent A p q = NEV) := by
  have hl := hA.1
  intro d
  induction d with
  | zero =>
    intro i hi
    refine ⟨-1, ev_now fun k => ?_, ⟨fun h => by omega, fun ⟨p, q, h1, h2, _⟩ => by omega⟩⟩
    simp only [sifconnected_1.l0]
    rw [if_neg (by omega)]
  | succ d ih =>
    intro i hi
    have hr := hA.2 i (by omega)
    obtain ⟨b, hb, hbi⟩ := Contains_f (A.getD i []) (by omega) (-1152921504606846976)
    have e : Ev (fun k => lgconnected_1.f k (A.getD i [])) b := by
      unfold lgconnected_1.f line_never_int.f
      simp only [Option.bind_some]
      exact Ev.bind hb (Ev.now _)
    have step : ∀ k, sifconnected_1.l0 (k + 1) A (n : Int) (i : Int) = (lgconnected_1.f k (A.getD i [])).bind fun t => if t = true then some (i : Int) else sifconnected_1.l0 k A (n : Int) ((i + 1 : Nat) : Int) := fun k => by
      simp only [sifconnected_1.l0]
      rw [if_pos (by omega), if_pos (by omega), if_pos (by omega), rdL, wr1 i (by omega)]
    by_cases h : b = true
    · obtain ⟨q, h1, h2⟩ := hbi.1 h
      exact ⟨i, Ev.step step (Ev.bind e (ev_some fun k => if_pos h)), ⟨fun _ => ⟨i, q, by omega, by omega, by omega, h2⟩, fun _ => by omega⟩⟩
    · obtain ⟨v, hv, hvi⟩ := ih (i + 1) (by omega)
      refine ⟨v, Ev.step step (Ev.bind e (Ev.congr (fun k => if_neg h) hv)), ?_⟩
      rw [hvi]
      constructor
      · rintro ⟨p, q, h1, h2⟩; exact ⟨p, q, by omega, h2⟩
      · rintro ⟨p, q, h1, h2, h3, h4⟩
        refine ⟨p, q, ?_, h2, h3, h4⟩
        by_cases e2 : p = i
        · subst e2; exact absurd (hbi.2 ⟨q, by omega, h4⟩) h
        · omega
def zerof (a : Nat → Nat → Int) : Nat → Nat → Int := mapf (fun _ => 0) a
theorem zero_bd (n : Nat) (a : Nat → Nat → Int) : BdM n n 0 (zerof a) := fun i j _ _ => by
  unfold zerof mapf
  split
  · exact .inl rfl
  · exact .inr ⟨(by decide : -(0 : Int) ≤ 0), (by decide : (0 : Int) ≤ 0)⟩
theorem zero_wt {n : Nat} {a : Nat → Nat → Int} {v : Nat → Nat} {L : Nat} (h : Wk n (zerof a) v L) : wt (zerof a) v L = 0 := by
  have := wt_bd (zero_bd n a) h
  omega
theorem zero_nopos (n : Nat) (a : Nat → Nat → Int) : NoPos n (zerof a) := by
  intro k i _ _ hi
  by_cases e : powf n (zerof a) k i i = NEV
  · rw [e]; decide
  · obtain ⟨v, hv, _, _, vw⟩ := pow_att k i i hi hi e
    rw [← vw, zero_wt hv]; decide
theorem connected_f {n : Nat} {A : List (List Int)} (hA : Arg n A) : ∃ b, Ev (fun k => lgconnected.f k A) b ∧ (b = true ↔ ∀ i j, i < n → j < n → fwk (zerof (ent A)) n i j ≠ NEV) := by
  have h6 := hA.six
  have e1 : Ev (fun k => lgmapped_reach_1.f k A 0) (mat n (zerof (ent A))) := mapped_f (g := fun _ => 0) (by omega) hA.is fun _ _ _ _ _ => rfl
  have e2 := closed_mat (n := n) (M := 0) (by omega) (zero_bd n (ent A)) (by omega) (by omega) (by omega) (zero_nopos n (ent A))
  obtain ⟨v, hv, hi⟩ := connIndex_l0 (mat n (fwk (zerof (ent A)) n)) n (by omega) (isMat_mat n _) n 0 (by omega)
  refine ⟨!(decide (v ≥ 0)), ?_, ?_⟩
  · unfold lgconnected.f lgreach.f
    refine Ev.bind (Ev.bind e1 (Ev.bind e2 (Ev.now _))) (Ev.bind (Ev.bind (f := fun _ t => some (decide (t ≥ 0))) ?_ (Ev.now _)) (Ev.now _))
    unfold sifconnected_1.f
    rw [mat_length]
    exact hv
  · rw [Bool.not_eq_true', decide_eq_false_iff_not]
    constructor
    · intro h i j hi' hj' e
      exact h (hi.2 ⟨i, j, by omega, hi', hj', by rw [ent_mat _ hi' hj']; exact e⟩)
    · intro h hv'
      obtain ⟨p, q, _, h2, h3, h4⟩ := hi.1 hv'
      rw [ent_mat _ h2 h3] at h4
      exact h p q h2 h3 h4
end Go.Proofs.Ythjmfbmffchicaa.Pure
end
section
namespace Go.Proofs.Ythjmfbmffchicaa.Pure
open Go.RowKit Go.Proofs.Ythjmfbmffchicaa.V Go.Proofs.YthjmfbmffchicaaW.PrintWords Go.Proofs.YthjmfbmffchicaaW.PrintLast Go.Proofs.YthjmfbmffchicaaW.PrintMore
open Go.Proofs.Ythjmfbmffchicaa.Mp
end Go.Proofs.Ythjmfbmffchicaa.Pure
end
section
namespace Go.Proofs.Ythjmfbmffchicaa.Pure
open Go.RowKit Go.Proofs.Ythjmfbmffchicaa.V Go.Proofs.YthjmfbmffchicaaW.PrintWords Go.Proofs.YthjmfbmffchicaaW.PrintLast Go.Proofs.YthjmfbmffchicaaW.PrintMore
open Go.Proofs.Ythjmfbmffchicaa.Mp
theorem pow6 {n : Nat} (h : n ≤ 6) : ((2 ^ n : Nat) : Int) ≤ 64 := by
  have : 2 ^ n ≤ 2 ^ 6 := Nat.pow_le_pow_right (by omega) h
  omega
end Go.Proofs.Ythjmfbmffchicaa.Pure
end
section
namespace Go.Proofs.Ythjmfbmffchicaa.Mp
structure Eig (n : Nat) (s : Nat → Nat → Int) (v : Nat → Int) : Prop where
  le : ∀ i k, i < n → k < n → s i k ≠ NEV → s i k + v k ≤ v i
  at_ : ∀ i, i < n → ∃ k, k < n ∧ s i k ≠ NEV ∧ s i k + v k = v i
section
variable {n : Nat} {M : Int} {a : Nat → Nat → Int}
end
end Go.Proofs.Ythjmfbmffchicaa.Mp
end
section
namespace Go.Proofs.Ythjmfbmffchicaa.Pure
open Go.RowKit Go.Proofs.Ythjmfbmffchicaa.V Go.Proofs.YthjmfbmffchicaaW.PrintWords Go.Proofs.YthjmfbmffchicaaW.PrintLast Go.Proofs.YthjmfbmffchicaaW.PrintMore
open Go.Proofs.Ythjmfbmffchicaa.Mp
def Conn (n : Nat) (a : Nat → Nat → Int) : Prop := ∀ i j, i < n → j < n → ∃ L v, Wk n a v L ∧ v 0 = j ∧ v L = i
theorem zero_wk {n : Nat} {a : Nat → Nat → Int} {v : Nat → Nat} {L : Nat} : Wk n (zerof a) v L ↔ Wk n a v L := by
  have e : ∀ i j, zerof a i j = NEV ↔ a i j = NEV := fun i j => by
    unfold zerof mapf
    by_cases h : a i j = NEV
    · rw [if_pos h]; exact ⟨fun _ => h, fun _ => rfl⟩
    · rw [if_neg h]; exact ⟨fun h2 => absurd (show (0 : Int) = NEV from h2) (by decide), fun h2 => absurd h2 h⟩
  exact ⟨fun h => ⟨h.lt, fun t ht h2 => h.arc t ht ((e _ _).2 h2)⟩, fun h => ⟨h.lt, fun t ht h2 => h.arc t ht ((e _ _).1 h2)⟩⟩
theorem conn_iff {n : Nat} (_hn : n ≤ 6) (a : Nat → Nat → Int) : (∀ i j, i < n → j < n → fwk (zerof a) n i j ≠ NEV) ↔ Conn n a := by
  have hz : BdM n n 0 (zerof a) := zero_bd n a
  constructor
  · intro h i j hi hj
    rcases fwk_att (a := zerof a) n (by omega) i j hi hj with e | ⟨L, v, hv, v0, vL, _⟩
    · exact absurd e (h i j hi hj)
    · exact ⟨L, v, zero_wk.1 hv, v0, vL⟩
  · intro h i j hi hj
    obtain ⟨L, v, hv, v0, vL⟩ := h i j hi hj
    have := (walk_star hz (by omega) (by omega) (zero_nopos n a) (by omega) (by omega) L (zero_wk.2 hv)).1
    rwa [v0, vL] at this
structure EigIs (n : Nat) (a : Nat → Nat → Int) (num den : Int) (c : Nat) (m : Int) : Prop where
  top : Top n a (Seen n (n + 1) 0) num den
  conn : Conn n a
  lt : c < n
  head : rd (critL n (slackf num den a) (fwk (slackf num den a) n) n) 0 = (c : Int)
  crit : ∃ j, j < n ∧ pl (slackf num den a c j) (fwk (slackf num den a) n j c) = 0
  le : ∀ i, i < n → m ≤ fwk (slackf num den a) n i c
  mem : ∃ i, i < n ∧ m = fwk (slackf num den a) n i c
theorem eig_bd {n : Nat} (hn : n ≤ 6) {a : Nat → Nat → Int} (ha : BdM n n 1000 a) {num den : Int} (ht : Top n a (Seen n (n + 1) 0) num den) : BdM n n 768000 (fwk (slackf num den a) n) := fun i j hi hj => by
  have t6 := pow6 hn
  exact (fwk_bd (slack_bd ha ht) (by omega) n (by omega) i j hi hj).mono (by omega)
end Go.Proofs.Ythjmfbmffchicaa.Pure
end
section
namespace Go.Proofs.Ythjmfbmffchicaa.Pure
open Go.RowKit Go.Proofs.Ythjmfbmffchicaa.V Go.Proofs.YthjmfbmffchicaaW.PrintWords Go.Proofs.YthjmfbmffchicaaW.PrintLast
open Go.Proofs.Ythjmfbmffchicaa.Mp
theorem Product_eq : ∀ k, (∀ a b c d, r5Product.l0 k a b c d = l5product.l0 k a b c d) ∧ (∀ a b c d e f, r5Product.l1 k a b c d e f = l5product.l1 k a b c d e f) ∧ (∀ a b c d e f g h, r5Product.l2 k a b c d e f g h = l5product.l2 k a b c d e f g h)
  | 0 => ⟨fun _ _ _ _ => by simp only [r5Product.l0, l5product.l0], fun _ _ _ _ _ _ => by simp only [r5Product.l1, l5product.l1], fun _ _ _ _ _ _ _ _ => by simp only [r5Product.l2, l5product.l2]⟩
  | k + 1 => by
    obtain ⟨i0, i1, i2⟩ := Product_eq k
    have hp : ∀ a b, r5plus.f a b = l5plus.f a b := fun _ _ => rfl
    refine ⟨fun a b c d => ?_, fun a b c d e f => ?_, fun a b c d e f g h => ?_⟩
    · simp only [r5Product.l0, l5product.l0, i1]
    · simp only [r5Product.l1, l5product.l1, i0, i2]
    · simp only [r5Product.l2, l5product.l2, i1, i2, hp]
theorem Product_mat {n : Nat} (hn : n ≤ 1000) {M N : Int} {a b : Nat → Nat → Int} (ha : BdM n n M a) (hb : BdM n n N b) (hMN : M + N < 1152921504606846976) (hM : 0 ≤ M) (hN : 0 ≤ N) :
    Ev (fun k => r5Product.f k (mat n a) (mat n b)) (mat n (mulf n a b)) :=
  Ev.congr (fun k => (Product_eq k).1 _ _ _ _) (product_mat hn ha hb hMN hM hN)
def rowp (i n j : Nat) : List Int := vec n (fun b => if b < j then onef i b else 0)
theorem rowp_set (i n j : Nat) (e : i ≠ j) : (rowp i n j).set j NEV = rowp i n (j + 1) := by
  refine range_map_set n _ _ j _ (fun _ => ?_) (fun b _ hb => ?_)
  · rw [if_pos (by omega)]; unfold onef; rw [if_neg e]
  · by_cases h : b < j
    · rw [if_pos h, if_pos (by omega)]
    · rw [if_neg h, if_neg (by omega)]
theorem rowp_skip (i n : Nat) : rowp i n i = rowp i n (i + 1) := vec_congr fun b _ => by
  by_cases h : b < i
  · rw [if_pos h, if_pos (by omega)]
  · rw [if_neg h]
    by_cases e : b = i
    · rw [if_pos (by omega)]; unfold onef; rw [if_pos e.symm]
    · rw [if_neg (by omega)]
theorem rowp_zero (i n : Nat) : List.replicate n 0 = rowp i n 0 := by
  unfold rowp vec
  rw [show (fun b : Nat => if b < 0 then onef i b else 0) = fun _ => (0 : Int) from funext fun b => if_neg (by omega), List.map_const', List.length_range]
theorem rowp_all (i n : Nat) : rowp i n n = vec n (onef i) := vec_congr fun _ hb => if_pos hb
theorem One_l1 (n : Nat) (hn : n ≤ 1000) (i : Nat) (hi : i < n) (r : List (List Int))
    (hr : Ev (fun k => r5One.l0 k (n : Int) ((List.range (i + 1)).map fun a => vec n (onef a)) ((i + 1 : Nat) : Int)) r) :
    ∀ d j, j + d = n → Ev (fun k => r5One.l1 k (n : Int) ((List.range i).map fun a => vec n (onef a)) (i : Int) (rowp i n j) (j : Int)) r := by
  intro d
  induction d with
  | zero =>
    intro j hj
    refine Ev.step (f := fun k => r5One.l0 k (n : Int) ((List.range (i + 1)).map fun a => vec n (onef a)) ((i + 1 : Nat) : Int)) (fun k => ?_) hr
    simp only [r5One.l1]
    rw [if_neg (by omega), wr1 i (by omega), show j = n by omega, rowp_all, if_pos (by rw [List.length_map, List.length_range]; omega), rowsof_succ]
  | succ d ih =>
    intro j hj
    refine Ev.step (f := fun k => r5One.l1 k (n : Int) ((List.range i).map fun a => vec n (onef a)) (i : Int) (rowp i n (j + 1)) ((j + 1 : Nat) : Int)) (fun k => ?_) (ih (j + 1) (by omega))
    simp only [r5One.l1]
    rw [if_pos (by omega), wr1 j (by omega)]
    by_cases e : i = j
    · subst e
      rw [if_pos rfl, rowp_skip]
    · rw [if_neg (by omega), if_pos (by omega), show (rowp i n j).length = n from vec_length _ _, if_pos (by omega), toN, show (-1152921504606846976 : Int) = NEV from rfl, rowp_set i n j e]
theorem One_l0 (n : Nat) (hn : n ≤ 1000) : ∀ d i, i + d = n → Ev (fun k => r5One.l0 k (n : Int) ((List.range i).map fun a => vec n (onef a)) (i : Int)) (mat n onef) := by
  intro d
  induction d with
  | zero =>
    intro i hi
    obtain rfl : i = n := by omega
    refine ev_now (fun k => ?_)
    simp only [r5One.l0]
    rw [if_neg (by omega)]
    rfl
  | succ d ih =>
    intro i hi
    refine Ev.step (f := fun k => r5One.l1 k (n : Int) ((List.range i).map fun a => vec n (onef a)) (i : Int) (rowp i n 0) ((0 : Nat) : Int)) (fun k => ?_) (One_l1 n hn i (by omega) _ (ih (i + 1) (by omega)) n 0 (by omega))
    simp only [r5One.l0]
    rw [if_pos (by omega), if_pos (by omega), toN, if_pos (by omega), rowp_zero i]
    rfl
theorem One_f (n : Nat) (hn : n ≤ 1000) : Ev (fun k => r5One.f k (n : Int)) (mat n onef) := One_l0 n hn n 0 (by omega)
def From (r : List Int) (j : Nat) : Prop := ∀ q, j ≤ q → q < r.length → oddB (-1000) 1000 (r.getD q 0) = false
theorem Matrix_l1 (A : List (List Int)) (n : Nat) (hn : n ≤ 6) (hA : A.length = n) (i : Nat) (hi : i < n) (hr : (A.getD i []).length = n) (b : Bool)
    (hb : Ev (fun k => r5Matrix.l0 k A (n : Int) ((i + 1 : Nat) : Int)) b) : ∀ d j, j + d = n →
    (From (A.getD i []) j ∧ Ev (fun k => r5Matrix.l1 k A (n : Int) (i : Int) (j : Int)) b) ∨ (¬ From (A.getD i []) j ∧ Ev (fun k => r5Matrix.l1 k A (n : Int) (i : Int) (j : Int)) false) := by
  intro d
  induction d with
  | zero =>
    intro j hj
    refine .inl ⟨fun q h1 h2 => by omega, Ev.step (fun k => ?_) hb⟩
    simp only [r5Matrix.l1]
    rw [if_neg (by omega), wr1 i (by omega)]
  | succ d ih =>
    intro j hj
    have step : ∀ k, r5Matrix.l1 (k + 1) A (n : Int) (i : Int) (j : Int) = if oddB (-1000) 1000 ((A.getD i []).getD j 0) = true then some false else r5Matrix.l1 k A (n : Int) (i : Int) ((j + 1 : Nat) : Int) := by
      intro k
      simp only [r5Matrix.l1]
      rw [if_pos (by omega), if_pos (by omega), if_pos (by omega), if_pos (by omega), rdL, rdI, if_pos (by omega), wr1 j (by omega)]
      unfold oddB
      rw [show (-1152921504606846976 : Int) = NEV from rfl]
      by_cases e : (A.getD i []).getD j 0 = NEV
      · rw [if_pos e, if_neg (by rw [decide_eq_true_iff]; exact fun h => h.1 e)]
      · rw [if_neg e]
        by_cases e1 : (A.getD i []).getD j 0 < -1000
        · rw [if_pos e1, if_pos (by rw [decide_eq_true_iff]; exact ⟨e, .inl e1⟩)]
        · rw [if_neg e1]
          by_cases e2 : (A.getD i []).getD j 0 > 1000
          · rw [if_pos e2, if_pos (by rw [decide_eq_true_iff]; exact ⟨e, .inr e2⟩)]
          · rw [if_neg e2, if_neg (by rw [decide_eq_true_iff]; exact fun h => h.2.elim e1 e2)]
    by_cases ho : oddB (-1000) 1000 ((A.getD i []).getD j 0) = true
    · refine .inr ⟨fun hf => ?_, Ev.step (f := fun _ => some false) (fun k => by rw [step, if_pos ho]) (Ev.now _)⟩
      have := hf j (by omega) (by omega)
      rw [ho] at this; cases this
    · rcases ih (j + 1) (by omega) with ⟨h1, h2⟩ | ⟨h1, h2⟩
      · refine .inl ⟨fun q hq hq2 => ?_, Ev.step (fun k => by rw [step, if_neg ho]) h2⟩
        by_cases e : q = j
        · subst e; exact Bool.eq_false_iff.2 ho
        · exact h1 q (by omega) hq2
      · exact .inr ⟨fun hf => h1 fun q hq hq2 => hf q (by omega) hq2, Ev.step (fun k => by rw [step, if_neg ho]) h2⟩
theorem Matrix_l0 (A : List (List Int)) (n : Nat) (hn : n ≤ 6) (hA : A.length = n) : ∀ d i, i + d = n →
    (RowsOk A i ∧ Ev (fun k => r5Matrix.l0 k A (n : Int) (i : Int)) true) ∨ (¬ RowsOk A i ∧ Ev (fun k => r5Matrix.l0 k A (n : Int) (i : Int)) false) := by
  intro d
  induction d with
  | zero =>
    intro i hi
    refine .inl ⟨fun j h1 h2 => by omega, ev_now (fun k => ?_)⟩
    simp only [r5Matrix.l0]
    rw [if_neg (by omega)]
  | succ d ih =>
    intro i hi
    by_cases hr : (A.getD i []).length = n
    · have go : ∀ b, Ev (fun k => r5Matrix.l1 k A (n : Int) (i : Int) ((0 : Nat) : Int)) b → Ev (fun k => r5Matrix.l0 k A (n : Int) (i : Int)) b := fun b h => Ev.step (fun k => by
        simp only [r5Matrix.l0]
        rw [if_pos (by omega), if_pos (by omega), if_pos (by omega), rdL, if_pos (by omega)]
        rfl) h
      rcases ih (i + 1) (by omega) with ⟨h1, h2⟩ | ⟨h1, h2⟩
      · rcases Matrix_l1 A n hn hA i (by omega) hr _ h2 n 0 (by omega) with ⟨g1, g2⟩ | ⟨g1, g2⟩
        · refine .inl ⟨fun j hj hj2 => ?_, go _ g2⟩
          by_cases e : j = i
          · subst e; exact ⟨by omega, fun q hq => g1 q (by omega) hq⟩
          · exact h1 j (by omega) hj2
        · exact .inr ⟨fun hh => g1 fun q _ hq => (hh i (by omega) (by omega)).2 q hq, go _ g2⟩
      · rcases Matrix_l1 A n hn hA i (by omega) hr _ h2 n 0 (by omega) with ⟨g1, g2⟩ | ⟨g1, g2⟩
        · exact .inr ⟨fun hh => h1 fun j hj hj2 => hh j (by omega) hj2, go _ g2⟩
        · exact .inr ⟨fun hh => h1 fun j hj hj2 => hh j (by omega) hj2, go _ g2⟩
    · refine .inr ⟨fun hh => hr (by rw [(hh i (by omega) (by omega)).1, hA]), ev_now (fun k => ?_)⟩
      simp only [r5Matrix.l0]
      rw [if_pos (by omega), if_pos (by omega), if_pos (by omega), rdL, if_neg (by omega)]
theorem Matrix_f (A : List (List Int)) : ((∃ n, Arg n A) ∧ Ev (fun k => r5Matrix.f k A) true) ∨ ((¬ ∃ n, Arg n A) ∧ Ev (fun k => r5Matrix.f k A) false) := by
  have no : Ev (fun k => r5Matrix.j0 k A (A.length : Int) true) false := ev_now fun k => by simp only [r5Matrix.j0]; exact if_pos trivial
  by_cases h1 : 1 ≤ A.length
  · by_cases h6 : A.length ≤ 6
    · have go : ∀ b, Ev (fun k => r5Matrix.l0 k A (A.length : Int) ((0 : Nat) : Int)) b → Ev (fun k => r5Matrix.f k A) b := fun b h => by
        unfold r5Matrix.f
        refine Ev.congr (f := fun k => r5Matrix.j0 k A (A.length : Int) false) (fun k => ?_) (Ev.step (fun k => ?_) h)
        · rw [if_neg (by omega), decide_eq_false (by omega)]
        · simp only [r5Matrix.j0]; rw [if_neg (by decide)]; rfl
      rcases Matrix_l0 A A.length h6 rfl A.length 0 (by omega) with ⟨g1, g2⟩ | ⟨g1, g2⟩
      · exact .inl ⟨(arg_iff A).2 ⟨h1, h6, g1⟩, go _ g2⟩
      · exact .inr ⟨fun h => g1 ((arg_iff A).1 h).2.2, go _ g2⟩
    · refine .inr ⟨fun h => h6 ((arg_iff A).1 h).2.1, Ev.congr (fun k => ?_) no⟩
      unfold r5Matrix.f
      rw [if_neg (by omega), decide_eq_true (by omega)]
  · refine .inr ⟨fun h => h1 ((arg_iff A).1 h).1, Ev.congr (fun k => ?_) no⟩
    unfold r5Matrix.f
    rw [if_pos (by omega)]
end Go.Proofs.Ythjmfbmffchicaa.Pure
end
section
namespace Go.Proofs.Ythjmfbmffchicaa.Mp
def Go (n : Nat) (a : Nat → Nat → Int) (j i L : Nat) (x : Int) : Prop := ∃ v, Wk n a v L ∧ v 0 = j ∧ v L = i ∧ wt a v L = x
section
variable {n : Nat} {M : Int} {a : Nat → Nat → Int}
theorem Go.le_pow (ha : BdM n n M a) (hM : 0 ≤ M) {j i L : Nat} {x : Int} (hs : M * (L : Nat) < 1152921504606846976) (h : Go n a j i L x) : powf n a L i j ≠ NEV ∧ x ≤ powf n a L i j := by
  obtain ⟨v, hv, rfl, rfl, rfl⟩ := h
  have h1 := pow_ge ha hM L v hs hv
  have h2 := wt_bd ha hv
  have n1 : (NEV : Int) = -1152921504606846976 := rfl
  exact ⟨fun e => by rw [e] at h1; omega, h1⟩
theorem Go.red (ha : BdM n n M a) (hM : 0 ≤ M) (hs : M * (n : Nat) < 1152921504606846976) (hp : NoPos n a) (q : Nat) (hq : 1 ≤ q) {j i : Nat} : ∀ (L : Nat) {x : Int}, Go n a j i L x →
    ∃ K y, Go n a j i K y ∧ K < n * q ∧ x ≤ y ∧ K ≤ L ∧ ∃ t, L = K + q * t := by
  intro L
  induction L using Nat.strongRecOn with
  | ind L ih =>
    intro x h
    by_cases hL : L < n * q
    · exact ⟨L, x, h, hL, Int.le_refl _, Nat.le_refl _, 0, by omega⟩
    · obtain ⟨v, hv, v0, vL, vw⟩ := h
      obtain ⟨p, p', hpp, hp', e⟩ := php (n * q) (fun t => v t * q + t % q) (fun t ht => by
        have h1 := hv.lt t (by omega)
        have h2 : t % q < q := Nat.mod_lt _ hq
        have h3 : (v t + 1) * q ≤ n * q := Nat.mul_le_mul_right q h1
        rw [Nat.add_mul] at h3
        show v t * q + t % q < n * q
        omega)
      have hm1 : p % q < q := Nat.mod_lt _ hq
      have hm2 : p' % q < q := Nat.mod_lt _ hq
      replace e : v p * q + p % q = v p' * q + p' % q := e
      have em : p % q = p' % q := by
        have h1 : (v p * q + p % q) % q = p % q := by rw [Nat.mul_add_mod_self_right, Nat.mod_eq_of_lt hm1]
        have h2 : (v p' * q + p' % q) % q = p' % q := by rw [Nat.mul_add_mod_self_right, Nat.mod_eq_of_lt hm2]
        rw [← h1, e, h2]
      have ev : v p = v p' := Nat.eq_of_mul_eq_mul_right (by omega : 0 < q) (by omega)
      obtain ⟨d, rfl⟩ : ∃ d, p' = p + d := ⟨p' - p, by omega⟩
      obtain ⟨r, rfl⟩ : ∃ r, L = p + d + r := ⟨L - (p + d), by omega⟩
      obtain ⟨t, ht⟩ : ∃ t, d = q * t := by
        have h1 := Nat.div_add_mod p q
        have h2 := Nat.div_add_mod (p + d) q
        refine ⟨(p + d) / q - p / q, ?_⟩
        rw [Nat.mul_sub]
        omega
      have hm : Wk n a (fun t => v (t + p)) d := Wk.shift (hv.left (by omega))
      have hc := closed_le ha hM hs hp d (fun t => v (t + p)) hm (by show v (0 + p) = v (d + p); rw [Nat.zero_add, Nat.add_comm d p]; exact ev)
      have hw := cutw_wt (a := a) (r := r) ev
      obtain ⟨K, y, hK, hlt, hxy, hKL, t2, ht2⟩ := ih (p + r) (by omega) (x := wt a (cutw v p d) (p + r)) ⟨cutw v p d, cutw_wk hv ev, by rw [cutw_zero, v0], by rw [cutw_end ev, vL], rfl⟩
      refine ⟨K, y, hK, hlt, by omega, by omega, t + t2, ?_⟩
      rw [Nat.mul_add, ← ht]
      omega
end
def Z (n : Nat) (a : Nat → Nat → Int) (u L : Nat) : Prop := Go n a u u L 0
def OnZ (n : Nat) (a : Nat → Nat → Int) (u : Nat) : Prop := ∃ L, 1 ≤ L ∧ Z n a u L
structure IsPer (n : Nat) (a : Nat → Nat → Int) (c : Nat) : Prop where
  pos : 1 ≤ c
  iff : ∀ x, c ∣ x ↔ ∀ u, OnZ n a u → ∀ d, (∀ L, Z n a u L → d ∣ L) → d ∣ x
theorem least_nat {P : Nat → Prop} : (∃ r, P r) → ∃ r, P r ∧ ∀ s, s < r → ¬ P s := by
  intro ⟨r, hr⟩
  induction r using Nat.strongRecOn with
  | ind r ih =>
    by_cases h : ∃ s, s < r ∧ P s
    · obtain ⟨s, h1, h2⟩ := h; exact ih s h1 h2
    · exact ⟨r, hr, fun s h1 h2 => h ⟨s, h1, h2⟩⟩
section
variable {n : Nat} {a : Nat → Nat → Int}
end
end Go.Proofs.Ythjmfbmffchicaa.Mp
end
section
namespace Go.Proofs.Ythjmfbmffchicaa.Mp
section
variable {n : Nat} {a : Nat → Nat → Int}
end
end Go.Proofs.Ythjmfbmffchicaa.Mp
end
section
namespace Go.Proofs.Ythjmfbmffchicaa.Mp
structure Pre (n : Nat) (a : Nat → Nat → Int) (w : List Nat) : Prop where
  ne : 0 < w.length
  lt : ∀ t, t < w.length → w.getD t 0 < n
  inj : ∀ s t, s < w.length → t < w.length → w.getD s 0 = w.getD t 0 → s = t
  low : ∀ t, t < w.length → w.getD 0 0 ≤ w.getD t 0
  arc : ∀ t, t + 1 < w.length → a (w.getD (t + 1) 0) (w.getD t 0) ≠ NEV
structure Cy (n : Nat) (a : Nat → Nat → Int) (w : List Nat) : Prop where
  pre : Pre n a w
  last : a (w.getD 0 0) (w.getD (w.length - 1) 0) ≠ NEV
def cyc (c : List Nat) (t : Nat) : Nat := c.getD (t % c.length) 0
theorem cyc_lt {c : List Nat} {t : Nat} (h : t < c.length) : cyc c t = c.getD t 0 := by unfold cyc; rw [Nat.mod_eq_of_lt h]
theorem cyc_len {c : List Nat} : cyc c c.length = c.getD 0 0 := by unfold cyc; rw [Nat.mod_self]
theorem cyc_zero (c : List Nat) : cyc c 0 = c.getD 0 0 := by unfold cyc; rw [Nat.zero_mod]
theorem getD_append_left' {w x : List Nat} {t : Nat} (h : t < w.length) : (w ++ x).getD t 0 = w.getD t 0 := by
  rw [List.getD_eq_getElem?_getD, List.getD_eq_getElem?_getD, List.getElem?_append_left h]
theorem getD_append_at {w : List Nat} {x : Nat} {y : List Nat} : (w ++ x :: y).getD w.length 0 = x := by
  rw [List.getD_eq_getElem?_getD, List.getElem?_append_right (Nat.le_refl _), Nat.sub_self]; rfl
section
variable {n : Nat} {a : Nat → Nat → Int}
theorem Cy.wk {c : List Nat} (h : Cy n a c) : Wk n a (cyc c) c.length := by
  have hp := h.pre
  refine ⟨fun t _ => hp.lt _ (Nat.mod_lt _ hp.ne), fun t ht => ?_⟩
  rw [cyc_lt ht]
  by_cases e : t + 1 < c.length
  · rw [cyc_lt e]; exact hp.arc t e
  · have e2 : t + 1 = c.length := by omega
    rw [e2, cyc_len]
    have := h.last
    rwa [show c.length - 1 = t by omega] at this
theorem Cy.len {c : List Nat} (h : Cy n a c) : c.length ≤ n := by
  by_cases e : c.length ≤ n
  · exact e
  · obtain ⟨p, q, hpq, hq, he⟩ := php n (fun t => c.getD t 0) (fun t ht => h.pre.lt t (by omega))
    have := h.pre.inj p q (by omega) (by omega) he
    omega
theorem Pre.snoc {w : List Nat} (h : Pre n a w) {x : Nat} (hx : x < n) (h1 : w.getD 0 0 ≤ x) (h2 : ∀ t, t < w.length → w.getD t 0 ≠ x) (h3 : a x (w.getD (w.length - 1) 0) ≠ NEV) : Pre n a (w ++ [x]) := by
  have l : (w ++ [x]).length = w.length + 1 := by simp
  have g1 : ∀ t, t < w.length → (w ++ [x]).getD t 0 = w.getD t 0 := fun t ht => getD_append_left' ht
  have g2 : (w ++ [x]).getD w.length 0 = x := getD_append_at
  have ne := h.ne
  refine ⟨by omega, fun t ht => ?_, fun s t hs ht e => ?_, fun t ht => ?_, fun t ht => ?_⟩
  · by_cases e : t < w.length
    · rw [g1 t e]; exact h.lt t e
    · rw [show t = w.length by omega, g2]; exact hx
  · by_cases e1 : s < w.length
    · by_cases e2 : t < w.length
      · rw [g1 s e1, g1 t e2] at e; exact h.inj s t e1 e2 e
      · rw [g1 s e1, show t = w.length by omega, g2] at e; exact absurd e (h2 s e1)
    · by_cases e2 : t < w.length
      · rw [g1 t e2, show s = w.length by omega, g2] at e; exact absurd e.symm (h2 t e2)
      · omega
  · rw [g1 0 ne]
    by_cases e : t < w.length
    · rw [g1 t e]; exact h.low t e
    · rw [show t = w.length by omega, g2]; exact h1
  · by_cases e : t + 1 < w.length
    · rw [g1 _ e, g1 t (by omega)]; exact h.arc t e
    · rw [show t + 1 = w.length by omega, g2, g1 t (by omega)]
      rwa [show w.length - 1 = t by omega] at h3
def rot (v : Nat → Nat) (L m : Nat) (t : Nat) : Nat := v ((t + m) % L)
theorem rot_wt {v : Nat → Nat} {L m : Nat} (hm : m < L) (e : v 0 = v L) : wt a (rot v L m) L = wt a v L := by
  obtain ⟨r, rfl⟩ : ∃ r, L = m + r := ⟨L - m, by omega⟩
  have e1 : wt a (rot v (m + r) m) r = wt a (fun t => v (t + m)) r := wt_congr fun t ht => by
    unfold rot
    by_cases h : t = r
    · subst h; rw [Nat.add_comm t m, Nat.mod_self, e]
    · rw [Nat.mod_eq_of_lt (by omega)]
  have e2 : wt a (fun t => rot v (m + r) m (t + r)) m = wt a v m := wt_congr fun t ht => by
    show v ((t + r + m) % (m + r)) = v t
    rw [show t + r + m = t + (m + r) by omega, Nat.add_mod_right, Nat.mod_eq_of_lt (by omega)]
  rw [Nat.add_comm m r, wt_add, Nat.add_comm r m, e1, e2, wt_add a v m r]
  omega
theorem rot_wk {v : Nat → Nat} {L m : Nat} (h : Wk n a v L) (hL : 1 ≤ L) (e : v 0 = v L) : Wk n a (rot v L m) L := by
  refine ⟨fun t _ => h.lt _ (Nat.le_of_lt (Nat.mod_lt _ hL)), fun t _ => ?_⟩
  unfold rot
  have hlt : (t + m) % L < L := Nat.mod_lt _ hL
  rw [show t + 1 + m = (t + m) + 1 by omega, Nat.add_mod]
  by_cases e1 : (t + m) % L + 1 < L
  · have : ((t + m) % L + 1 % L) % L = (t + m) % L + 1 := by
      rw [Nat.mod_eq_of_lt (show 1 < L by omega), Nat.mod_eq_of_lt e1]
    rw [this]
    exact h.arc _ hlt
  · have e2 : (t + m) % L + 1 = L := by omega
    have : ((t + m) % L + 1 % L) % L = 0 := by
      by_cases h1 : L = 1
      · subst h1; omega
      · rw [Nat.mod_eq_of_lt (show 1 < L by omega), e2, Nat.mod_self]
    rw [this, e, show (L : Nat) = (t + m) % L + 1 from e2.symm]
    have := h.arc _ hlt
    rw [← e2] at this
    simpa [e2] using this
end
end Go.Proofs.Ythjmfbmffchicaa.Mp
end
section
namespace Go.Proofs.Ythjmfbmffchicaa.Mp
section
variable {n : Nat} {a : Nat → Nat → Int}
theorem cy_of {v : Nat → Nat} {L : Nat} (h : Wk n a v L) (hL : 1 ≤ L) (e : v 0 = v L) (hd : ∀ s t, s < L → t < L → v s = v t → s = t) :
    ∃ c, Cy n a c ∧ c.length = L ∧ wt a (cyc c) L = wt a v L ∧ ∀ t, t < L → ∃ s, s < L ∧ c.getD s 0 = v t := by
  obtain ⟨x, ⟨m, hm, hx⟩, hmin⟩ := least_nat (P := fun x => ∃ m, m < L ∧ v m = x) ⟨v 0, 0, by omega, rfl⟩
  have hle : ∀ t, t < L → v m ≤ v t := fun t ht => by
    by_cases e1 : v m ≤ v t
    · exact e1
    · exact absurd ⟨t, ht, rfl⟩ (hmin (v t) (by omega))
  have lc : ((List.range L).map (rot v L m)).length = L := by simp
  have gc : ∀ t, t < L → ((List.range L).map (rot v L m)).getD t 0 = rot v L m t := fun t ht => by
    rw [List.getD_eq_getElem?_getD, List.getElem?_map, List.getElem?_range ht]; rfl
  have hw := rot_wk (m := m) h hL e
  have hlt : ∀ t, (t + m) % L < L := fun t => Nat.mod_lt _ hL
  have r0 : rot v L m 0 = v m := by unfold rot; rw [Nat.zero_add, Nat.mod_eq_of_lt hm]
  have rL : rot v L m L = rot v L m 0 := by unfold rot; rw [Nat.zero_add, Nat.add_mod_left]
  refine ⟨(List.range L).map (rot v L m), ⟨⟨by omega, fun t ht => ?_, fun s t hs ht he => ?_, fun t ht => ?_, fun t ht => ?_⟩, ?_⟩, lc, ?_, fun t ht => ?_⟩
  · rw [lc] at ht; rw [gc t ht]; exact hw.lt t (by omega)
  · rw [lc] at hs ht
    rw [gc s hs, gc t ht] at he
    have := hd _ _ (hlt s) (hlt t) he
    have e1 : (s + m) % L = if s + m < L then s + m else s + m - L := by
      by_cases h1 : s + m < L
      · rw [if_pos h1, Nat.mod_eq_of_lt h1]
      · rw [if_neg h1, Nat.mod_eq_sub_mod (by omega), Nat.mod_eq_of_lt (by omega)]
    have e2 : (t + m) % L = if t + m < L then t + m else t + m - L := by
      by_cases h1 : t + m < L
      · rw [if_pos h1, Nat.mod_eq_of_lt h1]
      · rw [if_neg h1, Nat.mod_eq_sub_mod (by omega), Nat.mod_eq_of_lt (by omega)]
    rw [e1, e2] at this
    split at this <;> split at this <;> omega
  · rw [lc] at ht
    rw [gc t ht, gc 0 (by omega), r0]
    exact hle _ (hlt t)
  · rw [lc] at ht
    rw [gc _ ht, gc t (by omega)]
    exact hw.arc t (by omega)
  · rw [lc, gc 0 (by omega), gc (L - 1) (by omega), ← rL]
    have := hw.arc (L - 1) (by omega)
    rwa [show L - 1 + 1 = L by omega] at this
  · rw [← rot_wt hm e]
    refine wt_congr fun t ht => ?_
    by_cases e1 : t = L
    · have := cyc_len (c := (List.range L).map (rot v L m))
      rw [lc] at this
      rw [e1, this, gc 0 (by omega), rL]
    · rw [cyc_lt (by omega), gc t (by omega)]
  · by_cases h1 : m ≤ t
    · refine ⟨t - m, by omega, ?_⟩
      rw [gc _ (by omega)]
      unfold rot
      rw [Nat.sub_add_cancel h1, Nat.mod_eq_of_lt ht]
    · refine ⟨t + L - m, by omega, ?_⟩
      rw [gc _ (by omega)]
      unfold rot
      rw [show t + L - m + m = t + L by omega, Nat.add_mod_right, Nat.mod_eq_of_lt ht]
theorem closed_cases {v : Nat → Nat} {L : Nat} :
    (∀ s t, s < L → t < L → v s = v t → s = t) ∨ ∃ p d r, L = p + d + r ∧ 1 ≤ d ∧ 1 ≤ p + r ∧ v p = v (p + d) := by
  by_cases hd : ∀ s t, s < L → t < L → v s = v t → s = t
  · exact .inl hd
  · right
    have : ∃ s t, s < t ∧ t < L ∧ v s = v t := by
      by_cases h1 : ∃ s t, s < t ∧ t < L ∧ v s = v t
      · exact h1
      · exfalso
        apply hd
        intro s t hs ht he
        by_cases h2 : s < t
        · exact absurd ⟨s, t, h2, ht, he⟩ h1
        · by_cases h3 : t < s
          · exact absurd ⟨t, s, h3, hs, he.symm⟩ h1
          · omega
    obtain ⟨s, t, hst, ht, he⟩ := this
    exact ⟨s, t - s, L - t, by omega, by omega, by omega, by rw [show s + (t - s) = t by omega]; exact he⟩
theorem mean_le {num den : Int} (hc : ∀ c, Cy n a c → wt a (cyc c) c.length * den ≤ num * (c.length : Nat)) : ∀ (L : Nat) (v : Nat → Nat), Wk n a v L → v 0 = v L → wt a v L * den ≤ num * (L : Nat) := by
  intro L
  induction L using Nat.strongRecOn with
  | ind L ih =>
    intro v h e
    by_cases h0 : L = 0
    · subst h0; simp [wt]
    rcases closed_cases (v := v) (L := L) with hd | ⟨p, d, r, rfl, hd1, hpr, ev⟩
    · obtain ⟨c, hcy, hl, hw, _⟩ := cy_of h (by omega) e hd
      have := hc c hcy
      rwa [hl, hw] at this
    · have hm : Wk n a (fun t => v (t + p)) d := Wk.shift (h.left (by omega))
      have h1 := ih (p + r) (by omega) (cutw v p d) (cutw_wk h ev) (by rw [cutw_zero, cutw_end ev]; exact e)
      have h2 := ih d (by omega) (fun t => v (t + p)) hm (by show v (0 + p) = v (d + p); rw [Nat.zero_add, Nat.add_comm d p]; exact ev)
      rw [cutw_wt ev, Int.add_mul, show ((p + d + r : Nat) : Int) = ((p + r : Nat) : Int) + ((d : Nat) : Int) by omega, Int.mul_add]
      omega
end
end Go.Proofs.Ythjmfbmffchicaa.Mp
end
section
namespace Go.Proofs.Ythjmfbmffchicaa.Mp
theorem Pre.len {n : Nat} {a : Nat → Nat → Int} {w : List Nat} (h : Pre n a w) : w.length ≤ n := by
  by_cases e : w.length ≤ n
  · exact e
  · obtain ⟨p, q, hpq, hq, he⟩ := php n (fun t => w.getD t 0) (fun t ht => h.lt t (by omega))
    have := h.inj p q (by omega) (by omega) he
    omega
def nxt (w z : List Nat) : Nat := z.getD w.length (w.getD 0 0)
theorem nxt_nil (w : List Nat) : nxt w (w ++ []) = w.getD 0 0 := by
  unfold nxt
  rw [List.append_nil, List.getD_eq_getElem?_getD, List.getElem?_eq_none (Nat.le_refl _)]
  rfl
theorem nxt_cons (w : List Nat) (x : Nat) (y : List Nat) : nxt w (w ++ x :: y) = x := by
  unfold nxt
  rw [List.getD_eq_getElem?_getD, List.getElem?_append_right (Nat.le_refl _), Nat.sub_self]
  rfl
section
variable {n : Nat} {a : Nat → Nat → Int}
theorem Cy.nxt_arc {w y : List Nat} (h : Cy n a (w ++ y)) (hw : 0 < w.length) : a (nxt w (w ++ y)) (w.getD (w.length - 1) 0) ≠ NEV := by
  cases y with
  | nil =>
    rw [nxt_nil]
    have := h.last
    rwa [List.append_nil] at this
  | cons x y =>
    rw [nxt_cons]
    have := h.pre.arc (w.length - 1) (by simp; omega)
    rw [show w.length - 1 + 1 = w.length by omega, getD_append_at, getD_append_left' (by omega)] at this
    exact this
theorem Cy.nxt_new {w y : List Nat} (h : Cy n a (w ++ y)) (_hw : 0 < w.length) (hne : y ≠ []) (t : Nat) (ht : t < w.length) : w.getD t 0 ≠ nxt w (w ++ y) := by
  cases y with
  | nil => exact absurd rfl hne
  | cons x y =>
    rw [nxt_cons]
    intro e
    have := h.pre.inj t w.length (by simp; omega) (by simp) (by rw [getD_append_left' ht, getD_append_at, e])
    omega
theorem Cy.nxt_low {w y : List Nat} (h : Cy n a (w ++ y)) (hw : 0 < w.length) : w.getD 0 0 ≤ nxt w (w ++ y) := by
  cases y with
  | nil => rw [nxt_nil]; exact Nat.le_refl _
  | cons x y =>
    rw [nxt_cons]
    have := h.pre.low w.length (by simp)
    rwa [getD_append_left' hw, getD_append_at] at this
end
end Go.Proofs.Ythjmfbmffchicaa.Mp
namespace Go.Proofs.Ythjmfbmffchicaa.Pure
open Go.RowKit Go.Proofs.Ythjmfbmffchicaa.V Go.Proofs.YthjmfbmffchicaaW.PrintWords Go.Proofs.YthjmfbmffchicaaW.PrintLast Go.Proofs.YthjmfbmffchicaaW.PrintMore
open Go.Proofs.Ythjmfbmffchicaa.Mp
def up (w : List Nat) : List Int := w.map Int.ofNat
theorem up_length (w : List Nat) : (up w).length = w.length := by simp [up]
theorem up_get (w : List Nat) (t : Nat) : (up w).getD t 0 = ((w.getD t 0 : Nat) : Int) := by
  unfold up
  rw [List.getD_eq_getElem?_getD, List.getD_eq_getElem?_getD, List.getElem?_map]
  cases w[t]? <;> rfl
theorem up_append (w : List Nat) (x : Nat) : up w ++ [(x : Int)] = up (w ++ [x]) := by simp [up]
theorem up_inj {w z : List Nat} (h : up w = up z) : w = z := by
  unfold up at h
  exact List.map_inj_right (fun x y e => Int.ofNat.inj e) |>.1 h
theorem has_l0 (l : List Int) (hl : l.length ≤ 1000000) (x : Int) : ∀ d j, j + d = l.length → ∃ b, Ev (fun k => r5has.l0 k l x (j : Int)) b ∧ (b = true ↔ ∃ t, j ≤ t ∧ t < l.length ∧ l.getD t 0 = x) := by
  intro d
  induction d with
  | zero =>
    intro j hj
    refine ⟨false, ev_now fun k => ?_, fun h => absurd h (by decide), fun ⟨t, h1, h2, _⟩ => by omega⟩
    simp only [r5has.l0]
    rw [if_neg (by omega)]
  | succ d ih =>
    intro j hj
    by_cases e : l.getD j 0 = x
    · refine ⟨true, ev_now fun k => ?_, fun _ => ⟨j, by omega, by omega, e⟩, fun _ => rfl⟩
      simp only [r5has.l0]
      rw [if_pos (by omega), if_pos (by omega), rdI, if_pos e]
    · obtain ⟨b, hb, hbi⟩ := ih (j + 1) (by omega)
      refine ⟨b, Ev.step (fun k => ?_) hb, ?_⟩
      · simp only [r5has.l0]
        rw [if_pos (by omega), if_pos (by omega), rdI, if_neg e, wr1 j (by omega)]
      · rw [hbi]
        constructor
        · rintro ⟨t, h1, h2, h3⟩; exact ⟨t, by omega, h2, h3⟩
        · rintro ⟨t, h1, h2, h3⟩
          by_cases e2 : t = j
          · subst e2; exact absurd h3 e
          · exact ⟨t, by omega, h2, h3⟩
theorem has_f (l : List Int) (hl : l.length ≤ 1000000) (x : Int) : ∃ b, Ev (fun k => r5has.f k l x) b ∧ (b = true ↔ ∃ t, t < l.length ∧ l.getD t 0 = x) := by
  obtain ⟨b, hb, hbi⟩ := has_l0 l hl x l.length 0 (by omega)
  exact ⟨b, hb, hbi.trans ⟨fun ⟨t, _, h⟩ => ⟨t, h⟩, fun ⟨t, h⟩ => ⟨t, by omega, h⟩⟩⟩
section
def Goes (n : Nat) (a : Nat → Nat → Int) (w : List Nat) (i : Nat) (c : List Int) : Prop := ∃ y, c = up (w ++ y) ∧ Cy n a (w ++ y) ∧ i ≤ nxt w (w ++ y)
end
theorem cyclesFrom_l0 {n : Nat} {A : List (List Int)} (hA : Arg n A) (w : List Nat) (hw : Pre n (ent A) w) (B : Nat) (hB : 1 ≤ B) (hB2 : B ≤ 100000)
    (hrec : ∀ x, x < n → Pre n (ent A) (w ++ [x]) → ∃ R, Ev (fun k => r5cyclesFrom.f k A (up (w ++ [x]))) R ∧ (∀ c, c ∈ R ↔ ∃ y, c = up ((w ++ [x]) ++ y) ∧ Cy n (ent A) ((w ++ [x]) ++ y)) ∧ R.length ≤ B) :
    ∀ d i, i + d = n → w.getD 0 0 ≤ i → ∀ acc : List (List Int), acc.length + d * B ≤ 1000000 → ∃ r, Ev (fun k => r5cyclesFrom.l0 k A (up w) acc ((w.getD (w.length - 1) 0 : Nat) : Int) (i : Int)) r ∧ (∀ c, c ∈ r ↔ c ∈ acc ∨ Goes n (ent A) w i c) ∧ r.length ≤ acc.length + d * B := by
  have h6 := hA.six
  have hl := hA.is.1
  have hwl := Pre.len hw
  have hw0 := hw.ne
  have hlast : w.getD (w.length - 1) 0 < n := hw.lt _ (by omega)
  have ul := up_length w
  intro d
  induction d with
  | zero =>
    intro i hi hf acc hacc
    refine ⟨acc, ev_now fun k => ?_, fun c => ⟨fun h => .inl h, fun h => h.elim id fun ⟨y, _, hy, h2⟩ => ?_⟩, by omega⟩
    · rw [r5cyclesFrom.l0]
      rw [if_neg (by omega)]
    · exfalso
      cases y with
      | nil => rw [nxt_nil] at h2; have := hw.lt 0 hw0; omega
      | cons x y =>
        have := hy.pre.lt w.length (by simp)
        rw [nxt_cons] at h2
        rw [getD_append_at] at this
        omega
  | succ d ih =>
    intro i hi hf acc hacc
    have hi' : i < n := by omega
    have e2 := hA.is.2 i hi'
    rw [Nat.add_mul, Nat.one_mul] at hacc
    have same : (∀ y, Cy n (ent A) (w ++ y) → nxt w (w ++ y) ≠ i) → ∀ c, Goes n (ent A) w (i + 1) c ↔ Goes n (ent A) w i c := by
      intro h c
      constructor
      · rintro ⟨y, h1, h2, h3⟩; exact ⟨y, h1, h2, by omega⟩
      · rintro ⟨y, h1, h2, h3⟩; exact ⟨y, h1, h2, by have := h y h2; omega⟩
    have skip : (∀ y, Cy n (ent A) (w ++ y) → nxt w (w ++ y) ≠ i) → ∀ {g : Nat → Option (List (List Int))}, (∀ k, g (k + 1) = r5cyclesFrom.l0 k A (up w) acc ((w.getD (w.length - 1) 0 : Nat) : Int) ((i + 1 : Nat) : Int)) → ∃ r, Ev g r ∧ (∀ c, c ∈ r ↔ c ∈ acc ∨ Goes n (ent A) w i c) ∧ r.length ≤ acc.length + (d + 1) * B := by
      intro hn g hg
      obtain ⟨r, hr, hm, hlr⟩ := ih (i + 1) (by omega) (by omega) acc (by omega)
      refine ⟨r, Ev.step hg hr, fun c => ?_, by rw [Nat.add_mul, Nat.one_mul]; omega⟩
      rw [hm, same hn]
    have rw1 : (A.getD i []).getD (w.getD (w.length - 1) 0) 0 = ent A i (w.getD (w.length - 1) 0) := rfl
    by_cases c1 : ent A i (w.getD (w.length - 1) 0) = NEV
    · refine skip (fun y hy e => ?_) (fun k => ?_)
      · have := hy.nxt_arc hw0
        rw [e] at this
        exact this c1
      · rw [r5cyclesFrom.l0]
        rw [if_pos (by omega), if_pos (by omega), if_pos (by omega), rdL, if_pos (by omega), rdI, rw1, if_pos (show ent A i (w.getD (w.length - 1) 0) = -1152921504606846976 from c1), wr1 i (by omega)]
    have pre : ∀ k, r5cyclesFrom.l0 (k + 1) A (up w) acc ((w.getD (w.length - 1) 0 : Nat) : Int) (i : Int) = if (i : Int) = ((w.getD 0 0 : Nat) : Int) then r5cyclesFrom.l0 k A (up w) (acc ++ [up w]) ((w.getD (w.length - 1) 0 : Nat) : Int) ((i + 1 : Nat) : Int) else ((r5has.f k (up w) (i : Int)).bind fun t => if t = true then r5cyclesFrom.l0 k A (up w) acc ((w.getD (w.length - 1) 0 : Nat) : Int) ((i + 1 : Nat) : Int) else ((r5cyclesFrom.f k A (up (w ++ [i]))).bind fun t => if acc.length + t.length < 5864062014805 then r5cyclesFrom.l0 k A (up w) (acc ++ t) ((w.getD (w.length - 1) 0 : Nat) : Int) ((i + 1 : Nat) : Int) else none)) := fun k => by
      rw [r5cyclesFrom.l0]
      rw [if_pos (by omega), if_pos (by omega), if_pos (by omega), rdL, if_pos (by omega), rdI, rw1, if_neg (show ¬ ent A i (w.getD (w.length - 1) 0) = -1152921504606846976 from c1), if_pos (by simp only [List.length_nil]; omega)]
      simp only [Option.bind_some, List.nil_append]
      rw [if_pos (by omega), show rd (up w) 0 = ((w.getD 0 0 : Nat) : Int) from up_get w 0, if_pos (show acc.length < 5864062014805 by omega), if_pos (show (up w).length < 17592186044416 by omega), wr1 i (by omega), up_append]
    by_cases c2 : i = w.getD 0 0
    · obtain ⟨r, hr, hm, hlr⟩ := ih (i + 1) (by omega) (by omega) (acc ++ [up w]) (by simp; omega)
      refine ⟨r, Ev.step (fun k => (pre k).trans (if_pos (by omega))) hr, fun c => ?_, by rw [Nat.add_mul, Nat.one_mul]; simp at hlr; omega⟩
      rw [hm, List.mem_append, List.mem_singleton]
      constructor
      · rintro ((h | h) | ⟨y, h1, h2, h3⟩)
        · exact .inl h
        · exact .inr ⟨[], by rw [List.append_nil]; exact h, by rw [List.append_nil]; exact ⟨hw, by rw [← c2]; exact c1⟩, by rw [nxt_nil]; omega⟩
        · exact .inr ⟨y, h1, h2, by omega⟩
      · rintro (h | ⟨y, h1, h2, h3⟩)
        · exact .inl (.inl h)
        · by_cases e : y = []
          · subst e
            rw [List.append_nil] at h1
            exact .inl (.inr h1)
          · have := h2.nxt_new hw0 e 0 hw0
            exact .inr ⟨y, h1, h2, by omega⟩
    · have c2' : ¬ (i : Int) = ((w.getD 0 0 : Nat) : Int) := fun e => c2 (Int.ofNat.inj e)
      obtain ⟨b, hb, hbi⟩ := has_f (up w) (by omega) (i : Int)
      have hbi' : b = true ↔ ∃ t, t < w.length ∧ w.getD t 0 = i := by
        rw [hbi]
        constructor
        · rintro ⟨t, h1, h2⟩
          rw [up_get] at h2
          exact ⟨t, by omega, by omega⟩
        · rintro ⟨t, h1, h2⟩
          exact ⟨t, by omega, by rw [up_get, h2]⟩
      by_cases c3 : b = true
      · obtain ⟨t, ht, hti⟩ := hbi'.1 c3
        obtain ⟨r, hr, hm, hlr⟩ := ih (i + 1) (by omega) (by omega) acc (by omega)
        refine ⟨r, Ev.step (fun k => (pre k).trans (if_neg c2')) (Ev.bind hb (Ev.congr (fun k => if_pos c3) hr)), fun c => ?_, by rw [Nat.add_mul, Nat.one_mul]; omega⟩
        rw [hm, same fun y hy e => ?_]
        by_cases e2 : y = []
        · subst e2; rw [nxt_nil] at e; exact c2 e.symm
        · exact hy.nxt_new hw0 e2 t ht (by rw [hti, e])
      · have hnew : ∀ t, t < w.length → w.getD t 0 ≠ i := fun t ht e => c3 (hbi'.2 ⟨t, ht, e⟩)
        have hpre := hw.snoc hi' hf hnew c1
        obtain ⟨R, eR, hR, lR⟩ := hrec i hi' hpre
        obtain ⟨r, hr, hm, hlr⟩ := ih (i + 1) (by omega) (by omega) (acc ++ R) (by simp; omega)
        refine ⟨r, Ev.step (fun k => (pre k).trans (if_neg c2')) (Ev.bind hb (Ev.congr (fun k => if_neg c3) (Ev.bind eR (Ev.congr (fun k => if_pos (by omega)) hr)))), fun c => ?_, by rw [Nat.add_mul, Nat.one_mul]; simp at hlr; omega⟩
        rw [hm, List.mem_append, hR]
        constructor
        · rintro ((h | ⟨y, h1, h2⟩) | ⟨y, h1, h2, h3⟩)
          · exact .inl h
          · rw [List.append_assoc] at h1 h2
            exact .inr ⟨[i] ++ y, h1, h2, by show i ≤ nxt w (w ++ i :: y); rw [nxt_cons]; exact Nat.le_refl _⟩
          · exact .inr ⟨y, h1, h2, by omega⟩
        · rintro (h | ⟨y, h1, h2, h3⟩)
          · exact .inl (.inl h)
          · by_cases e : nxt w (w ++ y) = i
            · cases y with
              | nil => rw [nxt_nil] at e; exact absurd e.symm c2
              | cons x y =>
                rw [nxt_cons] at e
                subst e
                exact .inl (.inr ⟨y, by rw [List.append_assoc]; exact h1, by rw [List.append_assoc]; exact h2⟩)
            · exact .inr ⟨y, h1, h2, by omega⟩
theorem cyclesFrom_f {n : Nat} {A : List (List Int)} (hA : Arg n A) : ∀ d w, d ≤ 5 → Pre n (ent A) w → n ≤ w.length + d → ∃ R, Ev (fun k => r5cyclesFrom.f k A (up w)) R ∧ (∀ c, c ∈ R ↔ ∃ y, c = up (w ++ y) ∧ Cy n (ent A) (w ++ y)) ∧ R.length ≤ 6 ^ (d + 1) := by
  have h6 := hA.six
  intro d
  induction d with
  | zero =>
    intro w _ hw hn
    have hwl := Pre.len hw
    have hw0 := hw.ne
    have ul := up_length w
    have f0 : w.getD 0 0 < n := hw.lt 0 hw0
    obtain ⟨r, hr, hm, hlr⟩ := cyclesFrom_l0 hA w hw 1 (by omega) (by omega) (fun x _ hp => by have := Pre.len hp; simp at this; omega) (n - w.getD 0 0) (w.getD 0 0) (by omega) (by omega) [] (by simp only [List.length_nil]; omega)
    refine ⟨r, Ev.step (fun k => ?_) hr, fun c => ?_, by simp at hlr ⊢; omega⟩
    · rw [r5cyclesFrom.f]
      have e : wrap64 (((up w).length : Int) - 1) = ((w.length - 1 : Nat) : Int) := by rw [wr (by omega) (by omega)]; omega
      rw [e, if_pos (by omega), if_pos (by omega), if_pos (by omega), rdI, up_get, show rd (up w) 0 = ((w.getD 0 0 : Nat) : Int) from up_get w 0]
    · rw [hm]
      constructor
      · rintro (h | ⟨y, h1, h2, _⟩)
        · cases h
        · exact ⟨y, h1, h2⟩
      · rintro ⟨y, h1, h2⟩; exact .inr ⟨y, h1, h2, h2.nxt_low hw0⟩
  | succ d ih =>
    intro w hd hw hn
    have hwl := Pre.len hw
    have hw0 := hw.ne
    have ul := up_length w
    have f0 : w.getD 0 0 < n := hw.lt 0 hw0
    have hb1 : 1 ≤ 6 ^ (d + 1) := Nat.pow_pos (by omega)
    have hb2 : 6 ^ (d + 1) ≤ 6 ^ 5 := Nat.pow_le_pow_right (by omega) (by omega)
    have e5 : (6 : Nat) ^ 5 = 7776 := by decide
    have hb3 : (n - w.getD 0 0) * 6 ^ (d + 1) ≤ 6 * 6 ^ (d + 1) := Nat.mul_le_mul_right _ (by omega)
    obtain ⟨r, hr, hm, hlr⟩ := cyclesFrom_l0 hA w hw (6 ^ (d + 1)) hb1 (by omega) (fun x _ hp => ih (w ++ [x]) (by omega) hp (by simp; omega)) (n - w.getD 0 0) (w.getD 0 0) (by omega) (by omega) [] (by simp only [List.length_nil]; omega)
    refine ⟨r, Ev.step (fun k => ?_) hr, fun c => ?_, by rw [Nat.pow_succ]; simp only [List.length_nil] at hlr; omega⟩
    · rw [r5cyclesFrom.f]
      have e : wrap64 (((up w).length : Int) - 1) = ((w.length - 1 : Nat) : Int) := by rw [wr (by omega) (by omega)]; omega
      rw [e, if_pos (by omega), if_pos (by omega), if_pos (by omega), rdI, up_get, show rd (up w) 0 = ((w.getD 0 0 : Nat) : Int) from up_get w 0]
    · rw [hm]
      constructor
      · rintro (h | ⟨y, h1, h2, _⟩)
        · cases h
        · exact ⟨y, h1, h2⟩
      · rintro ⟨y, h1, h2⟩; exact .inr ⟨y, h1, h2, h2.nxt_low hw0⟩
theorem Cycles_l0 {n : Nat} {A : List (List Int)} (hA : Arg n A) : ∀ d i, i + d = n → ∀ acc : List (List Int), acc.length + d * 46656 ≤ 1000000 → ∃ r, Ev (fun k => r5Cycles.l0 k A acc (i : Int)) r ∧ (∀ c, c ∈ r ↔ c ∈ acc ∨ ∃ z, c = up z ∧ Cy n (ent A) z ∧ i ≤ z.getD 0 0) ∧ r.length ≤ 1000000 := by
  have h6 := hA.six
  have hl := hA.is.1
  intro d
  induction d with
  | zero =>
    intro i hi acc hacc
    refine ⟨acc, ev_now fun k => ?_, fun c => ⟨fun h => .inl h, fun h => h.elim id fun ⟨z, _, hz, h2⟩ => by have := hz.pre.lt 0 hz.pre.ne; omega⟩, by omega⟩
    simp only [r5Cycles.l0]
    rw [if_neg (by omega)]
  | succ d ih =>
    intro i hi acc hacc
    rw [Nat.add_mul, Nat.one_mul] at hacc
    have hp : Pre n (ent A) [i] := by
      refine ⟨by simp, fun t ht => ?_, fun s t hs ht _ => by simp at hs ht; omega, fun t ht => ?_, fun t ht => by simp at ht⟩
      · simp at ht; subst ht; show i < n; omega
      · simp at ht; subst ht; exact Nat.le_refl _
    obtain ⟨R, eR, hR, lR⟩ := cyclesFrom_f hA 5 [i] (by omega) hp (by simp; omega)
    have e6 : (6 : Nat) ^ (5 + 1) = 46656 := by decide
    obtain ⟨r, hr, hm, hlr⟩ := ih (i + 1) (by omega) (acc ++ R) (by simp; omega)
    refine ⟨r, Ev.step (f := fun k => (r5cyclesFrom.f k A (up [i])).bind fun t => if acc.length + t.length < 5864062014805 then r5Cycles.l0 k A (acc ++ t) ((i + 1 : Nat) : Int) else none) (fun k => ?_) (Ev.bind eR (Ev.congr (fun k => if_pos (by omega)) hr)), fun c => ?_, hlr⟩
    · simp only [r5Cycles.l0]
      rw [if_pos (by omega), wr1 i (by omega)]
      rfl
    · rw [hm, List.mem_append, hR]
      constructor
      · rintro ((h | ⟨y, h1, h2⟩) | ⟨z, h1, h2, h3⟩)
        · exact .inl h
        · exact .inr ⟨[i] ++ y, h1, h2, by show i ≤ i; exact Nat.le_refl _⟩
        · exact .inr ⟨z, h1, h2, by omega⟩
      · rintro (h | ⟨z, h1, h2, h3⟩)
        · exact .inl (.inl h)
        · by_cases e : z.getD 0 0 = i
          · cases z with
            | nil => have := h2.pre.ne; simp at this
            | cons x y =>
              have : x = i := e
              subst this
              exact .inl (.inr ⟨y, h1, h2⟩)
          · exact .inr ⟨z, h1, h2, by omega⟩
theorem Cycles_f {n : Nat} {A : List (List Int)} (hA : Arg n A) : ∃ R, Ev (fun k => r5Cycles.f k A) R ∧ (∀ c, c ∈ R ↔ ∃ z, c = up z ∧ Cy n (ent A) z) ∧ R.length ≤ 1000000 := by
  have h6 := hA.six
  obtain ⟨r, hr, hm, hlr⟩ := Cycles_l0 hA n 0 (by omega) [] (by simp; omega)
  refine ⟨r, hr, fun c => ?_, hlr⟩
  rw [hm]
  constructor
  · rintro (h | ⟨z, h1, h2, _⟩)
    · cases h
    · exact ⟨z, h1, h2⟩
  · rintro ⟨z, h1, h2⟩; exact .inr ⟨z, h1, h2, Nat.zero_le _⟩
end Go.Proofs.Ythjmfbmffchicaa.Pure
end
section
namespace Go.Proofs.Ythjmfbmffchicaa.Pure
open Go.RowKit Go.Proofs.Ythjmfbmffchicaa.V Go.Proofs.YthjmfbmffchicaaW.PrintWords Go.Proofs.YthjmfbmffchicaaW.PrintLast Go.Proofs.YthjmfbmffchicaaW.PrintMore
open Go.Proofs.Ythjmfbmffchicaa.Mp
def cw (a : Nat → Nat → Int) (z : List Nat) : Int := wt a (cyc z) z.length
theorem add_ok (x y : Int) (i : Nat) (hi : i ≤ 6) (h1 : -(1000 * (i : Int)) ≤ x) (h2 : x ≤ 1000 * (i : Int)) (h3 : -1000 ≤ y) (h4 : y ≤ 1000) : wrap64 (x + y) = x + y := wr (by omega) (by omega)
section
variable {n : Nat} {A : List (List Int)}
theorem cw_bd (hA : Arg n A) {z : List Nat} (h : Cy n (ent A) z) : -6000 ≤ cw (ent A) z ∧ cw (ent A) z ≤ 6000 ∧ 1 ≤ z.length ∧ z.length ≤ 6 := by
  have := wt_bd hA.bd h.wk
  have := h.len
  have := hA.six
  have := h.pre.ne
  unfold cw
  omega
theorem weight_l0 (hA : Arg n A) {z : List Nat} (h : Cy n (ent A) z) : ∀ d i, i + d = z.length → Ev (fun k => r5weight.l0 k A (up z) (wt (ent A) (cyc z) i) (i : Int)) (cw (ent A) z) := by
  have hl := hA.is.1
  have uz := up_length z
  have b := cw_bd hA h
  have hwk := h.wk
  intro d
  induction d with
  | zero =>
    intro i hi
    obtain rfl : i = z.length := by omega
    refine ev_now fun k => ?_
    simp only [r5weight.l0]
    rw [if_neg (by omega)]
    rfl
  | succ d ih =>
    intro i hi
    have hi' : i < z.length := by omega
    have i6 : i ≤ 6 := by omega
    obtain ⟨r, hm, c1, em⟩ : ∃ r, r < z.length ∧ z.getD r 0 = cyc z (i + 1) ∧ Int.tmod (wrap64 ((i : Int) + 1)) ((up z).length : Int) = (r : Int) := ⟨(i + 1) % z.length, Nat.mod_lt _ (by omega), rfl, by rw [wr1 i (by omega), uz]; rfl⟩
    have c2 : z.getD i 0 = cyc z i := (cyc_lt hi').symm
    have l1 := hwk.lt (i + 1) (by omega)
    have l2 := hwk.lt i (by omega)
    have e2 := hA.is.2 _ l1
    have g1 : rd (up z) (r : Int) = ((cyc z (i + 1) : Nat) : Int) := by rw [← c1]; exact up_get z r
    have g2 : rd (up z) (i : Int) = ((cyc z i : Nat) : Int) := by rw [← c2]; exact up_get z i
    have w1 := wt_bd hA.bd (hwk.left (p := i) (by omega))
    have w2 := (hA.bd _ _ l1 l2).resolve_left (hwk.arc i hi')
    refine Ev.step (fun k => ?_) (ih (i + 1) (by omega))
    simp only [r5weight.l0]
    rw [em, g1, g2]
    clear em g1 g2 c1 c2
    rw [if_pos (by omega), if_neg (by omega), if_pos (by omega), if_pos (by omega), if_pos (by omega), if_pos (by omega), if_pos (by omega), if_pos (by omega), rdL, if_pos (by omega), rdI, wr1 i (by omega)]
    show r5weight.l0 k A (up z) (wrap64 (wt (ent A) (cyc z) i + ent A (cyc z (i + 1)) (cyc z i))) _ = _
    rw [add_ok _ _ i i6 w1.1 w1.2 w2.1 w2.2]
    rfl
theorem weight_f (hA : Arg n A) {z : List Nat} (h : Cy n (ent A) z) : Ev (fun k => r5weight.f k A (up z)) (cw (ent A) z) := weight_l0 hA h z.length 0 (by omega)
end
theorem drop_cons {x : List Nat} {j : Nat} (h : j < x.length) : x.drop j = x.getD j 0 :: x.drop (j + 1) := by
  rw [List.drop_eq_getElem_cons h, List.getD_eq_getElem?_getD, List.getElem?_eq_getElem h]
  rfl
theorem less_l0 (x y : List Nat) (_hx : x.length ≤ 1000000) (hy : y.length ≤ 1000000) : ∀ d j, j + d = x.length → j ≤ y.length → ∃ b, Ev (fun k => r5less.l0 k (up x) (up y) (j : Int)) b ∧ (b = true ↔ x.drop j < y.drop j) := by
  have ux := up_length x
  have uy := up_length y
  intro d
  have short : ∀ j, j ≤ x.length → j ≤ y.length → (j = x.length ∨ j = y.length) → (decide (((up x).length : Int) < ((up y).length : Int)) = true ↔ x.drop j < y.drop j) := by
    intro j h1 h2 h3
    rw [decide_eq_true_iff]
    by_cases e1 : j = x.length
    · by_cases e2 : j = y.length
      · rw [List.drop_eq_nil_of_le (by omega), List.drop_eq_nil_of_le (by omega)]
        exact ⟨fun h => by omega, fun h => absurd h (List.not_lt_nil _)⟩
      · rw [List.drop_eq_nil_of_le (by omega : x.length ≤ j), drop_cons (by omega : j < y.length)]
        exact ⟨fun _ => List.nil_lt_cons _ _, fun _ => by omega⟩
    · have e2 : j = y.length := by omega
      rw [List.drop_eq_nil_of_le (by omega : y.length ≤ j)]
      exact ⟨fun h => by omega, fun h => absurd h (List.not_lt_nil _)⟩
  induction d with
  | zero =>
    intro j hj hjy
    refine ⟨_, ?_, short j (by omega) hjy (.inl (by omega))⟩
    refine Ev.step (f := fun k => r5less.j1 k (up x) (up y) (j : Int) false) (fun k => ?_) (ev_now fun k => ?_)
    · simp only [r5less.l0]
      rw [if_neg (by omega)]
    · simp only [r5less.j1]
      rw [if_neg (by decide)]
  | succ d ih =>
    intro j hj hjy
    have step1 : ∀ k, r5less.l0 (k + 1) (up x) (up y) (j : Int) = r5less.j1 k (up x) (up y) (j : Int) (decide ((j : Int) < ((up y).length : Int))) := fun k => by
      simp only [r5less.l0]
      rw [if_pos (by omega)]
    by_cases e1 : j < y.length
    · have st : ∀ k, r5less.j1 (k + 1) (up x) (up y) (j : Int) (decide ((j : Int) < ((up y).length : Int))) = if ((x.getD j 0 : Nat) : Int) = ((y.getD j 0 : Nat) : Int) then r5less.l0 k (up x) (up y) ((j + 1 : Nat) : Int) else some (decide (((x.getD j 0 : Nat) : Int) < ((y.getD j 0 : Nat) : Int))) := fun k => by
        simp only [r5less.j1]
        rw [if_pos (by rw [decide_eq_true_iff]; omega), if_pos (by omega), if_pos (by omega), if_pos (by omega), rdI, rdI, up_get, up_get, wr1 j (by omega)]
      rw [drop_cons (by omega : j < x.length), drop_cons e1]
      by_cases e2 : x.getD j 0 = y.getD j 0
      · obtain ⟨b, hb, hbi⟩ := ih (j + 1) (by omega) (by omega)
        refine ⟨b, Ev.step step1 (Ev.step (fun k => (st k).trans (if_pos (by omega))) hb), ?_⟩
        rw [hbi, List.cons_lt_cons_iff, e2]
        exact ⟨fun h => .inr ⟨rfl, h⟩, fun h => h.elim (fun h => absurd h (Nat.lt_irrefl _)) (fun h => h.2)⟩
      · refine ⟨_, Ev.step step1 (ev_now fun k => (st k).trans (if_neg (fun e => e2 (Int.ofNat.inj e)))), ?_⟩
        rw [decide_eq_true_iff, List.cons_lt_cons_iff]
        exact ⟨fun h => .inl (by omega), fun h => h.elim (fun h => by omega) (fun h => absurd h.1 e2)⟩
    · refine ⟨_, ?_, short j (by omega) hjy (.inr (by omega))⟩
      refine Ev.step step1 (ev_now fun k => ?_)
      simp only [r5less.j1]
      rw [if_neg (by rw [decide_eq_true_iff]; omega)]
theorem less_f (x y : List Nat) (hx : x.length ≤ 1000000) (hy : y.length ≤ 1000000) : ∃ b, Ev (fun k => r5less.f k (up x) (up y)) b ∧ (b = true ↔ x < y) := by
  obtain ⟨b, hb, hbi⟩ := less_l0 x y hx hy x.length 0 (by omega) (by omega)
  exact ⟨b, hb, hbi⟩
theorem rgcd_eq : ∀ k a b, r5gcd.l0 k a b = line_gcd.l0 k a b
  | 0, _, _ => rfl
  | k + 1, a, b => by
    simp only [r5gcd.l0, line_gcd.l0]
    by_cases h : b = 0
    · rw [if_pos h, if_pos h]
    · rw [if_neg h, if_neg h, rgcd_eq k]
def AsGood (a : Nat → Nat → Int) (b c : List Nat) : Prop :=
  cw a c * (b.length : Nat) < cw a b * (c.length : Nat) ∨ (cw a c * (b.length : Nat) = cw a b * (c.length : Nat) ∧ (b.length < c.length ∨ (b.length = c.length ∧ ¬ c < b)))
theorem AsGood.mean {a : Nat → Nat → Int} {b c : List Nat} (h : AsGood a b c) : cw a c * (b.length : Nat) ≤ cw a b * (c.length : Nat) := by
  rcases h with h | h
  · omega
  · omega
theorem frac_lt {p q r : Int} {x y z : Nat} (hx : 0 < x) (hy : 0 < y) (hz : 0 < z) (h1 : p * (y : Nat) ≤ q * (x : Nat)) (h2 : q * (z : Nat) ≤ r * (y : Nat)) : p * (z : Nat) ≤ r * (x : Nat) ∧ (p * (z : Nat) = r * (x : Nat) → p * (y : Nat) = q * (x : Nat) ∧ q * (z : Nat) = r * (y : Nat)) := by
  have a1 := Int.mul_le_mul_of_nonneg_right h1 (by omega : (0 : Int) ≤ (z : Nat))
  have a2 := Int.mul_le_mul_of_nonneg_right h2 (by omega : (0 : Int) ≤ (x : Nat))
  have e1 : p * (y : Nat) * (z : Nat) = p * (z : Nat) * (y : Nat) := by rw [Int.mul_assoc, Int.mul_comm (y : Int), ← Int.mul_assoc]
  have e2 : q * (x : Nat) * (z : Nat) = q * (z : Nat) * (x : Nat) := by rw [Int.mul_assoc, Int.mul_comm (x : Int), ← Int.mul_assoc]
  have e3 : r * (y : Nat) * (x : Nat) = r * (x : Nat) * (y : Nat) := by rw [Int.mul_assoc, Int.mul_comm (y : Int), ← Int.mul_assoc]
  refine ⟨Int.le_of_mul_le_mul_right (a := (y : Int)) (by omega) (by omega), fun h => ?_⟩
  have e4 : p * (z : Nat) * (y : Nat) = r * (x : Nat) * (y : Nat) := by rw [h]
  have b1 : p * (y : Nat) * (z : Nat) = q * (x : Nat) * (z : Nat) := by omega
  have b2 : q * (z : Nat) * (x : Nat) = r * (y : Nat) * (x : Nat) := by omega
  exact ⟨Int.eq_of_mul_eq_mul_right (by omega) b1, Int.eq_of_mul_eq_mul_right (by omega) b2⟩
theorem AsGood.refl {a : Nat → Nat → Int} (b : List Nat) : AsGood a b b := .inr ⟨rfl, .inr ⟨rfl, List.lt_irrefl b⟩⟩
theorem AsGood.trans {a : Nat → Nat → Int} {b c d : List Nat} (hb : 0 < b.length) (hc : 0 < c.length) (hd : 0 < d.length) (h1 : AsGood a b c) (h2 : AsGood a c d) : AsGood a b d := by
  have f := frac_lt hd hc hb h2.mean h1.mean
  by_cases e : cw a d * (b.length : Nat) = cw a b * (d.length : Nat)
  · have f2 := f.2 e
    refine .inr ⟨e, ?_⟩
    rcases h1 with h1 | ⟨_, h1⟩
    · omega
    rcases h2 with h2 | ⟨_, h2⟩
    · omega
    rcases h1 with h1 | ⟨l1, h1⟩
    · rcases h2 with h2 | ⟨l2, h2⟩ <;> exact .inl (by omega)
    · rcases h2 with h2 | ⟨l2, h2⟩
      · exact .inl (by omega)
      · refine .inr ⟨by omega, fun h3 => ?_⟩
        by_cases h4 : d < c
        · exact h2 h4
        · exact h1 (List.lt_of_le_of_lt (List.not_lt.1 h4) h3)
  · exact .inl (by omega)
section
variable {n : Nat} {A : List (List Int)}
theorem best_l0 (hA : Arg n A) (R : List (List Int)) (hR : ∀ c, c ∈ R → ∃ z, c = up z ∧ Cy n (ent A) z) (hl : R.length ≤ 1000000) : ∀ d j, j + d = R.length → ∀ b, Cy n (ent A) b → (∀ t z, t < j → R.getD t [] = up z → AsGood (ent A) b z) →
    ∃ b', Cy n (ent A) b' ∧ Ev (fun k => r5best.l0 k A (up b) R (j : Int)) (up b') ∧ ∀ z, up z ∈ R → AsGood (ent A) b' z := by
  intro d
  induction d with
  | zero =>
    intro j hj b hb hg
    refine ⟨b, hb, ev_now fun k => ?_, fun z hz => ?_⟩
    · simp only [r5best.l0]
      rw [if_neg (by omega)]
    · obtain ⟨t, ht, e⟩ := List.getElem_of_mem hz
      exact hg t z (by omega) (by rw [List.getD_eq_getElem?_getD, List.getElem?_eq_getElem ht]; exact e)
  | succ d ih =>
    intro j hj b hb hg
    have hj' : j < R.length := by omega
    have gj : R.getD j [] = R[j] := by rw [List.getD_eq_getElem?_getD, List.getElem?_eq_getElem hj']; rfl
    obtain ⟨c, hc, hcy⟩ := hR R[j] (List.getElem_mem hj')
    rw [hc] at gj
    have bb := cw_bd hA hb
    have bc := cw_bd hA hcy
    have ub := up_length b
    have uc := up_length c
    have m1 : -36000 ≤ cw (ent A) c * (b.length : Nat) ∧ cw (ent A) c * (b.length : Nat) ≤ 36000 := by
      have k1 := Int.mul_le_mul_of_nonneg_right bc.1 (by omega : (0 : Int) ≤ (b.length : Nat))
      have k2 := Int.mul_le_mul_of_nonneg_right bc.2.1 (by omega : (0 : Int) ≤ (b.length : Nat))
      omega
    have m2 : -36000 ≤ cw (ent A) b * (c.length : Nat) ∧ cw (ent A) b * (c.length : Nat) ≤ 36000 := by
      have k1 := Int.mul_le_mul_of_nonneg_right bb.1 (by omega : (0 : Int) ≤ (c.length : Nat))
      have k2 := Int.mul_le_mul_of_nonneg_right bb.2.1 (by omega : (0 : Int) ≤ (c.length : Nat))
      omega
    have w1 : wrap64 (cw (ent A) c * ((up b).length : Int)) = cw (ent A) c * (b.length : Nat) := by rw [ub, wr (by omega) (by omega)]
    have w2 : wrap64 (cw (ent A) b * ((up c).length : Int)) = cw (ent A) b * (c.length : Nat) := by rw [uc, wr (by omega) (by omega)]
    have step : ∀ k, r5best.l0 (k + 1) A (up b) R (j : Int) = (r5weight.f k A (up c)).bind fun t => (r5weight.f k A (up b)).bind fun u => if wrap64 (t * ((up b).length : Int)) > wrap64 (u * ((up c).length : Int)) then r5best.l0 k A (up c) R ((j + 1 : Nat) : Int) else if wrap64 (t * ((up b).length : Int)) = wrap64 (u * ((up c).length : Int)) then (if ((up c).length : Int) < ((up b).length : Int) then r5best.l0 k A (up c) R ((j + 1 : Nat) : Int) else if ((up c).length : Int) = ((up b).length : Int) then ((r5less.f k (up c) (up b)).bind fun t => if t = true then r5best.l0 k A (up c) R ((j + 1 : Nat) : Int) else r5best.l0 k A (up b) R ((j + 1 : Nat) : Int)) else r5best.l0 k A (up b) R ((j + 1 : Nat) : Int)) else r5best.l0 k A (up b) R ((j + 1 : Nat) : Int) := fun k => by
      simp only [r5best.l0]
      rw [if_pos (by omega), if_pos (by omega), if_neg (by omega), rdL, gj, wr1 j (by omega)]
    have take : AsGood (ent A) c b → ∃ b', Cy n (ent A) b' ∧ Ev (fun k => r5best.l0 k A (up c) R ((j + 1 : Nat) : Int)) (up b') ∧ ∀ z, up z ∈ R → AsGood (ent A) b' z := fun hcb => ih (j + 1) (by omega) c hcy fun t z ht hz => by
      by_cases e : t = j
      · subst e
        rw [gj] at hz
        rw [← up_inj hz]
        exact AsGood.refl c
      · have hbz := hg t z (by omega) hz
        have hzR : up z ∈ R := by rw [← hz, List.getD_eq_getElem?_getD, List.getElem?_eq_getElem (by omega : t < R.length)]; exact List.getElem_mem _
        obtain ⟨z', hz', hcz⟩ := hR _ hzR
        rw [up_inj hz'] at hbz ⊢
        exact AsGood.trans (by omega) (by omega) hcz.pre.ne hcb hbz
    have keep : AsGood (ent A) b c → ∃ b', Cy n (ent A) b' ∧ Ev (fun k => r5best.l0 k A (up b) R ((j + 1 : Nat) : Int)) (up b') ∧ ∀ z, up z ∈ R → AsGood (ent A) b' z := fun hbc => ih (j + 1) (by omega) b hb fun t z ht hz => by
      by_cases e : t = j
      · subst e
        rw [gj] at hz
        rw [← up_inj hz]
        exact hbc
      · exact hg t z (by omega) hz
    have ec := weight_f hA hcy
    have eb := weight_f hA hb
    by_cases c1 : cw (ent A) c * (b.length : Nat) > cw (ent A) b * (c.length : Nat)
    · obtain ⟨b', h1, h2, h3⟩ := take (.inl c1)
      exact ⟨b', h1, Ev.step step (Ev.bind ec (Ev.bind eb (Ev.congr (fun k => if_pos (by rw [w1, w2]; exact c1)) h2))), h3⟩
    · by_cases c2 : cw (ent A) c * (b.length : Nat) = cw (ent A) b * (c.length : Nat)
      · by_cases c3 : c.length < b.length
        · obtain ⟨b', h1, h2, h3⟩ := take (.inr ⟨c2.symm, .inl c3⟩)
          exact ⟨b', h1, Ev.step step (Ev.bind ec (Ev.bind eb (Ev.congr (fun k => if_neg (by rw [w1, w2]; exact c1)) (Ev.congr (fun k => if_pos (by rw [w1, w2]; exact c2)) (Ev.congr (fun k => if_pos (by omega)) h2))))), h3⟩
        · by_cases c4 : c.length = b.length
          · obtain ⟨t, et, hti⟩ := less_f c b (by omega) (by omega)
            by_cases c5 : t = true
            · obtain ⟨b', h1, h2, h3⟩ := take (.inr ⟨c2.symm, .inr ⟨c4, fun h => List.lt_asymm h (hti.1 c5)⟩⟩)
              exact ⟨b', h1, Ev.step step (Ev.bind ec (Ev.bind eb (Ev.congr (fun k => if_neg (by rw [w1, w2]; exact c1)) (Ev.congr (fun k => if_pos (by rw [w1, w2]; exact c2)) (Ev.congr (fun k => if_neg (by omega)) (Ev.congr (fun k => if_pos (by omega)) (Ev.bind et (Ev.congr (fun k => if_pos c5) h2)))))))), h3⟩
            · obtain ⟨b', h1, h2, h3⟩ := keep (.inr ⟨c2, .inr ⟨c4.symm, fun h => c5 (hti.2 h)⟩⟩)
              exact ⟨b', h1, Ev.step step (Ev.bind ec (Ev.bind eb (Ev.congr (fun k => if_neg (by rw [w1, w2]; exact c1)) (Ev.congr (fun k => if_pos (by rw [w1, w2]; exact c2)) (Ev.congr (fun k => if_neg (by omega)) (Ev.congr (fun k => if_pos (by omega)) (Ev.bind et (Ev.congr (fun k => if_neg c5) h2)))))))), h3⟩
          · obtain ⟨b', h1, h2, h3⟩ := keep (.inr ⟨c2, .inl (by omega)⟩)
            exact ⟨b', h1, Ev.step step (Ev.bind ec (Ev.bind eb (Ev.congr (fun k => if_neg (by rw [w1, w2]; exact c1)) (Ev.congr (fun k => if_pos (by rw [w1, w2]; exact c2)) (Ev.congr (fun k => if_neg (by omega)) (Ev.congr (fun k => if_neg (by omega)) h2)))))), h3⟩
      · obtain ⟨b', h1, h2, h3⟩ := keep (.inl (by omega))
        exact ⟨b', h1, Ev.step step (Ev.bind ec (Ev.bind eb (Ev.congr (fun k => if_neg (by rw [w1, w2]; exact c1)) (Ev.congr (fun k => if_neg (by rw [w1, w2]; exact c2)) h2)))), h3⟩
theorem best_f (hA : Arg n A) : ((∀ z, ¬ Cy n (ent A) z) ∧ Ev (fun k => r5best.f k A) []) ∨ ∃ b, Cy n (ent A) b ∧ Ev (fun k => r5best.f k A) (up b) ∧ ∀ z, Cy n (ent A) z → AsGood (ent A) b z := by
  obtain ⟨R, eR, hR, lR⟩ := Cycles_f hA
  by_cases h0 : R = []
  · subst h0
    refine .inl ⟨fun z hz => (by have := (hR (up z)).2 ⟨z, rfl, hz⟩; cases this), ?_⟩
    unfold r5best.f
    refine Ev.bind eR (ev_now fun k => ?_)
    simp only [r5best.l0]
    rw [if_neg (by simp)]
  · have h1 : 0 < R.length := List.length_pos_iff.2 h0
    obtain ⟨c, hc, hcy⟩ := (hR R[0]).1 (List.getElem_mem h1)
    have g0 : R.getD 0 [] = up c := by rw [List.getD_eq_getElem?_getD, List.getElem?_eq_getElem h1]; exact hc
    obtain ⟨b, hb, eb, hg⟩ := best_l0 hA R (fun c hc => (hR c).1 hc) lR (R.length - 1) 1 (by omega) c hcy (fun t z ht hz => by
      obtain rfl : t = 0 := by omega
      rw [g0] at hz
      rw [← up_inj hz]
      exact AsGood.refl c)
    refine .inr ⟨b, hb, ?_, fun z hz => hg z ((hR (up z)).2 ⟨z, rfl, hz⟩)⟩
    unfold r5best.f
    refine Ev.bind eR (Ev.step (fun k => ?_) eb)
    simp only [r5best.l0]
    rw [if_pos (by omega), if_pos (by omega), if_pos (by simp)]
    show r5best.l0 k A (R.getD 0 []) R _ = _
    rw [g0, show wrap64 ((0 : Int) + 1) = ((1 : Nat) : Int) from wr1 0 (by omega)]
theorem RSpeed_f (hA : Arg n A) : ((∀ z, ¬ Cy n (ent A) z) ∧ (∀ k i, Seen n (n + 1) 0 k i → powf n (ent A) k i i = NEV) ∧ Ev (fun k => r5best.f k A) [] ∧ Ev (fun k => r5Speed.f k A) (0, 0, 10)) ∨
    ∃ b num den, Cy n (ent A) b ∧ Ev (fun k => r5best.f k A) (up b) ∧ (∀ z, Cy n (ent A) z → AsGood (ent A) b z) ∧ Top n (ent A) (Seen n (n + 1) 0) num den ∧ cw (ent A) b * den = num * (b.length : Nat) ∧ Ev (fun k => r5Speed.f k A) (num, den, 0) := by
  have h6 := hA.six
  have eM : Ev (fun k => r5Matrix.f k A) true := by
    rcases Matrix_f A with ⟨_, h⟩ | ⟨h, _⟩
    · exact h
    · exact absurd ⟨n, hA⟩ h
  rcases best_f hA with ⟨hno, eb⟩ | ⟨b, hb, eb, hg⟩
  · refine .inl ⟨hno, fun k i hS => ?_, eb, ?_⟩
    · by_cases e : powf n (ent A) k i i = NEV
      · exact e
      · exfalso
        obtain ⟨v, hv, v0, vL, vw⟩ := pow_att k i i hS.2.1 hS.2.1 e
        have hm := mean_le (num := -1000000) (den := 1) (fun c hc => absurd hc (hno c)) k v hv (by rw [v0, vL])
        have := (wt_bd hA.bd hv).1
        have := hS.1
        omega
    · unfold r5Speed.f
      exact Ev.bind eM (Ev.congr (fun k => if_pos rfl) (Ev.bind eb (ev_some fun k => if_pos rfl)))
  · have bb := cw_bd hA hb
    have ub := up_length b
    have hmean : ∀ (L : Nat) (v : Nat → Nat), Wk n (ent A) v L → v 0 = v L → wt (ent A) v L * ((b.length : Nat) : Int) ≤ cw (ent A) b * (L : Nat) := mean_le (fun c hc => (hg c hc).mean)
    have hwk := hb.wk
    have e0 : cyc b 0 = cyc b b.length := by rw [cyc_zero, cyc_len]
    have hi := hwk.lt 0 (by omega)
    have hge := pow_ge hA.bd (by omega) b.length (cyc b) (by omega) hwk
    rw [← e0] at hge
    have n1 : (NEV : Int) = -1152921504606846976 := rfl
    have hne : powf n (ent A) b.length (cyc b 0) (cyc b 0) ≠ NEV := fun e => by
      rw [e] at hge
      have := bb.1
      unfold cw at this
      omega
    have hx : powf n (ent A) b.length (cyc b 0) (cyc b 0) = cw (ent A) b := by
      obtain ⟨v, hv, v0, vL, vw⟩ := pow_att b.length _ _ hi hi hne
      have := hmean b.length v hv (by rw [v0, vL])
      rw [vw] at this
      have := Int.le_of_mul_le_mul_right this (by omega)
      unfold cw at this ⊢
      omega
    obtain ⟨g, eg, hgc⟩ := gcd_f (cw (ent A) b) (b.length : Int) (by omega) (by omega) (by omega) (by omega)
    have gp := hgc.pos (.inr (by omega))
    have hT := Top.make (B := Seen n (n + 1) 0) hx (by omega) bb.1 bb.2.1 bb.2.2.1 bb.2.2.2 hgc ⟨bb.2.2.1, hi, .inl (by have := hb.len; omega)⟩ (fun k' i' hS hn => by
      obtain ⟨v, hv, v0, vL, vw⟩ := pow_att k' i' i' hS.2.1 hS.2.1 hn
      rw [← vw]
      exact hmean k' v hv (by rw [v0, vL]))
    have eg' : Ev (fun k => r5gcd.f k (cw (ent A) b) ((up b).length : Int)) g := by
      rw [ub]
      refine Ev.congr (fun k => ?_) eg
      exact rgcd_eq k _ _
    have hval : cw (ent A) b * Int.tdiv (b.length : Int) g = Int.tdiv (cw (ent A) b) g * (b.length : Nat) := by
      obtain ⟨u, hu⟩ := hgc.left
      obtain ⟨v, hv⟩ := hgc.right
      have e1 : Int.tdiv (cw (ent A) b) g = u := by rw [hu]; exact Int.mul_tdiv_cancel_left _ (by omega)
      have e2 : Int.tdiv (b.length : Int) g = v := by rw [hv]; exact Int.mul_tdiv_cancel_left _ (by omega)
      rw [e1, e2, hu, hv, Int.mul_comm g u, Int.mul_assoc]
    refine .inr ⟨b, _, _, hb, eb, hg, hT, hval, ?_⟩
    have dd := hT.den0
    have d6 := hT.den6
    have l1 := hT.lo
    have l2 := hT.hi
    have epace : Ev (fun k => r5pace.f k A (up b)) (Int.tdiv (cw (ent A) b) g, Int.tdiv (b.length : Int) g) := by
      unfold r5pace.f
      refine Ev.bind (weight_f hA hb) (Ev.bind eg' (ev_some fun k => ?_))
      rw [if_neg (by omega), wr (x := Int.tdiv (cw (ent A) b) g) (by omega) (by omega), ub, ← Int.tdiv_eq_ediv_of_nonneg (by omega : (0 : Int) ≤ (b.length : Int)), wr (by omega) (by omega)]
    unfold r5Speed.f
    exact Ev.bind eM (Ev.congr (fun k => if_pos rfl) (Ev.bind eb (Ev.congr (fun k => if_neg (by omega)) (Ev.bind epace (Ev.now _)))))
theorem RSpeed_no {A : List (List Int)} (h : ¬ ∃ n, Arg n A) : Ev (fun k => r5Speed.f k A) (0, 0, 2) := by
  have eM : Ev (fun k => r5Matrix.f k A) false := by
    rcases Matrix_f A with ⟨h', _⟩ | ⟨_, h'⟩
    · exact absurd h' h
    · exact h'
  unfold r5Speed.f
  exact Ev.bind eM (ev_some fun k => if_neg (by decide))
end
theorem copr' {p q : Int} {m : Nat} (hp : ∀ d : Int, d ∣ p → d ∣ q → d ∣ 1) (h : q ∣ p * (m : Nat)) : q ∣ (m : Int) := by
  have hc : Nat.Coprime q.natAbs p.natAbs := by
    have h1 := hp ((Nat.gcd q.natAbs p.natAbs : Nat) : Int) (Int.ofNat_dvd_left.2 (Nat.gcd_dvd_right _ _)) (Int.ofNat_dvd_left.2 (Nat.gcd_dvd_left _ _))
    exact Nat.dvd_one.1 (Int.natCast_dvd_natCast.1 h1)
  have h2 : q.natAbs ∣ p.natAbs * m := by
    have := Int.natAbs_dvd_natAbs.2 h
    rwa [Int.natAbs_mul, Int.natAbs_natCast] at this
  exact Int.natAbs_dvd.1 (Int.natCast_dvd_natCast.2 (hc.dvd_of_dvd_mul_left h2))
theorem Top.uniq {n : Nat} {a : Nat → Nat → Int} {num den num' den' : Int} (h : Top n a (Seen n (n + 1) 0) num den) (h' : Top n a (Seen n (n + 1) 0) num' den') : num = num' ∧ den = den' := by
  have d0 := h.den0
  have d0' := h'.den0
  have cross1 : ∀ {p q p' q' : Int}, Top n a (Seen n (n + 1) 0) p q → Top n a (Seen n (n + 1) 0) p' q' → p * q' ≤ p' * q := by
    intro p q p' q' t t'
    obtain ⟨k, i, hB, hne, he⟩ := t.att
    have h2 := t'.top k i hB hne
    have q0 := t.den0
    have hk := hB.1
    have hk0 : (0 : Int) < (k : Nat) := by omega
    refine Int.le_of_mul_le_mul_right (a := ((k : Nat) : Int)) ?_ hk0
    have e1 : p * q' * (k : Nat) = p * (k : Nat) * q' := by rw [Int.mul_assoc, Int.mul_comm q', ← Int.mul_assoc]
    have e2 : p' * q * (k : Nat) = p' * (k : Nat) * q := by rw [Int.mul_assoc, Int.mul_comm q, ← Int.mul_assoc]
    rw [e1, e2, ← he]
    have := Int.mul_le_mul_of_nonneg_right h2 (Int.le_of_lt q0)
    have e3 : powf n a k i i * q * q' = powf n a k i i * q' * q := by rw [Int.mul_assoc, Int.mul_comm q, ← Int.mul_assoc]
    rw [e3]
    exact this
  have eq : num * den' = num' * den := Int.le_antisymm (cross1 h h') (cross1 h' h)
  obtain ⟨m, rfl⟩ : ∃ m : Nat, den = (m : Int) := ⟨den.toNat, by omega⟩
  obtain ⟨m', rfl⟩ : ∃ m : Nat, den' = (m : Int) := ⟨den'.toNat, by omega⟩
  have a1 : (m : Int) ∣ (m' : Int) := copr' h.low ⟨num', by rw [eq, Int.mul_comm]⟩
  have a2 : (m' : Int) ∣ (m : Int) := copr' h'.low ⟨num, by rw [← eq, Int.mul_comm]⟩
  have e := Nat.dvd_antisymm (Int.natCast_dvd_natCast.1 a1) (Int.natCast_dvd_natCast.1 a2)
  subst e
  exact ⟨Int.eq_of_mul_eq_mul_right (by omega) eq, rfl⟩
end Go.Proofs.Ythjmfbmffchicaa.Pure
end
section
namespace Go.Proofs.Ythjmfbmffchicaa.Pure
open Go.RowKit Go.Proofs.Ythjmfbmffchicaa.V Go.Proofs.YthjmfbmffchicaaW.PrintWords Go.Proofs.YthjmfbmffchicaaW.PrintLast Go.Proofs.YthjmfbmffchicaaW.PrintMore
open Go.Proofs.Ythjmfbmffchicaa.Mp
theorem vec_next (f : Nat → Int) (j : Nat) : vec j f ++ [f j] = vec (j + 1) f := by simp [vec, List.range_succ]
theorem rows_next (n : Nat) (f : Nat → Nat → Int) (i : Nat) : ((List.range i).map fun a => vec n (f a)) ++ [vec n (f i)] = (List.range (i + 1)).map fun a => vec n (f a) := by simp [List.range_succ]
section
variable {n : Nat} {A : List (List Int)} {num den : Int}
theorem scaled_l1 (hA : Arg n A) (h1 : -6000 ≤ num) (h2 : num ≤ 6000) (h3 : 0 ≤ den) (h4 : den ≤ 6) (i : Nat) (hi : i < n) (r : List (List Int))
    (hr : Ev (fun k => r5scaled.l0 k A ((List.range (i + 1)).map fun p => vec n (slackf num den (ent A) p)) ((i + 1 : Nat) : Int) num den) r) : ∀ d j, j + d = n →
    Ev (fun k => r5scaled.l1 k A ((List.range i).map fun p => vec n (slackf num den (ent A) p)) (i : Int) (vec j (slackf num den (ent A) i)) (j : Int) num den) r := by
  have h6 := hA.six
  have hl := hA.is.1
  intro d
  induction d with
  | zero =>
    intro j hj
    obtain rfl : j = n := by omega
    refine Ev.step (fun k => ?_) hr
    simp only [r5scaled.l1]
    rw [if_neg (by omega), List.length_map, List.length_range, if_pos (by omega), wr1 i (by omega), rows_next]
  | succ d ih =>
    intro j hj
    have hj' : j < n := by omega
    have e2 := hA.is.2 i hi
    refine Ev.step (fun k => ?_) (ih (j + 1) (by omega))
    simp only [r5scaled.l1]
    rw [if_pos (by omega), if_pos (by omega), if_pos (by omega), if_pos (by omega), rdL, if_pos (by omega), rdI, vec_length, wr1 j (by omega), ← vec_next]
    show (if ent A i j = -1152921504606846976 then _ else _) = _
    by_cases e : ent A i j = NEV
    · rw [if_pos (show ent A i j = -1152921504606846976 from e), if_pos (by omega), show slackf num den (ent A) i j = -1152921504606846976 from if_pos e]
    · have b := (hA.bd i j hi hj').resolve_left e
      have m : -6000 ≤ den * ent A i j ∧ den * ent A i j ≤ 6000 := by
        have : den = 0 ∨ den = 1 ∨ den = 2 ∨ den = 3 ∨ den = 4 ∨ den = 5 ∨ den = 6 := by omega
        rcases this with rfl | rfl | rfl | rfl | rfl | rfl | rfl <;> omega
      rw [if_neg (show ¬ ent A i j = -1152921504606846976 from e), if_pos (by omega), show slackf num den (ent A) i j = den * ent A i j - num from if_neg e]
      show r5scaled.l1 k A _ _ (_ ++ [wrap64 (wrap64 (den * ent A i j) - num)]) _ num den = _
      rw [wr (x := den * ent A i j) (by omega) (by omega), wr (by omega) (by omega)]
theorem scaled_f (hA : Arg n A) (h1 : -6000 ≤ num) (h2 : num ≤ 6000) (h3 : 0 ≤ den) (h4 : den ≤ 6) : Ev (fun k => r5scaled.f k A num den) (mat n (slackf num den (ent A))) := by
  have h6 := hA.six
  have hl := hA.is.1
  have key : ∀ d i, i + d = n → Ev (fun k => r5scaled.l0 k A ((List.range i).map fun p => vec n (slackf num den (ent A) p)) (i : Int) num den) (mat n (slackf num den (ent A))) := by
    intro d
    induction d with
    | zero =>
      intro i hi
      obtain rfl : i = n := by omega
      refine ev_now fun k => ?_
      simp only [r5scaled.l0]
      rw [if_neg (by omega)]
      rfl
    | succ d ih =>
      intro i hi
      refine Ev.step (fun k => ?_) (scaled_l1 hA h1 h2 h3 h4 i (by omega) _ (ih (i + 1) (by omega)) n 0 (by omega))
      simp only [r5scaled.l0]
      rw [if_pos (by omega)]
      rfl
  exact key n 0 (by omega)
end
def wsup (n : Nat) (s : Nat → Nat → Int) (k i j : Nat) : Int := sup (fun t => powf n s t i j) k
theorem wsup_star {n : Nat} {M : Int} {s : Nat → Nat → Int} (ha : BdM n n M s) (hM : 0 ≤ M) (hs : M * (n : Nat) < 1152921504606846976) (hp : NoPos n s) (h2 : M * (2 ^ n : Nat) < 100000000000000000) (hM2 : M < 100000000000000000) (i j : Nat) (hi : i < n) (hj : j < n) : wsup n s n i j = fwk s n i j := by
  have B := star_bd ha hM h2
  have h0 := (B i j hi hj).ge (by omega)
  refine Int.le_antisymm (sup_le h0 fun t ht => ?_) ?_
  · by_cases e : powf n s t i j = NEV
    · rw [e]; exact h0
    · obtain ⟨v, hv, v0, vL, vw⟩ := pow_att t i j hi hj e
      have := (walk_star ha hM hs hp h2 hM2 t hv).2
      rwa [v0, vL, vw] at this
  · rcases fwk_att (a := s) n (by omega) i j hi hj with e | ⟨L, v, hv, v0, vL, vw⟩
    · rw [e]; exact sup_nev _ _
    · obtain ⟨K, y, g, hlt, hxy, _, _⟩ := Go.red ha hM hs hp 1 (by omega) L ⟨v, hv, v0, vL, vw⟩
      rw [Nat.mul_one] at hlt
      have h1 := g.le_pow ha hM (Int.lt_of_le_of_lt (Int.mul_le_mul_of_nonneg_left (by omega) hM) hs)
      exact Int.le_trans (Int.le_trans hxy h1.2) (le_sup (h := fun t => powf n s t i j) hlt)
section
variable {n : Nat} {M : Int} {s : Nat → Nat → Int}
theorem walks_l2 (hn : n ≤ 6) (k i : Nat) (_hk : k ≤ 6) (hi : i < n) (r : List (List Int))
    (hr : Ev (fun q => r5walks.l1 q (mat n s) (mat n (upd (wsup n s k) (wsup n s (k + 1)) (i + 1) 0)) (mat n (powf n s k)) (k : Int) ((i + 1 : Nat) : Int)) r) : ∀ d j, j + d = n →
    Ev (fun q => r5walks.l2 q (mat n s) (mat n (upd (wsup n s k) (wsup n s (k + 1)) i j)) (mat n (powf n s k)) (k : Int) (i : Int) (j : Int)) r := by
  have l0 : (mat n s).length = n := mat_length _ _
  intro d
  induction d with
  | zero =>
    intro j hj
    obtain rfl : j = n := by omega
    refine Ev.step (fun q => ?_) hr
    simp only [r5walks.l2]
    rw [if_neg (by omega), wr1 i (by omega), upd_next]
  | succ d ih =>
    intro j hj
    have hj' : j < n := by omega
    have l1 : (mat n (upd (wsup n s k) (wsup n s (k + 1)) i j)).length = n := mat_length _ _
    have l2 : ((mat n (upd (wsup n s k) (wsup n s (k + 1)) i j)).getD i []).length = n := by rw [mat_get _ hi, vec_length]
    have l3 : (mat n (powf n s k)).length = n := mat_length _ _
    have l4 : ((mat n (powf n s k)).getD i []).length = n := by rw [mat_get _ hi, vec_length]
    have v1 : ((mat n (upd (wsup n s k) (wsup n s (k + 1)) i j)).getD i []).getD j 0 = wsup n s k i j := (upd_ent _ _ i j hi hj').trans (upd_old _ _ i j)
    have v2 : ((mat n (powf n s k)).getD i []).getD j 0 = powf n s k i j := ent_mat _ hi hj'
    refine Ev.step (fun q => ?_) (ih (j + 1) (by omega))
    simp only [r5walks.l2]
    rw [if_pos (by omega), if_pos (by omega), if_pos (by omega), if_pos (by omega), rdL, if_pos (by omega), if_pos (by omega), rdL, if_pos (by omega), rdI, rdI, v1, v2, toN, toN, wr1 j (by omega), mx_max]
    have := upd_set (n := n) (wsup n s k) (wsup n s (k + 1)) i j hi
    rw [show wsup n s (k + 1) i j = max (wsup n s k i j) (powf n s k i j) from rfl] at this
    rw [this]
theorem walks_l1 (hn : n ≤ 6) (k : Nat) (hk : k ≤ 6) (r : List (List Int))
    (hr : Ev (fun q => r5walks.l0 q (mat n s) (mat n (wsup n s (k + 1))) (mat n (powf n s k)) ((k + 1 : Nat) : Int)) r) : ∀ d i, i + d = n →
    Ev (fun q => r5walks.l1 q (mat n s) (mat n (upd (wsup n s k) (wsup n s (k + 1)) i 0)) (mat n (powf n s k)) (k : Int) (i : Int)) r := by
  have l0 : (mat n s).length = n := mat_length _ _
  intro d
  induction d with
  | zero =>
    intro i hi
    obtain rfl : i = n := by omega
    refine Ev.step (fun q => ?_) hr
    simp only [r5walks.l1]
    rw [if_neg (by omega), wr1 k (by omega), upd_all]
  | succ d ih =>
    intro i hi
    refine Ev.step (fun q => ?_) (walks_l2 hn k i hk (by omega) r (ih (i + 1) (by omega)) n 0 (by omega))
    simp only [r5walks.l1]
    rw [if_pos (by omega)]
    rfl
theorem prod_left (hn : n ≤ 6) (ha : BdM n n M s) (hM : 0 ≤ M) (hs : M * (10 : Nat) < 1152921504606846976) (k : Nat) (hk : k ≤ 6) : Ev (fun q => r5Product.f q (mat n s) (mat n (powf n s k))) (mat n (powf n s (k + 1))) := by
  have hk2 : M * ((k : Nat) : Int) ≤ M * (6 : Nat) := Int.mul_le_mul_of_nonneg_left (by omega) hM
  have hsum : M + M * ((k : Nat) : Int) < 1152921504606846976 := by omega
  have h := Product_mat (n := n) (by omega) ha (BdM.pow ha k) hsum hM (Int.mul_nonneg hM (by omega))
  have e : mat n (mulf n s (powf n s k)) = mat n (powf n s (k + 1)) := mat_congr fun i j hi hj => by
    have := pow_add (n := n) ha hM 1 k (by rw [show ((1 + k : Nat) : Int) = 1 + (k : Int) by omega, Int.mul_add]; omega) hi hj
    rw [Nat.add_comm k 1, this]
    exact mul_congr (fun q hq => (one_mul ha (by omega) hi hq).symm) (fun _ _ => rfl)
  rwa [e] at h
theorem walks_l0 (hn : n ≤ 6) (ha : BdM n n M s) (hM : 0 ≤ M) (hs : M * (10 : Nat) < 1152921504606846976) : ∀ d k, (k + 1) + d = n →
    Ev (fun q => r5walks.l0 q (mat n s) (mat n (wsup n s (k + 1))) (mat n (powf n s k)) ((k + 1 : Nat) : Int)) (mat n (wsup n s n)) := by
  have l0 : (mat n s).length = n := mat_length _ _
  intro d
  induction d with
  | zero =>
    intro k hk
    obtain rfl : n = k + 1 := by omega
    refine ev_now fun q => ?_
    simp only [r5walks.l0]
    rw [if_neg (by omega)]
  | succ d ih =>
    intro k hk
    have h1 := walks_l1 (s := s) hn (k + 1) (by omega) _ (ih (k + 1) (by omega)) n 0 (by omega)
    rw [← upd_zero] at h1
    refine Ev.step (f := fun q => (r5Product.f q (mat n s) (mat n (powf n s k))).bind fun t => r5walks.l1 q (mat n s) (mat n (wsup n s (k + 1))) t ((k + 1 : Nat) : Int) ((0 : Nat) : Int)) (fun q => ?_) (Ev.bind (prod_left hn ha hM hs k (by omega)) h1)
    simp only [r5walks.l0]
    rw [if_pos (by omega)]
    rfl
theorem walks_f (hn1 : 1 ≤ n) (hn : n ≤ 6) (ha : BdM n n M s) (hM : 0 ≤ M) (hM2 : M ≤ 100000) (hp : NoPos n s) : Ev (fun q => r5walks.f q (mat n s)) (mat n (fwk s n)) := by
  have t6 := pow6 hn
  have m2 : M * ((2 ^ n : Nat) : Int) ≤ 100000 * ((2 ^ n : Nat) : Int) := Int.mul_le_mul_of_nonneg_right hM2 (Int.natCast_nonneg _)
  have mn : M * ((n : Nat) : Int) ≤ 100000 * ((n : Nat) : Int) := Int.mul_le_mul_of_nonneg_right hM2 (by omega)
  have h := walks_l0 hn ha hM (by omega) (n - 1) 0 (by omega)
  have e1 : mat n (wsup n s (0 + 1)) = mat n onef := mat_congr fun i j _ _ => by
    show max NEV (onef i j) = onef i j
    refine Int.max_eq_right ?_
    unfold onef
    split <;> decide
  rw [e1, mat_congr (fun i j hi hj => wsup_star ha hM (by omega) hp (by omega) (by omega) i j hi hj)] at h
  unfold r5walks.f
  rw [mat_length]
  exact Ev.bind (One_f n (by omega)) (Ev.bind (One_f n (by omega)) h)
end
def potf (_n : Nat) (d : Nat → Nat → Int) (j i : Nat) : Int := max 0 (sup (d i) j)
section
variable {n : Nat} {A : List (List Int)}
theorem max_sup (x : Int) (f : Nat → Int) (j : Nat) : max (max x (sup f j)) (f j) = max x (sup f (j + 1)) := by
  simp only [sup]; omega
theorem Potential_l1 (hA : Arg n A) (d : Nat → Nat → Int) (i : Nat) (hi : i < n) (r : List Int × Int) (hr : Ev (fun k => r5Potential.l0 k A (mat n d) (vec (i + 1) (potf n d n)) ((i + 1 : Nat) : Int)) r) : ∀ e j, j + e = n →
    Ev (fun k => r5Potential.l1 k A (mat n d) (vec i (potf n d n)) (i : Int) (potf n d j i) (j : Int)) r := by
  have h6 := hA.six
  have hl := hA.is.1
  intro e
  induction e with
  | zero =>
    intro j hj
    obtain rfl : j = n := by omega
    refine Ev.step (fun k => ?_) hr
    simp only [r5Potential.l1]
    rw [if_neg (by omega), vec_length, if_pos (by omega), wr1 i (by omega), vec_next]
  | succ e ih =>
    intro j hj
    have hj' : j < n := by omega
    have l1 : (mat n d).length = n := mat_length _ _
    have l2 : ((mat n d).getD i []).length = n := by rw [mat_get _ hi, vec_length]
    have v : ((mat n d).getD i []).getD j 0 = d i j := ent_mat _ hi hj'
    refine Ev.step (fun k => ?_) (ih (j + 1) (by omega))
    simp only [r5Potential.l1]
    rw [if_pos (by omega), if_pos (by omega), if_pos (by omega), if_pos (by omega), rdL, if_pos (by omega), rdI, v, wr1 j (by omega), mx_max]
    show r5Potential.l1 k A _ _ _ (max (max 0 (sup (d i) j)) (d i j)) _ = _
    rw [max_sup]
    rfl
theorem Potential_l0 (hA : Arg n A) (d : Nat → Nat → Int) : ∀ e i, i + e = n → Ev (fun k => r5Potential.l0 k A (mat n d) (vec i (potf n d n)) (i : Int)) (vec n (potf n d n), 0) := by
  have h6 := hA.six
  have hl := hA.is.1
  intro e
  induction e with
  | zero =>
    intro i hi
    obtain rfl : i = n := by omega
    refine ev_now fun k => ?_
    simp only [r5Potential.l0]
    rw [if_neg (by omega)]
  | succ e ih =>
    intro i hi
    refine Ev.step (fun k => ?_) (Potential_l1 hA d i (by omega) _ (ih (i + 1) (by omega)) n 0 (by omega))
    simp only [r5Potential.l0]
    rw [if_pos (by omega)]
    rfl
theorem Potential_eq (hA : Arg n A) (ra : Rows A) : ∃ u e, Ev (fun k => line_Potential.f k A) (u, e) ∧ Ev (fun k => r5Potential.f k A) (u, e) ∧ u.length ≤ 6 := by
  have h6 := hA.six
  have hl := hA.is.1
  rcases looked_f hA ra with ⟨hno, el, _⟩ | ⟨num, den, ht, ep, el⟩
  · refine ⟨[], 10, ?_, ?_, by simp⟩
    · unfold line_Potential.f
      exact Ev.bind el (ev_some fun k => if_neg (by decide))
    · rcases RSpeed_f hA with ⟨_, _, _, es⟩ | ⟨b, num, den, hb, _, _, ht, _⟩
      · unfold r5Potential.f
        exact Ev.bind es (ev_some fun k => if_neg (by decide))
      · obtain ⟨k, i, hS, hne, _⟩ := ht.att
        exact absurd (hno k i hS) hne
  · rcases RSpeed_f hA with ⟨_, hno, _, _⟩ | ⟨b, num', den', hb, _, _, ht', _, es⟩
    · obtain ⟨k, i, hS, hne, _⟩ := ht.att
      exact absurd (hno k i hS) hne
    · obtain ⟨e1, e2⟩ := Top.uniq ht ht'
      subst e1
      subst e2
      have hbd := slack_bd hA.bd ht
      have hp := slack_nopos h6 hA.bd ht
      have hB := eig_bd h6 hA.bd ht
      have d0 := ht.den0
      refine ⟨vec n (potf n (fwk (slackf num den (ent A)) n) n), 0, ?_, ?_, by rw [vec_length]; exact h6⟩
      · have hz : ∀ j, j < n → Bd 0 ((List.replicate n (0 : Int)).getD j 0) := fun j hj => by
          rw [List.getD_eq_getElem?_getD, List.getElem?_replicate, if_pos hj]
          exact .inr ⟨(by decide : -(0 : Int) ≤ 0), (by decide : (0 : Int) ≤ 0)⟩
        have eo := on_f (n := n) (M := 768000) (N := 0) (A := mat n (fwk (slackf num den (ent A)) n)) (x := List.replicate n 0) (by omega) (isMat_mat n _) (by simp) (fun i j hi hj => by rw [ent_mat _ hi hj]; exact hB i j hi hj) hz (by omega) (by omega) (by omega)
        have e : vec n (onf n (ent (mat n (fwk (slackf num den (ent A)) n))) (fun j => (List.replicate n (0 : Int)).getD j 0)) = vec n (potf n (fwk (slackf num den (ent A)) n) n) := vec_congr fun i hi => by
          have e1 : onf n (ent (mat n (fwk (slackf num den (ent A)) n))) (fun j => (List.replicate n (0 : Int)).getD j 0) i = sup (fwk (slackf num den (ent A)) n i) n := sup_congr fun j hj => by
            rw [ent_mat _ hi hj]
            show pl _ ((List.replicate n (0 : Int)).getD j 0) = _
            rw [List.getD_eq_getElem?_getD, List.getElem?_replicate, if_pos hj]
            show pl (fwk (slackf num den (ent A)) n i j) 0 = _
            unfold pl
            split
            · rename_i h; exact h.symm
            · rw [if_neg (by decide)]; omega
          rw [e1]
          have t6 := pow6 h6
          have dg := fwk_diag hbd (by omega) (by omega) hp (k := n) (by omega) hi
          have := le_sup (h := fwk (slackf num den (ent A)) n i) hi
          rw [dg] at this
          unfold potf
          omega
        rw [e] at eo
        unfold line_Potential.f
        refine Ev.bind el (Ev.congr (fun k => if_pos rfl) (Ev.congr (f := fun k => (lgon.f k (mat n (fwk (slackf num den (ent A)) n)) (List.replicate n 0)).bind fun t => some (t, (0 : Int))) (fun k => ?_) (Ev.bind eo (Ev.now _))))
        rw [if_pos (by omega), toN, if_pos (by omega), hl]
      · unfold r5Potential.f
        exact Ev.bind es (Ev.congr (fun k => if_pos rfl) (Ev.bind (scaled_f hA ht.lo ht.hi (show (0 : Int) ≤ den by omega) ht.den6) (Ev.bind (walks_f hA.one h6 hbd (by omega) (by omega) hp) (Potential_l0 hA _ n 0 (by omega)))))
theorem Potential_no {A : List (List Int)} (ra : Rows A) (h : ¬ ∃ n, Arg n A) : Ev (fun k => line_Potential.f k A) ([], 2) ∧ Ev (fun k => r5Potential.f k A) ([], 2) := by
  have eo := ((of_f A ra).resolve_left (fun h2 => h h2.1)).2
  have e1 : Ev (fun k => line_looked.f k A) ([], 0, 0, [], [], 2) := by
    unfold line_looked.f
    exact Ev.bind eo (ev_some fun k => if_neg (by decide))
  constructor
  · unfold line_Potential.f
    exact Ev.bind e1 (ev_some fun k => if_neg (by decide))
  · unfold r5Potential.f
    exact Ev.bind (RSpeed_no h) (ev_some fun k => if_neg (by decide))
theorem rconn_l0 {n : Nat} (hn : n ≤ 6) (d : Nat → Nat → Int) : ∀ e i, i + e = n → ∃ b, Ev (fun k => r5connected.l0 k (mat n d) (i : Int)) b ∧ (b = true ↔ ∀ p q, i ≤ p → p < n → q < n → d p q ≠ NEV) := by
  have l0 : (mat n d).length = n := mat_length _ _
  intro e
  induction e with
  | zero =>
    intro i hi
    refine ⟨true, ev_now fun k => ?_, fun _ p q h1 h2 => by omega, fun _ => rfl⟩
    simp only [r5connected.l0]
    rw [if_neg (by omega)]
  | succ e ih =>
    intro i hi
    have hi' : i < n := by omega
    have l1 : ((mat n d).getD i []).length = n := by rw [mat_get _ hi', vec_length]
    obtain ⟨t, et, hti⟩ := has_f ((mat n d).getD i []) (by omega) (-1152921504606846976)
    have hti' : t = true ↔ ∃ q, q < n ∧ d i q = NEV := by
      rw [hti]
      constructor
      · rintro ⟨q, h1, h2⟩
        rw [l1] at h1
        exact ⟨q, h1, by have : ((mat n d).getD i []).getD q 0 = d i q := ent_mat _ hi' h1
                         rw [← this]; exact h2⟩
      · rintro ⟨q, h1, h2⟩
        exact ⟨q, by omega, by have : ((mat n d).getD i []).getD q 0 = d i q := ent_mat _ hi' h1
                               rw [this]; exact h2⟩
    have step : ∀ k, r5connected.l0 (k + 1) (mat n d) (i : Int) = (r5has.f k ((mat n d).getD i []) (-1152921504606846976)).bind fun t => if t = true then some false else r5connected.l0 k (mat n d) ((i + 1 : Nat) : Int) := fun k => by
      simp only [r5connected.l0]
      rw [if_pos (by omega), if_pos (by omega), rdL, wr1 i (by omega)]
    by_cases h : t = true
    · obtain ⟨q, h1, h2⟩ := hti'.1 h
      exact ⟨false, Ev.step step (Ev.bind et (ev_some fun k => if_pos h)), fun h => absurd h (by decide), fun hh => absurd h2 (hh i q (by omega) hi' h1)⟩
    · obtain ⟨b, hb, hbi⟩ := ih (i + 1) (by omega)
      refine ⟨b, Ev.step step (Ev.bind et (Ev.congr (fun k => if_neg h) hb)), ?_⟩
      rw [hbi]
      constructor
      · intro hh p q h1 h2 h3
        by_cases e2 : p = i
        · subst e2; exact fun e3 => h (hti'.2 ⟨q, h3, e3⟩)
        · exact hh p q (by omega) h2 h3
      · intro hh p q h1 h2 h3; exact hh p q (by omega) h2 h3
theorem rconnected_f (hA : Arg n A) : ∃ b, Ev (fun k => r5connected.f k A) b ∧ (b = true ↔ Conn n (ent A)) := by
  have h6 := hA.six
  have e1 := scaled_f (num := 0) (den := 0) hA (by omega) (by omega) (by omega) (by omega)
  have e0 : mat n (slackf 0 0 (ent A)) = mat n (zerof (ent A)) := mat_congr fun i j _ _ => by
    unfold slackf zerof mapf
    split
    · rfl
    · show 0 * ent A i j - 0 = 0
      omega
  rw [e0] at e1
  have e2 := walks_f (n := n) (M := 0) hA.one h6 (zero_bd n (ent A)) (by omega) (by omega) (zero_nopos n (ent A))
  obtain ⟨b, hb, hbi⟩ := rconn_l0 h6 (fwk (zerof (ent A)) n) n 0 (by omega)
  refine ⟨b, ?_, ?_⟩
  · unfold r5connected.f
    exact Ev.bind e1 (Ev.bind e2 hb)
  · rw [hbi, ← conn_iff h6]
    exact ⟨fun h i j hi hj => h i j (by omega) hi hj, fun h p q _ hp hq => h p q hp hq⟩
theorem matrix_yes (hA : Arg n A) : Ev (fun k => r5Matrix.f k A) true := by
  rcases Matrix_f A with ⟨_, h⟩ | ⟨h, _⟩
  · exact h
  · exact absurd ⟨n, hA⟩ h
theorem matrix_no {A : List (List Int)} (h : ¬ ∃ n, Arg n A) : Ev (fun k => r5Matrix.f k A) false := by
  rcases Matrix_f A with ⟨h', _⟩ | ⟨_, h'⟩
  · exact absurd h' h
  · exact h'
theorem RConnected_f (hA : Arg n A) : ∃ b, Ev (fun k => r5Connected.f k A) (b, 0) ∧ (b = true ↔ Conn n (ent A)) := by
  obtain ⟨b, hb, hbi⟩ := rconnected_f hA
  refine ⟨b, ?_, hbi⟩
  unfold r5Connected.f
  exact Ev.bind (matrix_yes hA) (Ev.congr (fun k => if_pos rfl) (Ev.bind hb (Ev.now _)))
end
end Go.Proofs.Ythjmfbmffchicaa.Pure
end
section
namespace Go.Proofs.Ythjmfbmffchicaa.Pure
open Go.RowKit Go.Proofs.Ythjmfbmffchicaa.V Go.Proofs.YthjmfbmffchicaaW.PrintWords Go.Proofs.YthjmfbmffchicaaW.PrintLast
open Go.Proofs.Ythjmfbmffchicaa.Mp
def Few (p : List (List Int)) : Prop := p.length ≤ 20 ∧ ∀ j, j < p.length → (p.getD j []).length ≤ 20
theorem Few.rows {p : List (List Int)} (h : Few p) : Rows p := fun i hi => by have := h.2 i hi; omega
theorem copy_l0 (A : List (List Int)) (h : Few A) : ∀ d i, i + d = A.length → Ev (fun k => l5copied.l0 k A (A.take i) (i : Int)) A := by
  intro d
  induction d with
  | zero =>
    intro i hi
    refine ev_now (fun k => ?_)
    simp only [l5copied.l0]
    rw [if_neg (by omega), List.take_of_length_le (by omega)]
  | succ d ih =>
    intro i hi
    refine Ev.step (fun k => ?_) (ih (i + 1) (by omega))
    simp only [l5copied.l0, Option.bind_some]
    have h2 := h.2 i (by omega)
    have h1 := h.1
    have hl : (A.take i).length = i := by rw [List.length_take]; omega
    rw [if_pos (by omega), if_pos (by omega), rdL, if_pos (by simp only [List.length_nil]; omega), if_pos (by omega), wr1 i (by omega), List.nil_append]
    have e : A.take i ++ [A.getD i []] = A.take (i + 1) := by
      rw [List.take_succ_eq_append_getElem (by omega : i < A.length), List.getD_eq_getElem?_getD, List.getElem?_eq_getElem (by omega : i < A.length)]
      rfl
    rw [e]
theorem copy_f (A : List (List Int)) (h : Few A) : Ev (fun k => l5copied.f k A) A := copy_l0 A h A.length 0 (by omega)
end Go.Proofs.Ythjmfbmffchicaa.Pure
end
section
namespace Go.Proofs.Ythjmfbmffchicaa.Pure
open Go.RowKit Go.Proofs.Ythjmfbmffchicaa.V Go.Proofs.YthjmfbmffchicaaW.PrintWords Go.Proofs.YthjmfbmffchicaaW.PrintLast
set_option maxRecDepth 100000 in
theorem alive_ev : Ev (fun k => l5alive.f k) true :=
  Ev.of l5alive.mono (k := 100) (by decide +kernel)
end Go.Proofs.Ythjmfbmffchicaa.Pure
end
section
namespace Go.Proofs.Ythjmfbmffchicaa.Pure
open Go.RowKit Go.Proofs.Ythjmfbmffchicaa.V Go.Proofs.YthjmfbmffchicaaW.PrintWords Go.Proofs.YthjmfbmffchicaaW.PrintLast
open Go.Proofs.Ythjmfbmffchicaa.Mp
theorem alive_walks : Ev (fun k => (l5alive.f k).bind fun t => some t) true := Ev.bind alive_ev (Ev.now true)
theorem nopos_top {n : Nat} {a : Nat → Nat → Int} {num den : Int} (h : Top n a (Seen n (n + 1) 0) num den) (hn : num ≤ 0) : NoPos n a := by
  intro k i hk hkn hi
  by_cases hne : powf n a k i i = NEV
  · rw [hne]; decide
  · have h1 := h.top k i ⟨hk, hi, .inl (by omega)⟩ hne
    have h2 := Int.mul_le_mul_of_nonneg_right hn (by omega : (0 : Int) ≤ (k : Nat))
    rw [Int.zero_mul] at h2
    refine Int.le_of_mul_le_mul_right (a := den) ?_ h.den0
    rw [Int.zero_mul]; omega
theorem nopos_none {n : Nat} {a : Nat → Nat → Int} (h : ∀ k i, Seen n (n + 1) 0 k i → powf n a k i i = NEV) : NoPos n a := by
  intro k i hk hkn hi
  rw [h k i ⟨hk, hi, .inl (by omega)⟩]; decide
section
variable {n : Nat} {A : List (List Int)}
theorem Star_eq (hA : Arg n A) (ra : Rows A) : ∃ S e, Ev (fun k => line_Star.f k A) (S, e) ∧ Ev (fun k => r5Star.f k A) (S, e) ∧ Rows S ∧ S.length ≤ 6 := by
  have h6 := hA.six
  have t6 := pow6 h6
  have eo := ((of_f A ra).resolve_right (fun h => h.1 ⟨n, hA⟩)).2
  obtain ⟨⟨num, den, f⟩, ep, hb⟩ := pace_f hA
  have eM := matrix_yes hA
  have both : NoPos n (ent A) → Ev (fun k => lgclosed.f k A) (mat n (fwk (ent A) n)) ∧ Ev (fun k => r5walks.f k A) (mat n (fwk (ent A) n)) := fun hp => by
    refine ⟨closed_f (by omega) hA.is hA.bd (by omega) (by omega) (by omega) hp, ?_⟩
    have := walks_f hA.one h6 hA.bd (by omega) (by omega) hp
    rwa [mat_ext hA.is] at this
  have rm : Rows (mat n (fwk (ent A) n)) := rows_mat n (by omega) _
  have lm : (mat n (fwk (ent A) n)).length ≤ 6 := by rw [mat_length]; exact h6
  rcases hb with ⟨e, h⟩ | ⟨e, h⟩
  · obtain rfl : f = false := e
    have bo := both (nopos_none h)
    refine ⟨_, 0, ?_, ?_, rm, lm⟩
    · unfold line_Star.f
      exact Ev.bind eo (Ev.congr (fun k => if_pos rfl) (Ev.bind ep (Ev.congr (fun k => if_neg (by simp)) (Ev.bind bo.1 (Ev.now _)))))
    · rcases RSpeed_f hA with ⟨_, _, eb, _⟩ | ⟨b, num', den', hb, _, _, ht', _⟩
      · unfold r5Star.f
        exact Ev.bind eM (Ev.congr (fun k => if_pos rfl) (Ev.bind eb (Ev.congr (fun k => if_pos rfl) (Ev.bind bo.2 (Ev.now _)))))
      · obtain ⟨k, i, hS, hne, _⟩ := ht'.att
        exact absurd (h k i hS) hne
  · obtain rfl : f = true := e
    rcases RSpeed_f hA with ⟨_, hno, _, _⟩ | ⟨b, num', den', hb, eb, _, ht', hv, _⟩
    · obtain ⟨k, i, hS, hne, _⟩ := h.att
      exact absurd (hno k i hS) hne
    · obtain ⟨e1, e2⟩ := Top.uniq h ht'
      have e1 : num = num' := e1
      have e2 : den = den' := e2
      subst e1
      subst e2
      have d0 : 0 < den := h.den0
      have bb := cw_bd hA hb
      have ub := up_length b
      have ew := weight_f hA hb
      by_cases hn : num > 0
      · have hw : cw (ent A) b > 0 := by
          have h1 : 0 < num * (b.length : Nat) := Int.mul_pos hn (by omega)
          rw [← hv] at h1
          exact Int.pos_of_mul_pos_left h1 d0
        refine ⟨[], 11, ?_, ?_, fun i hi => by simp at hi, by simp⟩
        · unfold line_Star.f
          exact Ev.bind eo (Ev.congr (fun k => if_pos rfl) (Ev.bind ep (Ev.congr (fun k => if_pos rfl) (ev_some fun k => if_pos hn))))
        · unfold r5Star.f
          exact Ev.bind eM (Ev.congr (fun k => if_pos rfl) (Ev.bind eb (Ev.congr (fun k => if_neg (by omega)) (Ev.bind ew (ev_some fun k => if_pos hw)))))
      · have hw : ¬ cw (ent A) b > 0 := fun hw => by
          have h1 : 0 < cw (ent A) b * den := Int.mul_pos hw d0
          have h2 := Int.mul_le_mul_of_nonneg_right (show num ≤ 0 by omega) (by omega : (0 : Int) ≤ (b.length : Nat))
          rw [Int.zero_mul] at h2
          omega
        have bo := both (nopos_top h (by omega))
        refine ⟨_, 0, ?_, ?_, rm, lm⟩
        · unfold line_Star.f
          exact Ev.bind eo (Ev.congr (fun k => if_pos rfl) (Ev.bind ep (Ev.congr (fun k => if_pos rfl) (Ev.congr (fun k => if_neg hn) (Ev.bind bo.1 (Ev.now _))))))
        · unfold r5Star.f
          exact Ev.bind eM (Ev.congr (fun k => if_pos rfl) (Ev.bind eb (Ev.congr (fun k => if_neg (by omega)) (Ev.bind ew (Ev.congr (fun k => if_neg hw) (Ev.bind bo.2 (Ev.now _)))))))
theorem Star_no {A : List (List Int)} (ra : Rows A) (h : ¬ ∃ n, Arg n A) : Ev (fun k => line_Star.f k A) ([], 2) ∧ Ev (fun k => r5Star.f k A) ([], 2) := by
  have eo := ((of_f A ra).resolve_left (fun h2 => h h2.1)).2
  constructor
  · unfold line_Star.f
    exact Ev.bind eo (ev_some fun k => if_neg (by decide))
  · unfold r5Star.f
    exact Ev.bind (matrix_no h) (ev_some fun k => if_neg (by decide))
theorem Connected_eq (hA : Arg n A) (ra : Rows A) : ∃ b, Ev (fun k => line_Connected.f k A) (b, 0) ∧ Ev (fun k => r5Connected.f k A) (b, 0) := by
  have eo := ((of_f A ra).resolve_right (fun h => h.1 ⟨n, hA⟩)).2
  obtain ⟨b, hb, hbi⟩ := connected_f hA
  rw [conn_iff hA.six] at hbi
  obtain ⟨c, hc, hci⟩ := RConnected_f hA
  have e : b = c := by
    cases b with
    | true => exact (hci.2 (hbi.1 rfl)).symm
    | false =>
      cases c with
      | false => rfl
      | true => exact absurd (hbi.2 (hci.1 rfl)) (by decide)
  subst e
  refine ⟨b, ?_, hc⟩
  unfold line_Connected.f
  exact Ev.bind eo (Ev.congr (fun k => if_pos rfl) (Ev.bind hb (Ev.now _)))
theorem Connected_none {A : List (List Int)} (ra : Rows A) (h : ¬ ∃ n, Arg n A) : Ev (fun k => line_Connected.f k A) (false, 2) ∧ Ev (fun k => r5Connected.f k A) (false, 2) := by
  have eo := ((of_f A ra).resolve_left (fun h2 => h h2.1)).2
  constructor
  · unfold line_Connected.f
    exact Ev.bind eo (ev_some fun k => if_neg (by decide))
  · unfold r5Connected.f
    exact Ev.bind (matrix_no h) (ev_some fun k => if_neg (by decide))
end
theorem LineWalks : ∀ (l0 : List (List Int)), l0.length ≤ 9223372036854775807 → (∀ r ∈ l0, r.length ≤ maxLen ∧ ∀ x ∈ r, (Lit.int .i64 x).wf = true) → ∃ k, l5LineWalks.f k l0 = some true := by
  intro A _ _
  apply Ev.rounds
  unfold l5LineWalks.f
  obtain ⟨fa, ea, hf⟩ := few_f A
  refine Ev.bind ea ?_
  cases fa with
  | false => exact Ev.congr (fun k => if_neg (by decide)) alive_walks
  | true =>
  have few : Few A := hf rfl
  have ra := few.rows
  have hlen := few.1
  refine Ev.congr (fun k => if_pos rfl) ?_
  obtain ⟨u, eu, p1, p2, lu⟩ : ∃ u e, Ev (fun k => line_Potential.f k A) (u, e) ∧ Ev (fun k => r5Potential.f k A) (u, e) ∧ u.length ≤ 6 := by
    by_cases hA : ∃ n, Arg n A
    · obtain ⟨n, hA⟩ := hA; exact Potential_eq hA ra
    · exact ⟨[], 2, (Potential_no ra hA).1, (Potential_no ra hA).2, by simp⟩
  obtain ⟨S, es, s1, s2, rS, lS⟩ : ∃ S e, Ev (fun k => line_Star.f k A) (S, e) ∧ Ev (fun k => r5Star.f k A) (S, e) ∧ Rows S ∧ S.length ≤ 6 := by
    by_cases hA : ∃ n, Arg n A
    · obtain ⟨n, hA⟩ := hA; exact Star_eq hA ra
    · exact ⟨[], 2, (Star_no ra hA).1, (Star_no ra hA).2, fun i hi => by simp at hi, by simp⟩
  obtain ⟨b, eb, b1, b2⟩ : ∃ b e, Ev (fun k => line_Connected.f k A) (b, e) ∧ Ev (fun k => r5Connected.f k A) (b, e) := by
    by_cases hA : ∃ n, Arg n A
    · obtain ⟨n, hA⟩ := hA
      obtain ⟨b, h⟩ := Connected_eq hA ra
      exact ⟨b, 0, h⟩
    · exact ⟨false, 2, Connected_none ra hA⟩
  have last : Ev (fun k => l5LineWalks.j1 k A A false) true := by
    refine Ev.step (f := fun k => (line_Connected.f k A).bind fun x => (r5Connected.f k A).bind fun y => if (x.1 == y.1) = true then (if x.2 = y.2 then ((l5rows.f k A A).bind fun t => if t = true then ((l5alive.f k).bind fun t => some t) else some false) else some false) else some false) (fun k => ?_) (Ev.bind b1 (Ev.bind b2 (Ev.congr (fun k => if_pos (by simp)) (Ev.congr (fun k => if_pos rfl) (Ev.bind (rows_f A (by omega) ra) (Ev.congr (fun k => if_pos rfl) alive_walks))))))
    simp only [l5LineWalks.j1]
    rw [if_neg (by decide)]
  have mid : Ev (fun k => l5LineWalks.j0 k A A false) true := by
    refine Ev.step (f := fun k => (line_Star.f k A).bind fun x => (r5Star.f k A).bind fun y => if x.2 = y.2 then ((l5rows.f k x.1 y.1).bind fun t => l5LineWalks.j1 k A A (!t)) else l5LineWalks.j1 k A A true) (fun k => ?_) (Ev.bind s1 (Ev.bind s2 (Ev.congr (fun k => if_pos rfl) (Ev.bind (rows_f S (by omega) rS) last))))
    simp only [l5LineWalks.j0]
    rw [if_neg (by decide)]
  exact Ev.bind (copy_f A few) (Ev.bind p1 (Ev.bind p2 (Ev.congr (fun k => if_pos rfl) (Ev.bind (same_f u (by omega)) mid))))
end Go.Proofs.Ythjmfbmffchicaa.Pure
end
section
namespace Go.Proofs.YthjmfbmffchicaaW.PrintWords
open Go.RowKit Go.Deep
section
variable {H : Type} {enc : TypeId × Value → H} {P : Program} {W : World} {base : Nat} {held : Bool}
theorem reads_int_rows {t e q : TypeId} (ht : P.underlying t = some (.slice e)) (he : P.underlying e = some (.slice q)) (hq : P.underlying q = some (.int .i64))
    (ce : P.cellsOf e = 1) (cq : P.cellsOf q = 1) {a : Option Addr} {len cap : Nat} {d : DataW H} {ps : List MemPlace}
    (h : DataW.Trod enc P W base (fun _ => true) held t (.slice a len cap) d ps) :
    ∃ l : List (List Int), len = l.length ∧ Kd.C (Kd.slice q (Kd.int .i64)) W a l.length l ∧ l.length ≤ cap ∧ ∀ r ∈ l, r.length ≤ maxLen ∧ ∀ x ∈ r, (Lit.int .i64 x).wf = true := by
  obtain ⟨fuel, hf⟩ := h
  rcases open_int_rows ht he hq ce cq hf with ⟨hcs, _⟩ | ⟨b, n, c, A, L, C, Z, hcs, _, hl, hm, _, hr⟩
  · simp [Value.cells] at hcs
    obtain ⟨rfl, rfl, rfl⟩ := hcs
    exact ⟨[], rfl, ⟨rfl, Nat.zero_le _, fun hn => absurd hn (by simp)⟩, Nat.zero_le _, fun r hr => by cases hr⟩
  · simp [Value.cells] at hcs
    obtain ⟨rfl, rfl, rfl⟩ := hcs
    have hlen : ((List.range len).map fun r => (Z r).take (L r)).length = len := by simp
    refine ⟨(List.range len).map fun r => (Z r).take (L r), hlen.symm, ?_, by omega, ?_⟩
    · rw [hlen]
      refine ⟨hlen, by unfold maxLen at hm; omega, fun hn => ⟨b, rfl, fun j p hj => ?_⟩⟩
      have hj2 : j < len := by
        have := (List.getElem?_eq_some_iff.1 hj).1
        simpa using this
      obtain ⟨h1, h2, h3, h4, h5, h6, h7⟩ := hr j (by omega)
      have hp : p = (Z j).take (L j) := by
        rw [List.getElem?_map, List.getElem?_range hj2] at hj
        simpa using hj.symm
      have hpl : p.length = L j := by rw [hp, List.length_take, h4]; omega
      refine ⟨[.slice (A j) (L j) (C j)], rfl, ⟨A j, C j, by rw [hpl], by omega, ?_⟩, fun i u hu => ?_⟩
      · refine ⟨rfl, by unfold maxLen at h3; omega, fun hn' => ?_⟩
        have hA : A j ≠ none := fun e => by have := h6 e; omega
        obtain ⟨a', ha'⟩ := Option.ne_none_iff_exists'.1 hA
        refine ⟨a', ha', fun i x hx => ⟨[.int .i64 x], rfl, rfl, fun i' u hu => ?_⟩⟩
        obtain ⟨hi, hx'⟩ := List.getElem?_eq_some_iff.1 hx
        cases i' with
        | zero =>
          simp at hu
          subst hu
          have hc := (h7 a' ha').2 i (by omega)
          show W.cell? (a'.add (i * (Kd.int .i64).sz + 0)) = _
          rw [show i * (Kd.int .i64).sz + 0 = i from by show i * 1 + 0 = i; omega, hc]
          congr 2
          subst hp
          rw [List.getElem_take] at hx'
          rw [← hx', List.getD_eq_getElem?_getD, List.getElem?_eq_getElem (by omega)]
          rfl
        | succ i' => simp at hu
      · cases i with
        | zero =>
          simp at hu
          subst hu
          show W.cell? (b.add (j * (Kd.slice q (Kd.int .i64)).sz + 0)) = _
          rw [show j * (Kd.slice q (Kd.int .i64)).sz + 0 = j from by show j * 1 + 0 = j; omega]
          exact h1
        | succ i => simp at hu
    · intro r hr'
      obtain ⟨j, hj, rfl⟩ := List.mem_map.1 hr'
      have hj2 : j < len := by simpa using hj
      obtain ⟨h1, h2, h3, h4, h5, h6, h7⟩ := hr j (by omega)
      exact ⟨by rw [List.length_take, h4]; omega, fun x hx => h5 x (List.mem_of_mem_take hx)⟩
end
end Go.Proofs.YthjmfbmffchicaaW.PrintWords
end
