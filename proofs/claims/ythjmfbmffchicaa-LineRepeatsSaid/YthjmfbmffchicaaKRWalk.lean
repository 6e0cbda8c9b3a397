/- Plain laws of walks in a graph whose arcs bear ints (minus infinity: no arc): powers are the greatest sums of walks of one length; closed walks are made of short ones; the greatest sums of all walks, vertex by vertex. Each lemma's bounds stand in it. -/
import Derived.Test.YthjmfbmffchicaaKRMat
namespace Go.Proofs.Ythjmfbmffchicaa.Mp
structure Wk (n : Nat) (a : Nat → Nat → Int) (v : Nat → Nat) (L : Nat) : Prop where
  lt : ∀ t, t ≤ L → v t < n
  arc : ∀ t, t < L → a (v (t + 1)) (v t) ≠ NEV
def wt (a : Nat → Nat → Int) (v : Nat → Nat) : Nat → Int
  | 0 => 0
  | L + 1 => wt a v L + a (v (L + 1)) (v L)
theorem wt_congr {a : Nat → Nat → Int} {u v : Nat → Nat} {L : Nat} (h : ∀ t, t ≤ L → u t = v t) : wt a u L = wt a v L := by
  induction L with
  | zero => rfl
  | succ L ih => simp only [wt]; rw [ih (fun t ht => h t (by omega)), h (L + 1) (by omega), h L (by omega)]
theorem wt_add (a : Nat → Nat → Int) (v : Nat → Nat) (p r : Nat) : wt a v (p + r) = wt a v p + wt a (fun t => v (t + p)) r := by
  induction r with
  | zero => simp [wt]
  | succ r ih =>
    show wt a v (p + r) + a (v (p + r + 1)) (v (p + r)) = wt a v p + (wt a (fun t => v (t + p)) r + a (v (r + 1 + p)) (v (r + p)))
    rw [ih, show p + r + 1 = r + 1 + p by omega, show p + r = r + p by omega]; omega
theorem Wk.shift {n : Nat} {a : Nat → Nat → Int} {v : Nat → Nat} {p r : Nat} (h : Wk n a v (p + r)) : Wk n a (fun t => v (t + p)) r :=
  ⟨fun t ht => h.lt (t + p) (by omega), fun t ht => by have := h.arc (t + p) (by omega); rw [show t + 1 + p = t + p + 1 by omega]; exact this⟩
theorem Wk.left {n : Nat} {a : Nat → Nat → Int} {v : Nat → Nat} {p L : Nat} (h : Wk n a v L) (hp : p ≤ L) : Wk n a v p :=
  ⟨fun t ht => h.lt t (by omega), fun t ht => h.arc t (by omega)⟩
theorem wt_bd {n : Nat} {M : Int} {a : Nat → Nat → Int} {v : Nat → Nat} (ha : BdM n n M a) {L : Nat} (h : Wk n a v L) : -(M * (L : Nat)) ≤ wt a v L ∧ wt a v L ≤ M * (L : Nat) := by
  induction L with
  | zero => simp [wt]
  | succ L ih =>
    have h1 := ih (h.left (by omega))
    have h2 := (ha _ _ (h.lt (L + 1) (by omega)) (h.lt L (by omega))).resolve_left (h.arc L (by omega))
    simp only [wt]
    rw [Int.natCast_succ, Int.mul_add]
    omega
theorem pow_ge {n : Nat} {M : Int} {a : Nat → Nat → Int} (ha : BdM n n M a) (hM : 0 ≤ M) : ∀ (L : Nat) (v : Nat → Nat), M * (L : Nat) < 1152921504606846976 → Wk n a v L → wt a v L ≤ powf n a L (v L) (v 0)
  | 0, v, _, h => by simp [wt, powf, onef]
  | L + 1, v, hs, h => by
    have hs' : M * (L : Nat) + M < 1152921504606846976 := by rw [Int.natCast_succ, Int.mul_add] at hs; omega
    have hu : Wk n a (fun t => v (t + 1)) L := Wk.shift (p := 1) (r := L) (by rw [Nat.add_comm]; exact h)
    have e : wt a v (L + 1) = a (v 1) (v 0) + wt a (fun t => v (t + 1)) L := by
      rw [Nat.add_comm L 1, wt_add]; simp [wt]
    have ih := pow_ge ha hM L _ (by omega) hu
    have hb := BdM.pow ha L (v (L + 1)) (v 1) (h.lt _ (by omega)) (h.lt _ (by omega))
    have hw := wt_bd ha hu
    have h0 := (ha (v 1) (v 0) (h.lt 1 (by omega)) (h.lt 0 (by omega))).resolve_left (h.arc 0 (by omega))
    have harc := h.arc 0 (by omega)
    have hL : 0 ≤ M * (L : Nat) := Int.mul_nonneg hM (by omega)
    have hle := le_sup (h := fun k => pl (powf n a L (v (L + 1)) k) (a k (v 0))) (h.lt 1 (by omega))
    have hn : powf n a L (v (L + 1)) (v 1) ≠ NEV := by
      intro e2
      have : wt a (fun t => v (t + 1)) L ≤ NEV := by rw [← e2]; exact ih
      unfold NEV at this
      omega
    show wt a v (L + 1) ≤ sup (fun k => pl (powf n a L (v (L + 1)) k) (a k (v 0))) n
    refine Int.le_trans ?_ hle
    show wt a v (L + 1) ≤ pl (powf n a L (v (L + 1)) (v 1)) (a (v 1) (v 0))
    unfold pl
    rw [if_neg hn, if_neg harc, e]
    have ih' : wt a (fun t => v (t + 1)) L ≤ powf n a L (v (L + 1)) (v 1) := ih
    omega
theorem pow_att {n : Nat} {a : Nat → Nat → Int} : ∀ (L : Nat) (i j : Nat), i < n → j < n → powf n a L i j ≠ NEV → ∃ v, Wk n a v L ∧ v 0 = j ∧ v L = i ∧ wt a v L = powf n a L i j
  | 0, i, j, hi, hj, h => by
    have e : i = j := by
      by_cases e : i = j
      · exact e
      · exact absurd (by simp [powf, onef, e]) h
    subst e
    exact ⟨fun _ => i, ⟨fun _ _ => hi, fun t ht => by omega⟩, rfl, rfl, by simp [wt, powf, onef]⟩
  | L + 1, i, j, hi, hj, h => by
    rcases sup_mem (fun k => pl (powf n a L i k) (a k j)) n with e | ⟨k, hk, e⟩
    · exact absurd e h
    · have hp : powf n a (L + 1) i j = pl (powf n a L i k) (a k j) := e
      have h1 : powf n a L i k ≠ NEV := fun e1 => h (by rw [hp, e1, pl_nev_left])
      have h2 : a k j ≠ NEV := fun e1 => h (by rw [hp, e1, pl_nev_right])
      obtain ⟨u, hu, u0, uL, uw⟩ := pow_att L i k hi hk h1
      refine ⟨fun t => if t = 0 then j else u (t - 1), ⟨fun t ht => ?_, fun t ht => ?_⟩, by simp, by simp [uL], ?_⟩
      · by_cases e0 : t = 0
        · simp [e0, hj]
        · simp only [e0, if_false]; exact hu.lt (t - 1) (by omega)
      · by_cases e0 : t = 0
        · subst e0; simp [u0, h2]
        · have := hu.arc (t - 1) (by omega)
          simp only [e0, if_false]
          rw [if_neg (by omega), show t + 1 - 1 = t - 1 + 1 by omega]; exact this
      · rw [Nat.add_comm L 1, wt_add, Nat.add_comm 1 L, hp]
        have e1 : wt a (fun t => (fun t => if t = 0 then j else u (t - 1)) (t + 1)) L = wt a u L := wt_congr fun t _ => by simp
        rw [e1, uw]
        unfold pl
        rw [if_neg h1, if_neg h2]
        simp [wt, u0]; omega
theorem php : ∀ (n : Nat) (f : Nat → Nat), (∀ t, t ≤ n → f t < n) → ∃ p q, p < q ∧ q ≤ n ∧ f p = f q
  | 0, f, h => absurd (h 0 (by omega)) (by omega)
  | n + 1, f, h => by
    by_cases he : ∃ t, t ≤ n ∧ f t = f (n + 1)
    · obtain ⟨t, ht, e⟩ := he
      exact ⟨t, n + 1, by omega, by omega, e⟩
    · have hne : ∀ t, t ≤ n → f t ≠ f (n + 1) := fun t ht e => he ⟨t, ht, e⟩
      obtain ⟨p, q, hpq, hq, e⟩ := php n (fun t => if f t = n then f (n + 1) else f t) (fun t ht => by
        have h1 := h t (by omega); have h2 := h (n + 1) (by omega); have h3 := hne t ht
        show (if f t = n then f (n + 1) else f t) < n
        split <;> omega)
      refine ⟨p, q, hpq, by omega, ?_⟩
      have h3 := hne p (by omega); have h4 := hne q hq
      replace e : (if f p = n then f (n + 1) else f p) = (if f q = n then f (n + 1) else f q) := e
      by_cases e1 : f p = n
      · by_cases e2 : f q = n
        · omega
        · rw [if_pos e1, if_neg e2] at e; exact absurd e.symm h4
      · by_cases e2 : f q = n
        · rw [if_neg e1, if_pos e2] at e; exact absurd e h3
        · rw [if_neg e1, if_neg e2] at e; exact e
def cutw (v : Nat → Nat) (p d : Nat) (t : Nat) : Nat := if t ≤ p then v t else v (t + d)
theorem cutw_wk {n : Nat} {a : Nat → Nat → Int} {v : Nat → Nat} {p d r : Nat} (h : Wk n a v (p + d + r)) (e : v p = v (p + d)) : Wk n a (cutw v p d) (p + r) := by
  refine ⟨fun t ht => ?_, fun t ht => ?_⟩
  · unfold cutw; split
    · exact h.lt t (by omega)
    · exact h.lt (t + d) (by omega)
  · unfold cutw
    by_cases h1 : t + 1 ≤ p
    · rw [if_pos h1, if_pos (by omega)]; exact h.arc t (by omega)
    · rw [if_neg h1]
      by_cases h2 : t ≤ p
      · obtain rfl : t = p := by omega
        rw [if_pos h2, e, show t + 1 + d = t + d + 1 by omega]; exact h.arc (t + d) (by omega)
      · rw [if_neg h2, show t + 1 + d = t + d + 1 by omega]; exact h.arc (t + d) (by omega)
theorem cutw_wt {a : Nat → Nat → Int} {v : Nat → Nat} {p d r : Nat} (e : v p = v (p + d)) : wt a v (p + d + r) = wt a (cutw v p d) (p + r) + wt a (fun t => v (t + p)) d := by
  have e1 : wt a (cutw v p d) p = wt a v p := wt_congr fun t ht => if_pos ht
  have e2 : wt a (fun t => cutw v p d (t + p)) r = wt a (fun t => v (t + (p + d))) r := wt_congr fun t _ => by
    unfold cutw
    by_cases h : t = 0
    · subst h; rw [if_pos (by omega), Nat.zero_add, Nat.zero_add]; exact e
    · rw [if_neg (by omega), Nat.add_assoc]
  rw [wt_add a v (p + d) r, wt_add a v p d, wt_add a (cutw v p d) p r, e1, e2]; omega
theorem cutw_zero (v : Nat → Nat) (p d : Nat) : cutw v p d 0 = v 0 := if_pos (by omega)
theorem cutw_end {v : Nat → Nat} {p d r : Nat} (e : v p = v (p + d)) : cutw v p d (p + r) = v (p + d + r) := by
  unfold cutw
  by_cases h : r = 0
  · subst h; rw [if_pos (by omega)]; simpa using e
  · rw [if_neg (by omega)]; congr 1; omega
def NoPos (n : Nat) (a : Nat → Nat → Int) : Prop := ∀ k i, 1 ≤ k → k ≤ n → i < n → powf n a k i i ≤ 0
theorem closed_le {n : Nat} {M : Int} {a : Nat → Nat → Int} (ha : BdM n n M a) (hM : 0 ≤ M) (hs : M * (n : Nat) < 1152921504606846976) (hp : NoPos n a) : ∀ (L : Nat) (v : Nat → Nat), Wk n a v L → v 0 = v L → wt a v L ≤ 0 := by
  intro L
  induction L using Nat.strongRecOn with
  | ind L ih =>
    intro v h e
    by_cases h0 : L = 0
    · subst h0; simp [wt]
    · by_cases hn : L ≤ n
      · have h1 := pow_ge ha hM L v (Int.lt_of_le_of_lt (Int.mul_le_mul_of_nonneg_left (by omega) hM) hs) h
        rw [e] at h1
        exact Int.le_trans h1 (hp L (v L) (by omega) hn (h.lt L (by omega)))
      · obtain ⟨p, q, hpq, hq, epq⟩ := php n v (fun t ht => h.lt t (by omega))
        obtain ⟨d, rfl⟩ : ∃ d, q = p + d := ⟨q - p, by omega⟩
        obtain ⟨r, rfl⟩ : ∃ r, L = p + d + r := ⟨L - (p + d), by omega⟩
        have h1 := ih (p + r) (by omega) (cutw v p d) (cutw_wk h epq) (by rw [cutw_zero, cutw_end epq]; exact e)
        have hm : Wk n a (fun t => v (t + p)) d := Wk.shift (h.left (by omega))
        have h2 := ih d (by omega) (fun t => v (t + p)) hm (by show v (0 + p) = v (d + p); rw [Nat.zero_add, Nat.add_comm d p]; exact epq)
        rw [cutw_wt epq]
        omega
theorem pl_mono {M M' N N' x x' y y' : Int} (hx : Bd M x) (hx' : Bd M' x') (hy : Bd N y) (hy' : Bd N' y') (hs : M + M' + N + N' < 1152921504606846976 ∧ 0 ≤ M ∧ 0 ≤ M' ∧ 0 ≤ N ∧ 0 ≤ N') (h1 : x ≤ x') (h2 : y ≤ y') : pl x y ≤ pl x' y' := by
  have hg := (hx'.pl hy').ge (by omega)
  revert hg
  unfold Bd at *
  unfold pl
  by_cases e1 : x = NEV
  · rw [if_pos e1]; exact fun h => h
  · by_cases e2 : y = NEV
    · rw [if_neg e1, if_pos e2]; exact fun h => h
    · unfold NEV at *
      rw [if_neg e1, if_neg e2, if_neg (by omega), if_neg (by omega)]
      omega
def fw0 (a : Nat → Nat → Int) (i j : Nat) : Int := max (onef i j) (a i j)
def fwk (a : Nat → Nat → Int) : Nat → Nat → Nat → Int
  | 0 => fw0 a
  | k + 1 => fun i j => max (fwk a k i j) (pl (fwk a k i k) (fwk a k k j))
def Att (n : Nat) (a : Nat → Nat → Int) (i j : Nat) (x : Int) : Prop := x = NEV ∨ ∃ L v, Wk n a v L ∧ v 0 = j ∧ v L = i ∧ wt a v L = x
theorem Att.pl {n : Nat} {a : Nat → Nat → Int} {i k j : Nat} {x y : Int} (hx : Att n a i k x) (hy : Att n a k j y) : Att n a i j (pl x y) := by
  rcases hx with rfl | ⟨L, v, hv, v0, vL, vw⟩
  · exact .inl (pl_nev_left _)
  rcases hy with rfl | ⟨K, u, hu, u0, uK, uw⟩
  · exact .inl (pl_nev_right _)
  by_cases hx : x = NEV
  · exact .inl (by rw [hx, pl_nev_left])
  by_cases hy : y = NEV
  · exact .inl (by rw [hy, pl_nev_right])
  refine .inr ⟨K + L, fun t => if t ≤ K then u t else v (t - K), ⟨fun t ht => ?_, fun t ht => ?_⟩, by simp [u0], ?_, ?_⟩
  · by_cases h : t ≤ K
    · simp only [h, if_true]; exact hu.lt t h
    · simp only [h, if_false]; exact hv.lt (t - K) (by omega)
  · by_cases h : t + 1 ≤ K
    · simp only [h, if_true]; rw [if_pos (by omega)]; exact hu.arc t (by omega)
    · simp only [h, if_false]
      by_cases h2 : t ≤ K
      · obtain rfl : t = K := by omega
        rw [if_pos h2, uK, ← v0, show t + 1 - t = 0 + 1 by omega]; exact hv.arc 0 (by omega)
      · rw [if_neg h2, show t + 1 - K = t - K + 1 by omega]; exact hv.arc (t - K) (by omega)
  · by_cases h : L = 0
    · subst h; simp [uK, ← v0, vL]
    · simp only [show ¬ K + L ≤ K by omega, if_false]; rw [show K + L - K = L by omega]; exact vL
  · rw [wt_add]
    have e1 : wt a (fun t => if t ≤ K then u t else v (t - K)) K = wt a u K := wt_congr fun t ht => if_pos ht
    have e2 : wt a (fun t => (fun t => if t ≤ K then u t else v (t - K)) (t + K)) L = wt a v L := wt_congr fun t _ => by
      by_cases h : t = 0
      · subst h; simp [uK, v0]
      · simp only [show ¬ t + K ≤ K by omega, if_false]; congr 1; omega
    rw [e1, e2, uw, vw]
    unfold Mp.pl
    rw [if_neg hx, if_neg hy]; omega
theorem Att.max {n : Nat} {a : Nat → Nat → Int} {i j : Nat} {x y : Int} (hx : Att n a i j x) (hy : Att n a i j y) : Att n a i j (max x y) := by
  by_cases h : y ≤ x
  · rw [Int.max_eq_left h]; exact hx
  · rw [Int.max_eq_right (by omega)]; exact hy
theorem fw0_att {n : Nat} {a : Nat → Nat → Int} {i j : Nat} (hi : i < n) (hj : j < n) : Att n a i j (fw0 a i j) := by
  refine Att.max ?_ ?_
  · unfold onef
    by_cases e : i = j
    · subst e
      rw [if_pos rfl]
      exact .inr ⟨0, fun _ => i, ⟨fun _ _ => hi, fun t ht => by omega⟩, rfl, rfl, rfl⟩
    · rw [if_neg e]; exact .inl rfl
  · by_cases h : a i j = NEV
    · exact .inl h
    · refine .inr ⟨1, fun t => if t = 0 then j else i, ⟨fun t ht => ?_, fun t ht => ?_⟩, by simp, by simp, by simp [wt]⟩
      · by_cases e : t = 0
        · simp only [e, if_true]; exact hj
        · simp only [e, if_false]; exact hi
      · obtain rfl : t = 0 := by omega
        simpa using h
theorem fwk_att {n : Nat} {a : Nat → Nat → Int} : ∀ k, k ≤ n → ∀ i j, i < n → j < n → Att n a i j (fwk a k i j)
  | 0, _, _, _, hi, hj => fw0_att hi hj
  | k + 1, hk, i, j, hi, hj => Att.max (fwk_att k (by omega) i j hi hj) (Att.pl (fwk_att k (by omega) i k hi (by omega)) (fwk_att k (by omega) k j (by omega) hj))
theorem fwk_mono (a : Nat → Nat → Int) (i j : Nat) : ∀ k, fw0 a i j ≤ fwk a k i j
  | 0 => Int.le_refl _
  | k + 1 => by have := fwk_mono a i j k; simp only [fwk]; omega
theorem Bd.max {M x y : Int} (hx : Bd M x) (hy : Bd M y) : Bd M (max x y) := by
  by_cases h : y ≤ x
  · rw [Int.max_eq_left h]; exact hx
  · rw [Int.max_eq_right (by omega)]; exact hy
theorem fwk_bd {n : Nat} {M : Int} {a : Nat → Nat → Int} (ha : BdM n n M a) (hM : 0 ≤ M) : ∀ k, k ≤ n → BdM n n (M * (2 ^ k : Nat)) (fwk a k)
  | 0, _ => fun i j hi hj => Bd.max ((BdM.one n i j hi hj).mono (by simpa using hM)) ((ha i j hi hj).mono (by simp))
  | k + 1, hk => fun i j hi hj => by
    have ih := fwk_bd ha hM k (by omega)
    have e : M * ((2 ^ (k + 1) : Nat) : Int) = M * (2 ^ k : Nat) + M * (2 ^ k : Nat) := by
      rw [Nat.pow_succ, Nat.mul_two, Int.natCast_add, Int.mul_add]
    have h0 : 0 ≤ M * ((2 ^ k : Nat) : Int) := Int.mul_nonneg hM (Int.natCast_nonneg _)
    rw [e]
    revert ih h0
    generalize M * ((2 ^ k : Nat) : Int) = P
    intro ih h0
    exact Bd.max ((ih i j hi hj).mono (by omega)) ((ih i k hi (by omega)).pl (ih k j (by omega) hj))
section
variable {n : Nat} {M : Int} {a : Nat → Nat → Int}
theorem fwk_diag (ha : BdM n n M a) (hM : 0 ≤ M) (hs : M * (n : Nat) < 1152921504606846976) (hp : NoPos n a) {k : Nat} (hk : k ≤ n) {i : Nat} (hi : i < n) : fwk a k i i = 0 := by
  have h1 : 0 ≤ fwk a k i i := Int.le_trans (by unfold fw0 onef; rw [if_pos rfl]; omega) (fwk_mono a i i k)
  rcases fwk_att (a := a) k hk i i hi hi with e | ⟨L, v, hv, v0, vL, vw⟩
  · rw [e] at h1; exact absurd h1 (by decide)
  · have := closed_le ha hM hs hp L v hv (by rw [v0, vL])
    omega
theorem fwk_tr (ha : BdM n n M a) (hM : 0 ≤ M) (hs : M * (n : Nat) < 1152921504606846976) (hp : NoPos n a) (h2 : M * (2 ^ n : Nat) < 100000000000000000) : ∀ k, k ≤ n → ∀ m, m < k → ∀ i j, i < n → j < n → pl (fwk a k i m) (fwk a k m j) ≤ fwk a k i j := by
  intro k
  induction k with
  | zero => intro _ m hm; omega
  | succ k ih =>
    intro hk m hm i j hi hj
    have B : ∀ i j, i < n → j < n → Bd 100000000000000000 (fwk a k i j) := fun i j hi hj => (fwk_bd ha hM k (by omega) i j hi hj).mono
      (Int.le_of_lt (Int.lt_of_le_of_lt (Int.mul_le_mul_of_nonneg_left (by exact_mod_cast Nat.pow_le_pow_right (by omega) (by omega)) hM) h2))
    have hkk := fwk_diag ha hM hs hp (k := k) (by omega) (i := k) (by omega)
    have bik := B i k hi (by omega)
    have bkj := B k j (by omega) hj
    have bij := B i j hi hj
    simp only [fwk]
    by_cases e : m = k
    · subst e
      rw [hkk]
      have : pl (max (fwk a m i m) (pl (fwk a m i m) 0)) (max (fwk a m m j) (pl 0 (fwk a m m j))) = pl (fwk a m i m) (fwk a m m j) := by
        unfold Bd pl NEV at *
        repeat' split <;> omega
      rw [this]; omega
    · have bim := B i m hi (by omega)
      have bmj := B m j (by omega) hj
      have bkm := B k m (by omega) (by omega)
      have bmk := B m k (by omega) (by omega)
      have t1 := ih (by omega) m (by omega) i j hi hj
      have t2 := ih (by omega) m (by omega) k j (by omega) hj
      have t3 := ih (by omega) m (by omega) i k hi (by omega)
      have t4 := ih (by omega) m (by omega) k k (by omega) (by omega)
      rw [hkk] at t4
      revert bik bkj bij bim bmj bkm bmk t1 t2 t3 t4
      generalize fwk a k i k = x1
      generalize fwk a k k j = x2
      generalize fwk a k i j = x3
      generalize fwk a k i m = x4
      generalize fwk a k m j = x5
      generalize fwk a k k m = x6
      generalize fwk a k m k = x7
      clear hkk B ih
      intro bik bkj bij bim bmj bkm bmk t1 t2 t3 t4
      have b16 := bik.pl bkm
      have b72 := bmk.pl bkj
      have b12 := bik.pl bkj
      have bR : Bd 200000000000000000 (max x5 (pl x7 x2)) := Bd.max (bmj.mono (by omega)) (b72.mono (by omega))
      rw [pl_max_left (M := 200000000000000000) (bim.mono (by omega)) (b16.mono (by omega)) bR (by omega) (by omega) (by omega),
        pl_max_right (M := 200000000000000000) (N := 200000000000000000) (bmj.mono (by omega)) (b72.mono (by omega)) (bim.mono (by omega)) (by omega) (by omega) (by omega),
        pl_max_right (M := 200000000000000000) (N := 200000000000000000) (bmj.mono (by omega)) (b72.mono (by omega)) (b16.mono (by omega)) (by omega) (by omega) (by omega)]
      have u1 : pl x4 (pl x7 x2) ≤ pl x1 x2 := by
        rw [← pl_assoc bim bmk bkj (by omega) (by omega) (by omega) (by omega)]
        exact pl_mono (bim.pl bmk) bik bkj bkj (by omega) t3 (Int.le_refl _)
      have u2 : pl (pl x1 x6) x5 ≤ pl x1 x2 := by
        rw [pl_assoc bik bkm bmj (by omega) (by omega) (by omega) (by omega)]
        exact pl_mono bik bik (bkm.pl bmj) bkj (by omega) (Int.le_refl _) t2
      have u3 : pl (pl x1 x6) (pl x7 x2) ≤ pl x1 x2 := by
        rw [pl_assoc bik bkm b72 (by omega) (by omega) (by omega) (by omega), ← pl_assoc bkm bmk bkj (by omega) (by omega) (by omega) (by omega)]
        have z : pl (pl x6 x7) x2 ≤ x2 := by
          have := pl_mono (bkm.pl bmk) (.inr (by omega) : Bd 100000000000000000 (0 : Int)) bkj bkj (by omega) t4 (Int.le_refl _)
          have e0 : pl 0 x2 = x2 := by
            unfold pl
            rw [if_neg (by decide)]
            split <;> omega
          rw [e0] at this; exact this
        exact pl_mono bik bik ((bkm.pl bmk).pl bkj) bkj (by omega) (Int.le_refl _) z
      omega
end
end Go.Proofs.Ythjmfbmffchicaa.Mp
