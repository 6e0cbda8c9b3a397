/- Plain laws of walks by their lengths: a walk made shorter by closed pieces, walks through a vertex of closed walks of sum 0, and that long powers repeat themselves. Each lemma's bounds stand in it. -/
import Derived.Test.YthjmfbmffchicaaKRPot
namespace Go.Proofs.Ythjmfbmffchicaa.Mp
def Go (n : Nat) (a : Nat → Nat → Int) (j i L : Nat) (x : Int) : Prop := ∃ v, Wk n a v L ∧ v 0 = j ∧ v L = i ∧ wt a v L = x
theorem Go.lt {n : Nat} {a : Nat → Nat → Int} {j i L : Nat} {x : Int} (h : Go n a j i L x) : j < n ∧ i < n := by
  obtain ⟨v, hv, rfl, rfl, _⟩ := h
  exact ⟨hv.lt 0 (by omega), hv.lt L (by omega)⟩
theorem Go.nil {n : Nat} {a : Nat → Nat → Int} {i : Nat} (hi : i < n) : Go n a i i 0 0 := ⟨fun _ => i, ⟨fun _ _ => hi, fun t ht => by omega⟩, rfl, rfl, rfl⟩
theorem Go.cat {n : Nat} {a : Nat → Nat → Int} {j k i K L : Nat} {x y : Int} (h1 : Go n a j k K x) (h2 : Go n a k i L y) : Go n a j i (K + L) (x + y) := by
  obtain ⟨u, hu, u0, uK, uw⟩ := h1
  obtain ⟨v, hv, v0, vL, vw⟩ := h2
  refine ⟨fun t => if t ≤ K then u t else v (t - K), ⟨fun t ht => ?_, fun t ht => ?_⟩, by simp [u0], ?_, ?_⟩
  · by_cases h : t ≤ K
    · simp only [h, if_true]; exact hu.lt t h
    · simp only [h, if_false]; exact hv.lt (t - K) (by omega)
  · by_cases h : t + 1 ≤ K
    · simp only [h, if_true]; rw [if_pos (by omega)]; exact hu.arc t (by omega)
    · simp only [h, if_false]
      by_cases h2 : t ≤ K
      · obtain rfl : t = K := by omega
        rw [if_pos h2, uK, ← v0, show t + 1 - t = 0 + 1 by omega]; exact hv.arc 0 (by omega)
      · rw [if_neg h2, show t + 1 - K = t - K + 1 by omega]; exact hv.arc (t - K) (by omega)
  · by_cases h : L = 0
    · subst h; simp [uK, ← v0, vL]
    · simp only [show ¬ K + L ≤ K by omega, if_false]; rw [show K + L - K = L by omega]; exact vL
  · rw [wt_add]
    have e1 : wt a (fun t => if t ≤ K then u t else v (t - K)) K = wt a u K := wt_congr fun t ht => if_pos ht
    have e2 : wt a (fun t => (fun t => if t ≤ K then u t else v (t - K)) (t + K)) L = wt a v L := wt_congr fun t _ => by
      by_cases h : t = 0
      · subst h; simp [uK, v0]
      · simp only [show ¬ t + K ≤ K by omega, if_false]; congr 1; omega
    rw [e1, e2, uw, vw]
theorem Go.split {n : Nat} {a : Nat → Nat → Int} {v : Nat → Nat} {L t : Nat} (h : Wk n a v L) (ht : t ≤ L) : ∃ x y, Go n a (v 0) (v t) t x ∧ Go n a (v t) (v L) (L - t) y ∧ x + y = wt a v L := by
  obtain ⟨r, rfl⟩ : ∃ r, L = t + r := ⟨L - t, by omega⟩
  refine ⟨wt a v t, wt a (fun q => v (q + t)) r, ⟨v, h.left (by omega), rfl, rfl, rfl⟩, ?_, (wt_add a v t r).symm⟩
  rw [show t + r - t = r by omega]
  exact ⟨fun q => v (q + t), Wk.shift h, by simp, by show v (r + t) = v (t + r); rw [Nat.add_comm], rfl⟩
section
variable {n : Nat} {M : Int} {a : Nat → Nat → Int}
theorem Go.closed (ha : BdM n n M a) (hM : 0 ≤ M) (hs : M * (n : Nat) < 1152921504606846976) (hp : NoPos n a) {i L : Nat} {x : Int} (h : Go n a i i L x) : x ≤ 0 := by
  obtain ⟨v, hv, v0, vL, rfl⟩ := h
  exact closed_le ha hM hs hp L v hv (by rw [v0, vL])
theorem Go.bd (ha : BdM n n M a) {j i L : Nat} {x : Int} (h : Go n a j i L x) : -(M * (L : Nat)) ≤ x ∧ x ≤ M * (L : Nat) := by
  obtain ⟨v, hv, _, _, rfl⟩ := h
  exact wt_bd ha hv
theorem Go.le_pow (ha : BdM n n M a) (hM : 0 ≤ M) {j i L : Nat} {x : Int} (hs : M * (L : Nat) < 1152921504606846976) (h : Go n a j i L x) : powf n a L i j ≠ NEV ∧ x ≤ powf n a L i j := by
  obtain ⟨v, hv, rfl, rfl, rfl⟩ := h
  have h1 := pow_ge ha hM L v hs hv
  have h2 := wt_bd ha hv
  have n1 : (NEV : Int) = -1152921504606846976 := rfl
  exact ⟨fun e => by rw [e] at h1; omega, h1⟩
theorem Go.of_pow {j i L : Nat} (hi : i < n) (hj : j < n) (h : powf n a L i j ≠ NEV) : Go n a j i L (powf n a L i j) := pow_att L i j hi hj h
theorem Go.red (ha : BdM n n M a) (hM : 0 ≤ M) (hs : M * (n : Nat) < 1152921504606846976) (hp : NoPos n a) (q : Nat) (hq : 1 ≤ q) {j i : Nat} : ∀ (L : Nat) {x : Int}, Go n a j i L x →
    ∃ K y, Go n a j i K y ∧ K < n * q ∧ x ≤ y ∧ K ≤ L ∧ ∃ t, L = K + q * t := by
  intro L
  induction L using Nat.strongRecOn with
  | ind L ih =>
    intro x h
    by_cases hL : L < n * q
    · exact ⟨L, x, h, hL, Int.le_refl _, Nat.le_refl _, 0, by omega⟩
    · obtain ⟨v, hv, v0, vL, vw⟩ := h
      obtain ⟨p, p', hpp, hp', e⟩ := php (n * q) (fun t => v t * q + t % q) (fun t ht => by
        have h1 := hv.lt t (by omega)
        have h2 : t % q < q := Nat.mod_lt _ hq
        have h3 : (v t + 1) * q ≤ n * q := Nat.mul_le_mul_right q h1
        rw [Nat.add_mul] at h3
        show v t * q + t % q < n * q
        omega)
      have hm1 : p % q < q := Nat.mod_lt _ hq
      have hm2 : p' % q < q := Nat.mod_lt _ hq
      replace e : v p * q + p % q = v p' * q + p' % q := e
      have em : p % q = p' % q := by
        have h1 : (v p * q + p % q) % q = p % q := by rw [Nat.mul_add_mod_self_right, Nat.mod_eq_of_lt hm1]
        have h2 : (v p' * q + p' % q) % q = p' % q := by rw [Nat.mul_add_mod_self_right, Nat.mod_eq_of_lt hm2]
        rw [← h1, e, h2]
      have ev : v p = v p' := Nat.eq_of_mul_eq_mul_right (by omega : 0 < q) (by omega)
      obtain ⟨d, rfl⟩ : ∃ d, p' = p + d := ⟨p' - p, by omega⟩
      obtain ⟨r, rfl⟩ : ∃ r, L = p + d + r := ⟨L - (p + d), by omega⟩
      obtain ⟨t, ht⟩ : ∃ t, d = q * t := by
        have h1 := Nat.div_add_mod p q
        have h2 := Nat.div_add_mod (p + d) q
        refine ⟨(p + d) / q - p / q, ?_⟩
        rw [Nat.mul_sub]
        omega
      have hm : Wk n a (fun t => v (t + p)) d := Wk.shift (hv.left (by omega))
      have hc := closed_le ha hM hs hp d (fun t => v (t + p)) hm (by show v (0 + p) = v (d + p); rw [Nat.zero_add, Nat.add_comm d p]; exact ev)
      have hw := cutw_wt (a := a) (r := r) ev
      obtain ⟨K, y, hK, hlt, hxy, hKL, t2, ht2⟩ := ih (p + r) (by omega) (x := wt a (cutw v p d) (p + r)) ⟨cutw v p d, cutw_wk hv ev, by rw [cutw_zero, v0], by rw [cutw_end ev, vL], rfl⟩
      refine ⟨K, y, hK, hlt, by omega, by omega, t + t2, ?_⟩
      rw [Nat.mul_add, ← ht]
      omega
end
def Z (n : Nat) (a : Nat → Nat → Int) (u L : Nat) : Prop := Go n a u u L 0
theorem Z.add {n : Nat} {a : Nat → Nat → Int} {u K L : Nat} (h1 : Z n a u K) (h2 : Z n a u L) : Z n a u (K + L) := by
  have := Go.cat h1 h2
  rwa [show (0 : Int) + 0 = 0 from rfl] at this
theorem Z.mul {n : Nat} {a : Nat → Nat → Int} {u L : Nat} (h : Z n a u L) : ∀ t, Z n a u (t * L)
  | 0 => by rw [Nat.zero_mul]; exact Go.nil h.lt.1
  | t + 1 => by rw [Nat.add_mul, Nat.one_mul]; exact Z.add (Z.mul h t) h
theorem Z.iff_pow {n : Nat} {M : Int} {a : Nat → Nat → Int} (ha : BdM n n M a) (hM : 0 ≤ M) (hs : M * (n : Nat) < 1152921504606846976) (hp : NoPos n a) {u L : Nat} (hL : M * (L : Nat) < 1152921504606846976) (hu : u < n) : Z n a u L ↔ powf n a L u u = 0 := by
  constructor
  · intro h
    have h1 := Go.le_pow ha hM hL h
    have h2 := (Go.of_pow hu hu h1.1).closed ha hM hs hp
    omega
  · intro h
    have := Go.of_pow (n := n) (a := a) (L := L) hu hu (by rw [h]; decide)
    rwa [h] at this
def OnZ (n : Nat) (a : Nat → Nat → Int) (u : Nat) : Prop := ∃ L, 1 ≤ L ∧ Z n a u L
structure IsPer (n : Nat) (a : Nat → Nat → Int) (c : Nat) : Prop where
  pos : 1 ≤ c
  iff : ∀ x, c ∣ x ↔ ∀ u, OnZ n a u → ∀ d, (∀ L, Z n a u L → d ∣ L) → d ∣ x
theorem least_nat {P : Nat → Prop} : (∃ r, P r) → ∃ r, P r ∧ ∀ s, s < r → ¬ P s := by
  intro ⟨r, hr⟩
  induction r using Nat.strongRecOn with
  | ind r ih =>
    by_cases h : ∃ s, s < r ∧ P s
    · obtain ⟨s, h1, h2⟩ := h; exact ih s h1 h2
    · exact ⟨r, hr, fun s h1 h2 => h ⟨s, h1, h2⟩⟩
theorem IsPer.gen {n : Nat} {a : Nat → Nat → Int} {c : Nat} (h : IsPer n a c) {u : Nat} (hu : OnZ n a u) (q : Nat) (hq : 1 ≤ q) : ∃ L, Z n a u L ∧ L % q = c % q := by
  have hun : u < n := by obtain ⟨L, _, hL⟩ := hu; exact hL.lt.1
  let R : Nat → Prop := fun r => ∃ L, Z n a u L ∧ L % q = r % q
  have r_add : ∀ x y, R x → R y → R (x + y) := by
    rintro x y ⟨L, h1, h2⟩ ⟨K, h3, h4⟩
    exact ⟨L + K, Z.add h1 h3, by rw [Nat.add_mod, h2, h4, ← Nat.add_mod]⟩
  have r_zero : R 0 := ⟨0, Go.nil hun, rfl⟩
  have r_mul : ∀ x t, R x → R (t * x) := by
    intro x t hx
    induction t with
    | zero => rw [Nat.zero_mul]; exact r_zero
    | succ t ih => rw [Nat.add_mul, Nat.one_mul]; exact r_add _ _ ih hx
  have r_congr : ∀ x y, x % q = y % q → R x → R y := by
    rintro x y e ⟨L, h1, h2⟩; exact ⟨L, h1, by rw [h2, e]⟩
  obtain ⟨r, ⟨hr1, hr2⟩, hmin⟩ := least_nat (P := fun r => 1 ≤ r ∧ R r) ⟨q, hq, 0, Go.nil hun, by rw [Nat.mod_self, Nat.zero_mod]⟩
  have hdiv : ∀ L, Z n a u L → r ∣ L := by
    intro L hL
    have e1 := Nat.div_add_mod L r
    have hlt : L % r < r := Nat.mod_lt _ hr1
    have hR : R (L % r) := by
      refine r_congr (L + (q - 1) * (L / r * r)) _ ?_ (r_add _ _ ⟨L, hL, rfl⟩ (r_mul _ _ (r_mul _ _ hr2)))
      have e2 : L + (q - 1) * (L / r * r) = L % r + (L / r * r) * q := by
        obtain ⟨p, rfl⟩ : ∃ p, q = p + 1 := ⟨q - 1, by omega⟩
        rw [show p + 1 - 1 = p by omega, Nat.mul_add, Nat.mul_one, Nat.mul_comm p]
        rw [Nat.mul_comm r] at e1
        omega
      rw [e2, Nat.add_mul_mod_self_right]
    by_cases e : L % r = 0
    · exact Nat.dvd_of_mod_eq_zero e
    · exact absurd ⟨by omega, hR⟩ (hmin (L % r) hlt)
  obtain ⟨t, ht⟩ := (h.iff c).1 (Nat.dvd_refl c) u hu r hdiv
  have := r_mul r t hr2
  rw [Nat.mul_comm, ← ht] at this
  exact this
section
variable {n : Nat} {a : Nat → Nat → Int}
theorem thru (hn : n ≤ 6) (ha : BdM n n 12000 a) (hp : NoPos n a) {u q : Nat} (hq : 1 ≤ q) (hq6 : q ≤ 6) (hu : Z n a u q) {j i K L E : Nat} {x y : Int} (h1 : Go n a j u K x) (h2 : Go n a u i L y) (h3 : Z n a u E) (m : Nat) (hm : 108 ≤ m) (he : (K + L + E) % q = m % q) :
    ∃ z, x + y ≤ z ∧ Go n a j i m z := by
  have hs : (12000 : Int) * (n : Nat) < 1152921504606846976 := by omega
  obtain ⟨K', x', g1, l1, b1, _, t1, e1⟩ := Go.red ha (by omega) hs hp q hq K h1
  obtain ⟨L', y', g2, l2, b2, _, t2, e2⟩ := Go.red ha (by omega) hs hp q hq L h2
  obtain ⟨E', z', g3, l3, b3, _, t3, e3⟩ := Go.red ha (by omega) hs hp q hq E h3
  have c3 := g3.closed ha (by omega) hs hp
  obtain rfl : z' = 0 := by omega
  have hnq : n * q ≤ 36 := Nat.mul_le_mul hn hq6
  obtain ⟨t, ht⟩ : ∃ t, m = K' + E' + t * q + L' := by
    refine ⟨(m - (K' + E' + L')) / q, ?_⟩
    have : q = 1 ∨ q = 2 ∨ q = 3 ∨ q = 4 ∨ q = 5 ∨ q = 6 := by omega
    rcases this with rfl | rfl | rfl | rfl | rfl | rfl <;> omega
  have g := ((g1.cat g3).cat (Z.mul hu t)).cat g2
  rw [← ht] at g
  exact ⟨_, by omega, g⟩
theorem loses (hn : 1 ≤ n) (ha : BdM n n 12000 a) (hs : (12000 : Int) * (n : Nat) < 1152921504606846976) (hp : NoPos n a) : ∀ (L : Nat) (v : Nat → Nat), Wk n a v L → (∀ t, t ≤ L → ¬ OnZ n a (v t)) → (n : Int) * wt a v L + (L : Nat) ≤ 12000 * (n : Nat) * (n : Nat) + (n : Nat) := by
  intro L
  induction L using Nat.strongRecOn with
  | ind L ih =>
    intro v hv hz
    by_cases hL : L ≤ n
    · have h1 := (wt_bd ha hv).2
      have h2 : (12000 : Int) * (L : Nat) ≤ 12000 * (n : Nat) := by omega
      have h3 := Int.mul_le_mul_of_nonneg_left (Int.le_trans h1 h2) (by omega : (0 : Int) ≤ (n : Nat))
      rw [show (n : Int) * (12000 * (n : Nat)) = 12000 * (n : Nat) * (n : Nat) by rw [Int.mul_left_comm, Int.mul_assoc]] at h3
      omega
    · obtain ⟨p, p', hpp, hp', ev⟩ := php n v (fun t ht => hv.lt t (by omega))
      obtain ⟨d, rfl⟩ : ∃ d, p' = p + d := ⟨p' - p, by omega⟩
      obtain ⟨r, rfl⟩ : ∃ r, L = p + d + r := ⟨L - (p + d), by omega⟩
      have hm : Wk n a (fun t => v (t + p)) d := Wk.shift (hv.left (by omega))
      have ec : v (0 + p) = v (d + p) := by rw [Nat.zero_add, Nat.add_comm d p]; exact ev
      have hc := closed_le ha (by omega) hs hp d (fun t => v (t + p)) hm ec
      have hne : wt a (fun t => v (t + p)) d ≠ 0 := fun e => hz p (by omega) ⟨d, by omega, fun t => v (t + p), hm, by simp, by show v (d + p) = v p; rw [← ec]; simp, e⟩
      have hw := cutw_wt (a := a) (r := r) ev
      have h1 := ih (p + r) (by omega) (cutw v p d) (cutw_wk hv ev) (fun t ht => by
        unfold cutw
        split
        · exact hz t (by omega)
        · exact hz (t + d) (by omega))
      have h2 : (n : Int) * wt a v (p + d + r) = n * wt a (cutw v p d) (p + r) + n * wt a (fun t => v (t + p)) d := by rw [hw, Int.mul_add]
      have h3 : (n : Int) * wt a (fun t => v (t + p)) d ≤ n * (-1) := Int.mul_le_mul_of_nonneg_left (by omega) (by omega)
      omega
end
end Go.Proofs.Ythjmfbmffchicaa.Mp
