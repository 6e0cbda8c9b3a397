/- Plain laws: the powers of a connected matrix, whose closed walks have no sum above 0, repeat themselves with the least common multiple of its periods, and with its multiples alone. Each lemma's bounds stand in it. -/
import Derived.Test.YthjmfbmffchicaaKRCyc
namespace Go.Proofs.Ythjmfbmffchicaa.Mp
theorem Go.mul {n : Nat} {a : Nat → Nat → Int} {u L : Nat} {x : Int} (h : Go n a u u L x) : ∀ t, ∃ y, Go n a u u (t * L) y
  | 0 => ⟨0, by rw [Nat.zero_mul]; exact Go.nil h.lt.1⟩
  | t + 1 => by
    obtain ⟨y, hy⟩ := Go.mul h t
    exact ⟨y + x, by rw [Nat.add_mul, Nat.one_mul]; exact Go.cat hy h⟩
def Con (n : Nat) (a : Nat → Nat → Int) : Prop := ∀ i j, i < n → j < n → ∃ L x, Go n a j i L x
def Rep (n : Nat) (a : Nat → Nat → Int) (k x : Nat) : Prop := ∀ i j, i < n → j < n → powf n a (k + x) i j = powf n a k i j
theorem Rep.next {n : Nat} {a : Nat → Nat → Int} {k x : Nat} (h : Rep n a k x) : Rep n a (k + 1) x := by
  intro i j hi hj
  rw [show k + 1 + x = (k + x) + 1 by omega]
  exact mul_congr (fun q hq => h i q hi hq) (fun _ _ => rfl)
theorem Rep.later {n : Nat} {a : Nat → Nat → Int} {k x : Nat} (h : Rep n a k x) : ∀ t, Rep n a (k + t) x
  | 0 => h
  | t + 1 => (Rep.later h t).next
section
variable {n : Nat} {a : Nat → Nat → Int}
theorem OnZ.small (ha : BdM n n 12000 a) (hs : (12000 : Int) * (n : Nat) < 1152921504606846976) (hp : NoPos n a) {u : Nat} (h : OnZ n a u) : ∃ q, 1 ≤ q ∧ q ≤ n ∧ Z n a u q := by
  obtain ⟨q, ⟨hq, hz⟩, hmin⟩ := least_nat (P := fun r => 1 ≤ r ∧ Z n a u r) h
  refine ⟨q, hq, ?_, hz⟩
  by_cases hqn : q ≤ n
  · exact hqn
  exfalso
  obtain ⟨v, hv, v0, vL, vw⟩ := hz
  obtain ⟨p, p', hpp, hp', ev⟩ := php n v (fun t ht => hv.lt t (by omega))
  obtain ⟨d, rfl⟩ : ∃ d, p' = p + d := ⟨p' - p, by omega⟩
  obtain ⟨r, rfl⟩ : ∃ r, q = p + d + r := ⟨q - (p + d), by omega⟩
  have hm : Wk n a (fun t => v (t + p)) d := Wk.shift (hv.left (by omega))
  have hc := closed_le ha (by omega) hs hp d (fun t => v (t + p)) hm (by show v (0 + p) = v (d + p); rw [Nat.zero_add, Nat.add_comm d p]; exact ev)
  have hw := cutw_wt (a := a) (r := r) ev
  have hk := cutw_wk hv ev
  have e0 : cutw v p d 0 = u := by rw [cutw_zero, v0]
  have eL : cutw v p d (p + r) = u := by rw [cutw_end ev, vL]
  have hc2 := closed_le ha (by omega) hs hp (p + r) (cutw v p d) hk (by rw [e0, eL])
  exact hmin (p + r) (by omega) ⟨by omega, cutw v p d, hk, e0, eL, by omega⟩
theorem IsPer.fit {c : Nat} (h : IsPer n a c) {u : Nat} (hu : OnZ n a u) {q : Nat} (hq : 1 ≤ q) (hq6 : q ≤ 6) {m m' : Nat} (hm : m' = m + c ∨ m = m' + c) : ∃ E, Z n a u E ∧ (m + E) % q = m' % q := by
  obtain ⟨E, hE, he⟩ := h.gen hu q hq
  rcases hm with hm | hm
  · refine ⟨E, hE, ?_⟩
    have : q = 1 ∨ q = 2 ∨ q = 3 ∨ q = 4 ∨ q = 5 ∨ q = 6 := by omega
    rcases this with rfl | rfl | rfl | rfl | rfl | rfl <;> omega
  · refine ⟨(q - 1) * E, Z.mul hE _, ?_⟩
    have : q = 1 ∨ q = 2 ∨ q = 3 ∨ q = 4 ∨ q = 5 ∨ q = 6 := by omega
    rcases this with rfl | rfl | rfl | rfl | rfl | rfl <;> omega
theorem cyc_ge (hn1 : 1 ≤ n) (hn : n ≤ 6) (ha : BdM n n 12000 a) (hp : NoPos n a) (hcon : Con n a) {u0 : Nat} (hu0 : OnZ n a u0) {c : Nat} (h : IsPer n a c) {m m' : Nat} (h1 : 10000000 ≤ m) (h2 : 10000000 ≤ m') (hm : m' = m + c ∨ m = m' + c) {j i : Nat} {x : Int} (hx : Go n a j i m x) :
    ∃ z, x ≤ z ∧ Go n a j i m' z := by
  have hs : (12000 : Int) * (n : Nat) < 1152921504606846976 := by omega
  have hji := hx.lt
  obtain ⟨v, hv, v0, vL, vw⟩ := hx
  by_cases hz : ∃ t, t ≤ m ∧ OnZ n a (v t)
  · obtain ⟨t, ht, hu⟩ := hz
    obtain ⟨q, hq, hqn, hzq⟩ := hu.small ha hs hp
    obtain ⟨x1, y1, g1, g2, e⟩ := Go.split hv ht
    obtain ⟨E, hE, he⟩ := h.fit hu hq (by omega) hm
    rw [v0] at g1
    rw [vL] at g2
    obtain ⟨z, hz1, hz2⟩ := thru hn ha hp hq (by omega) hzq g1 g2 hE m' (by omega) (by rw [show t + (m - t) + E = m + E by omega]; exact he)
    exact ⟨z, by omega, hz2⟩
  · have hl := loses hn1 ha hs hp m v hv (fun t ht hu => hz ⟨t, ht, hu⟩)
    rw [vw] at hl
    have hxs : x ≤ -1500000 := by
      have : n = 1 ∨ n = 2 ∨ n = 3 ∨ n = 4 ∨ n = 5 ∨ n = 6 := by omega
      rcases this with rfl | rfl | rfl | rfl | rfl | rfl <;> omega
    obtain ⟨q, hq, hqn, hzq⟩ := hu0.small ha hs hp
    have hq6 : q ≤ 6 := by omega
    have hu := hzq.lt.1
    obtain ⟨_, _, g1⟩ := hcon u0 j hu hji.1
    obtain ⟨_, _, g2⟩ := hcon j u0 hji.1 hu
    obtain ⟨p, x1, g1, l1, _, _, _⟩ := Go.red ha (by omega) hs hp 1 (by omega) _ g1
    obtain ⟨p2, x2, g2, l2, _, _, _⟩ := Go.red ha (by omega) hs hp 1 (by omega) _ g2
    obtain ⟨K, x3, g3, l3, _, _, t3, e3⟩ := Go.red ha (by omega) hs hp q hq _ ⟨v, hv, v0, vL, rfl⟩
    obtain ⟨x4, g4⟩ := Go.mul (g2.cat g1) (q - 1)
    have g5 := (g4.cat g2).cat g3
    obtain ⟨E, hE, he⟩ := h.fit hu0 hq hq6 hm
    have hnq : n * q ≤ 36 := Nat.mul_le_mul hn hq6
    have b1 := (g1.bd ha).1
    have b5 := (g5.bd ha).1
    have hlen : p + ((q - 1) * (p2 + p) + p2 + K) ≤ 100 := by
      have : q = 1 ∨ q = 2 ∨ q = 3 ∨ q = 4 ∨ q = 5 ∨ q = 6 := by omega
      rcases this with rfl | rfl | rfl | rfl | rfl | rfl <;> omega
    obtain ⟨z, hz1, hz2⟩ := thru hn ha hp hq hq6 hzq g1 g5 hE m' (by omega) (by
      have : q = 1 ∨ q = 2 ∨ q = 3 ∨ q = 4 ∨ q = 5 ∨ q = 6 := by omega
      rcases this with rfl | rfl | rfl | rfl | rfl | rfl <;> omega)
    exact ⟨z, by omega, hz2⟩
theorem cyc_rep (hn1 : 1 ≤ n) (hn : n ≤ 6) (ha : BdM n n 12000 a) (hp : NoPos n a) (hcon : Con n a) {u0 : Nat} (hu0 : OnZ n a u0) {c : Nat} (h : IsPer n a c) {m : Nat} (h1 : 10000000 ≤ m) (h2 : m + c ≤ 10000000000) : Rep n a m c := by
  have hM : (12000 : Int) * ((m + c : Nat) : Int) < 1152921504606846976 := by omega
  have hM2 : (12000 : Int) * ((m : Nat) : Int) < 1152921504606846976 := by omega
  intro i j hi hj
  have f1 : powf n a m i j ≠ NEV → powf n a (m + c) i j ≠ NEV ∧ powf n a m i j ≤ powf n a (m + c) i j := fun hne => by
    obtain ⟨z, hz, g⟩ := cyc_ge hn1 hn ha hp hcon hu0 h h1 (by omega) (.inl rfl) (Go.of_pow hi hj hne)
    have := g.le_pow ha (by omega) hM
    exact ⟨this.1, by omega⟩
  have f2 : powf n a (m + c) i j ≠ NEV → powf n a m i j ≠ NEV ∧ powf n a (m + c) i j ≤ powf n a m i j := fun hne => by
    obtain ⟨z, hz, g⟩ := cyc_ge hn1 hn ha hp hcon hu0 h (by omega) h1 (.inr rfl) (Go.of_pow hi hj hne)
    have := g.le_pow ha (by omega) hM2
    exact ⟨this.1, by omega⟩
  by_cases e : powf n a m i j = NEV
  · by_cases e2 : powf n a (m + c) i j = NEV
    · rw [e, e2]
    · exact absurd e (f2 e2).1
  · have := f1 e
    have := f2 this.1
    omega
theorem rep_div (hn : n ≤ 6) (ha : BdM n n 12000 a) (hp : NoPos n a) {c : Nat} (h : IsPer n a c) {k x : Nat} (hk : k ≤ 1000000000) (hx : x ≤ 1000000000) (hr : Rep n a k x) : c ∣ x := by
  have hs : (12000 : Int) * (n : Nat) < 1152921504606846976 := by omega
  refine (h.iff x).2 fun u hu d hd => ?_
  obtain ⟨q, hq, hqn, hzq⟩ := hu.small ha hs hp
  have hun := hzq.lt.1
  have hkq : k * q ≤ 6000000000 := by
    have := Nat.mul_le_mul hk (show q ≤ 6 by omega)
    omega
  have hge : k ≤ k * q := Nat.le_mul_of_pos_right k (by omega)
  have z1 := Z.mul hzq k
  have p1 := (Z.iff_pow ha (by omega) hs hp (by omega) hun).1 z1
  have e := hr.later (k * q - k) u u hun hun
  rw [show k + (k * q - k) = k * q by omega, p1] at e
  have z2 := (Z.iff_pow ha (by omega) hs hp (by omega) hun).2 e
  exact (Nat.dvd_add_right (hd _ z1)).1 (hd _ z2)
end
end Go.Proofs.Ythjmfbmffchicaa.Mp
