/- The line's period is the least common multiple of the greatest common divisors of closed walks' lengths. Bounds stand in each theorem. -/
import Derived.Test.YthjmfbmffchicaaKRf3
import Derived.Test.YthjmfbmffchicaaKRPer
namespace Go.Proofs.Ythjmfbmffchicaa.Pure
open Go.RowKit Go.Proofs.Ythjmfbmffchicaa.V Go.Proofs.YthjmfbmffchicaaW.PrintWords Go.Proofs.YthjmfbmffchicaaW.PrintLast Go.Proofs.YthjmfbmffchicaaW.PrintMore
open Go.Proofs.Ythjmfbmffchicaa.Mp
theorem gcdN (a b : Nat) (ha : a ≤ 1000000) (hb : b ≤ 1000000) (h : 1 ≤ a ∨ 1 ≤ b) : ∃ g : Nat, Ev (fun k => line_gcd.f k (a : Int) (b : Int)) (g : Int) ∧ 1 ≤ g ∧ ∀ d : Nat, d ∣ g ↔ d ∣ a ∧ d ∣ b := by
  obtain ⟨g, e, hg⟩ := gcd_f (a : Int) (b : Int) (by omega) (by omega) (by omega) (by omega)
  have hp := hg.pos (by omega)
  obtain ⟨m, rfl⟩ : ∃ m : Nat, g = (m : Int) := ⟨g.toNat, by omega⟩
  refine ⟨m, e, by omega, fun d => ⟨fun h => ⟨Nat.dvd_trans h (Int.natCast_dvd_natCast.1 hg.left), Nat.dvd_trans h (Int.natCast_dvd_natCast.1 hg.right)⟩, fun h => ?_⟩⟩
  exact Int.natCast_dvd_natCast.1 (hg.all _ (Int.natCast_dvd_natCast.2 h.1) (Int.natCast_dvd_natCast.2 h.2))
theorem lcmN {a b g : Nat} (hg : ∀ d : Nat, d ∣ g ↔ d ∣ a ∧ d ∣ b) : a / g * b = Nat.lcm a b := by
  have e : g = Nat.gcd a b := Nat.dvd_antisymm (Nat.dvd_gcd ((hg g).1 (Nat.dvd_refl g)).1 ((hg g).1 (Nat.dvd_refl g)).2) ((hg _).2 ⟨Nat.gcd_dvd_left a b, Nat.gcd_dvd_right a b⟩)
  rw [e, Nat.lcm_eq_mul_div, Nat.mul_div_right_comm (Nat.gcd_dvd_left a b)]
def nevf (_ _ : Nat) : Int := NEV
def EvP {α : Type} (R : α → Prop) (f : Nat → Option α) : Prop := ∃ r, R r ∧ Ev f r
theorem EvP.step {α : Type} {R : α → Prop} {f g : Nat → Option α} (h : ∀ k, g (k + 1) = f k) : EvP R f → EvP R g := fun ⟨r, h1, h2⟩ => ⟨r, h1, Ev.step h h2⟩
theorem EvP.congr {α : Type} {R : α → Prop} {f g : Nat → Option α} (h : ∀ k, g k = f k) : EvP R f → EvP R g := fun ⟨r, h1, h2⟩ => ⟨r, h1, Ev.congr h h2⟩
theorem EvP.bind {α β : Type} {R : β → Prop} {x : Nat → Option α} {v : α} {f : Nat → α → Option β} (hx : Ev x v) : EvP R (fun k => f k v) → EvP R (fun k => (x k).bind (f k)) := fun ⟨r, h1, h2⟩ => ⟨r, h1, Ev.bind hx h2⟩
section
variable {n : Nat} {s : Nat → Nat → Int}
theorem upd_skip (n : Nat) (f g : Nat → Nat → Int) (i j : Nat) (h : g i j = f i j) : mat n (upd f g i j) = mat n (upd f g i (j + 1)) := mat_congr fun p q _ _ => by
  unfold upd
  by_cases h1 : p < i ∨ (p = i ∧ q < j)
  · rw [if_pos h1, if_pos (by omega)]
  · rw [if_neg h1]
    by_cases h2 : p = i ∧ q = j
    · obtain ⟨rfl, rfl⟩ := h2
      rw [if_pos (by omega), h]
    · rw [if_neg (by omega)]
def Part (n : Nat) (s : Nat → Nat → Int) (i K J g : Nat) : Prop := g ≤ 12 ∧ ∀ d, d ∣ g ↔ ∀ k j, 1 ≤ k → j < n → (k < K ∨ k = K ∧ j < J) → Good n s i k j → d ∣ k
theorem Part.next (i K J g g' : Nat) (hK : 1 ≤ K) (hK12 : K ≤ 12) (hJ : J < n) (h : Part n s i K J g) (hG : Good n s i K J) (_hg1 : 1 ≤ g') (hg : ∀ d, d ∣ g' ↔ d ∣ g ∧ d ∣ K) : Part n s i K (J + 1) g' := by
  refine ⟨Nat.le_trans (Nat.le_of_dvd (by omega) ((hg g').1 (Nat.dvd_refl _)).2) hK12, fun d => ?_⟩
  rw [hg, h.2 d]
  constructor
  · rintro ⟨h1, h2⟩ k j hk hj hkj hG2
    by_cases e : k = K ∧ j = J
    · rw [e.1]; exact h2
    · exact h1 k j hk hj (by omega) hG2
  · intro h1
    exact ⟨fun k j hk hj hkj hG2 => h1 k j hk hj (by omega) hG2, h1 K J hK hJ (by omega) hG⟩
theorem Part.skip (i K J g : Nat) (h : Part n s i K J g) (hG : ¬ Good n s i K J) : Part n s i K (J + 1) g := by
  refine ⟨h.1, fun d => ?_⟩
  rw [h.2 d]
  constructor
  · intro h1 k j hk hj hkj hG2
    by_cases e : k = K ∧ j = J
    · obtain ⟨rfl, rfl⟩ := e; exact absurd hG2 hG
    · exact h1 k j hk hj (by omega) hG2
  · intro h1 k j hk hj hkj hG2
    exact h1 k j hk hj (by omega) hG2
theorem Part.over (i K g : Nat) (h : Part n s i K n g) : Part n s i (K + 1) 0 g := by
  refine ⟨h.1, fun d => ?_⟩
  rw [h.2 d]
  constructor
  · intro h1 k j hk hj hkj hG2
    exact h1 k j hk hj (by omega) hG2
  · intro h1 k j hk hj hkj hG2
    exact h1 k j hk hj (by omega) hG2
theorem Part.gi (i g : Nat) (h : Part n s i (2 * n + 1) 0 g) : GI n s i g := fun d => by
  rw [h.2 d]
  constructor
  · intro h1 k j hk hk2 hj hG2
    exact h1 k j hk hj (by omega) hG2
  · intro h1 k j hk hj hkj hG2
    exact h1 k j hk (by omega) hj hG2
theorem period_l4 (h : Ok n s) (i : Nat) (hi : i < n) (x8 : Int) (R : Int → Prop) (K : Nat) (hK : 1 ≤ K) (hK2 : K ≤ 2 * n)
    (hr : ∀ g, Part n s i (K + 1) 0 g → EvP R (fun k => llperiod.l3 k (n : Int) (mat n (arcf s (fwk s n))) (mat n (fwk (arcf s (fwk s n)) n)) x8 (i : Int) (g : Int) (mat n (powf n (arcf s (fwk s n)) K)) ((K + 1 : Nat) : Int) (n : Int) (i : Int))) : ∀ d J, J + d = n → ∀ g, Part n s i K J g →
    EvP R (fun k => llperiod.l4 k (n : Int) (mat n (arcf s (fwk s n))) (mat n (fwk (arcf s (fwk s n)) n)) x8 (i : Int) (g : Int) (mat n (powf n (arcf s (fwk s n)) K)) (K : Int) (n : Int) (i : Int) (n : Int) (J : Int)) := by
  have h6 := h.six
  intro d
  induction d with
  | zero =>
    intro J hJ g hg
    obtain rfl : J = n := by omega
    refine EvP.step (fun k => ?_) (hr g (Part.over i K g hg))
    simp only [llperiod.l4]
    rw [if_neg (by omega), wr1 K (by omega)]
  | succ d ih =>
    intro J hJ g hg
    have hJn : J < n := by omega
    have e1 : (mat n (powf n (arcf s (fwk s n)) K)).length = n := mat_length _ _
    have e2 : ((mat n (powf n (arcf s (fwk s n)) K)).getD J []).length = n := by rw [mat_get _ hJn, vec_length]
    have e3 : (mat n (fwk (arcf s (fwk s n)) n)).length = n := mat_length _ _
    have e4 : ((mat n (fwk (arcf s (fwk s n)) n)).getD i []).length = n := by rw [mat_get _ hi, vec_length]
    have e5 : ((mat n (fwk (arcf s (fwk s n)) n)).getD J []).length = n := by rw [mat_get _ hJn, vec_length]
    have v1 : ((mat n (powf n (arcf s (fwk s n)) K)).getD J []).getD J 0 = powf n (arcf s (fwk s n)) K J J := ent_mat _ hJn hJn
    have v2 : ((mat n (fwk (arcf s (fwk s n)) n)).getD i []).getD J 0 = fwk (arcf s (fwk s n)) n i J := ent_mat _ hi hJn
    have v3 : ((mat n (fwk (arcf s (fwk s n)) n)).getD J []).getD i 0 = fwk (arcf s (fwk s n)) n J i := ent_mat _ hJn hi
    have p1 := h.pow_iff (k := K) hJn
    have p2 := h.same_iff hi hJn
    have skip : ¬ Good n s i K J → EvP R (fun k => llperiod.l4 k (n : Int) (mat n (arcf s (fwk s n))) (mat n (fwk (arcf s (fwk s n)) n)) x8 (i : Int) (g : Int) (mat n (powf n (arcf s (fwk s n)) K)) (K : Int) (n : Int) (i : Int) (n : Int) ((J + 1 : Nat) : Int)) := fun hG => ih (J + 1) (by omega) g (Part.skip i K J g hg hG)
    by_cases c1 : powf n (arcf s (fwk s n)) K J J = 0
    · by_cases c2 : fwk (arcf s (fwk s n)) n i J = 0
      · by_cases c3 : fwk (arcf s (fwk s n)) n J i = 0
        · have hG : Good n s i K J := ⟨p1.1 c1, p2.1 ⟨c2, c3⟩⟩
          have hgl := hg.1
          obtain ⟨g', eg, hg1, hgd⟩ := gcdN g K (by omega) (by omega) (.inr hK)
          refine EvP.step (f := fun k => (line_gcd.f k (g : Int) (K : Int)).bind fun t => llperiod.l4 k (n : Int) (mat n (arcf s (fwk s n))) (mat n (fwk (arcf s (fwk s n)) n)) x8 (i : Int) t (mat n (powf n (arcf s (fwk s n)) K)) (K : Int) (n : Int) (i : Int) (n : Int) ((J + 1 : Nat) : Int)) (fun k => ?_) (EvP.bind eg (ih (J + 1) (by omega) g' (Part.next i K J g g' hK (by omega) hJn hg hG hg1 hgd)))
          simp only [llperiod.l4]
          rw [if_pos (by omega), if_pos (by omega), if_pos (by omega), rdL, if_pos (by omega), rdI, v1, if_pos c1, if_pos (by omega), if_pos (by omega), rdL, if_pos (by omega), rdI, v2, if_pos c2, if_pos (by omega), rdL, if_pos (by omega), rdI, v3, if_pos c3, wr1 J (by omega)]
        · refine EvP.step (fun k => ?_) (skip fun hG => c3 (p2.2 hG.2).2)
          simp only [llperiod.l4]
          rw [if_pos (by omega), if_pos (by omega), if_pos (by omega), rdL, if_pos (by omega), rdI, v1, if_pos c1, if_pos (by omega), if_pos (by omega), rdL, if_pos (by omega), rdI, v2, if_pos c2, if_pos (by omega), rdL, if_pos (by omega), rdI, v3, if_neg c3, wr1 J (by omega)]
      · refine EvP.step (fun k => ?_) (skip fun hG => c2 (p2.2 hG.2).1)
        simp only [llperiod.l4]
        rw [if_pos (by omega), if_pos (by omega), if_pos (by omega), rdL, if_pos (by omega), rdI, v1, if_pos c1, if_pos (by omega), if_pos (by omega), rdL, if_pos (by omega), rdI, v2, if_neg c2, wr1 J (by omega)]
    · refine EvP.step (fun k => ?_) (skip fun hG => c1 (p1.2 hG.1))
      simp only [llperiod.l4]
      rw [if_pos (by omega), if_pos (by omega), if_pos (by omega), rdL, if_pos (by omega), rdI, v1, if_neg c1, wr1 J (by omega)]
def Whole (n : Nat) (s : Nat → Nat → Int) (i c : Nat) : Prop := 1 ≤ c ∧ c ≤ 12 ^ i ∧ (∀ p, p < i → ∃ g, GI n s p g) ∧ ∀ x, c ∣ x ↔ ∀ p, p < i → ∀ g, GI n s p g → 0 < g → g ∣ x
theorem GI.uniq {i g g' : Nat} (h : GI n s i g) (h' : GI n s i g') : g = g' :=
  Nat.dvd_antisymm ((h' g).2 ((h g).1 (Nat.dvd_refl g))) ((h g').2 ((h' g').1 (Nat.dvd_refl g')))
theorem Whole.next (i c c' g : Nat) (h : Whole n s i c) (hg : GI n s i g) (h1 : 1 ≤ c') (h2 : c' ≤ 12 ^ (i + 1)) (hd : ∀ x, c' ∣ x ↔ c ∣ x ∧ (0 < g → g ∣ x)) : Whole n s (i + 1) c' := by
  refine ⟨h1, h2, fun p hp => ?_, fun x => ?_⟩
  · by_cases e : p = i
    · subst e; exact ⟨g, hg⟩
    · exact h.2.2.1 p (by omega)
  · rw [hd x, h.2.2.2 x]
    constructor
    · rintro ⟨a1, a2⟩ p hp g' hg' h0
      by_cases e : p = i
      · subst e
        obtain rfl := GI.uniq hg hg'
        exact a2 h0
      · exact a1 p (by omega) g' hg' h0
    · intro a
      exact ⟨fun p hp => a p (by omega), fun h0 => a i (by omega) g hg h0⟩
theorem tdivN (a b : Nat) : Int.tdiv (a : Int) (b : Int) = ((a / b : Nat) : Int) := rfl
theorem period_l3 (h : Ok n s) (i : Nat) (hi : i < n) (c : Nat) (hc : Whole n s i c) (R : Int → Prop)
    (hr : ∀ c', Whole n s (i + 1) c' → EvP R (fun k => llperiod.l2 k (n : Int) (mat n (arcf s (fwk s n))) (mat n (fwk (arcf s (fwk s n)) n)) (c' : Int) (n : Int) ((i + 1 : Nat) : Int))) : ∀ d K, K + d = 2 * n → ∀ g, Part n s i (K + 1) 0 g →
    EvP R (fun k => llperiod.l3 k (n : Int) (mat n (arcf s (fwk s n))) (mat n (fwk (arcf s (fwk s n)) n)) (c : Int) (i : Int) (g : Int) (mat n (powf n (arcf s (fwk s n)) K)) ((K + 1 : Nat) : Int) (n : Int) (i : Int)) := by
  have h6 := h.six
  have h12 : 12 ^ i ≤ 12 ^ 5 := Nat.pow_le_pow_right (by omega) (by omega)
  have e5 : (12 : Nat) ^ 5 = 248832 := by decide
  have hc2 := hc.2.1
  have two : wrap64 (2 * (n : Int)) = ((2 * n : Nat) : Int) := by rw [wr (by omega) (by omega)]; omega
  intro d
  induction d with
  | zero =>
    intro K hK g hg
    obtain rfl : K = 2 * n := by omega
    have hG := Part.gi i g hg
    have hgl := hg.1
    by_cases g0 : 0 < g
    · obtain ⟨w, ew, hw1, hwd⟩ := gcdN c g (by omega) (by omega) (.inr g0)
      have hl := lcmN hwd
      have hcw : c / w ≤ c := Nat.div_le_self _ _
      have hT : ∀ x : Int, Int.tdiv (c : Int) (w : Int) = ((c / w : Nat) : Int) := fun _ => tdivN c w
      revert hl hcw hT
      generalize c / w = q
      intro hl hcw hT
      have hlc : q * g ≤ c * 12 := Nat.mul_le_mul hcw hgl
      have hl1 : 1 ≤ q * g := by
        rw [hl]
        exact Nat.pos_of_ne_zero (Nat.lcm_ne_zero (by have := hc.1; omega) (by omega))
      refine EvP.step (f := fun k => (line_gcd.f k (c : Int) (g : Int)).bind fun t => if t = 0 then none else llperiod.l2 k (n : Int) (mat n (arcf s (fwk s n))) (mat n (fwk (arcf s (fwk s n)) n)) (wrap64 (wrap64 (Int.tdiv (c : Int) t) * (g : Int))) (n : Int) ((i + 1 : Nat) : Int)) (fun k => ?_) (EvP.bind ew (EvP.congr (fun k => ?_) (hr (q * g) (Whole.next i c _ g hc hG hl1 (by rw [Nat.pow_succ]; omega) (fun x => ?_)))))
      · simp only [llperiod.l3]
        rw [two, if_neg (by omega), if_pos (by omega), wr1 i (by omega)]
      · rw [if_neg (by omega), hT 0, wr (x := (q : Int)) (by omega) (by omega), ← Int.natCast_mul, wr (x := ((q * g : Nat) : Int)) (by omega) (by omega)]
      · rw [hl, Nat.lcm_dvd_iff]
        exact ⟨fun a => ⟨a.1, fun _ => a.2⟩, fun a => ⟨a.1, a.2 g0⟩⟩
    · refine EvP.step (fun k => ?_) (hr c (Whole.next i c c g hc hG hc.1 (by rw [Nat.pow_succ]; omega) (fun x => ⟨fun a => ⟨a, fun b => absurd b g0⟩, fun a => a.1⟩)))
      simp only [llperiod.l3]
      rw [two, if_neg (by omega), if_neg (by omega), wr1 i (by omega)]
  | succ d ih =>
    intro K hK g hg
    have et := times_pow (n := n) (M := 0) (by omega) (arc_bd n s (fwk s n)) (by omega) K 1 (by omega)
    have e1 : mat n (powf n (arcf s (fwk s n)) 1) = mat n (arcf s (fwk s n)) := mat_congr fun p q hp hq => one_mul (arc_bd n s (fwk s n)) (by omega) hp hq
    rw [e1] at et
    refine EvP.step (f := fun k => (lgtimes.f k (mat n (powf n (arcf s (fwk s n)) K)) (mat n (arcf s (fwk s n)))).bind fun t => llperiod.l4 k (n : Int) (mat n (arcf s (fwk s n))) (mat n (fwk (arcf s (fwk s n)) n)) (c : Int) (i : Int) (g : Int) t ((K + 1 : Nat) : Int) (n : Int) (i : Int) (n : Int) ((0 : Nat) : Int)) (fun k => ?_) (EvP.bind et (period_l4 h i hi (c : Int) R (K + 1) (by omega) (by omega) (fun g' hg' => ih (K + 1) (by omega) g' hg') n 0 (by omega) g hg))
    simp only [llperiod.l3]
    rw [two, if_pos (by omega)]
    rfl
theorem period_l2 (h : Ok n s) : ∀ d i, i + d = n → ∀ c, Whole n s i c → EvP (fun r => ∃ c', Whole n s n c' ∧ r = (c' : Int)) (fun k => llperiod.l2 k (n : Int) (mat n (arcf s (fwk s n))) (mat n (fwk (arcf s (fwk s n)) n)) (c : Int) (n : Int) (i : Int)) := by
  have h6 := h.six
  intro d
  induction d with
  | zero =>
    intro i hi c hc
    obtain rfl : i = n := by omega
    refine ⟨(c : Int), ⟨c, hc, rfl⟩, ev_now fun k => ?_⟩
    simp only [llperiod.l2]
    rw [if_neg (by omega)]
  | succ d ih =>
    intro i hi c hc
    refine EvP.step (f := fun k => (line_one_int.f k (n : Int)).bind fun t => llperiod.l3 k (n : Int) (mat n (arcf s (fwk s n))) (mat n (fwk (arcf s (fwk s n)) n)) (c : Int) (i : Int) ((0 : Nat) : Int) t ((0 + 1 : Nat) : Int) (n : Int) (i : Int)) (fun k => ?_) (EvP.bind (one_f n (by omega)) (period_l3 h i (by omega) c hc _ (fun c' hc' => ih (i + 1) (by omega) c' hc') (2 * n) 0 (by omega) 0 ⟨by omega, fun d => ⟨fun _ k j hk _ hkj _ => by omega, fun _ => Nat.dvd_zero _⟩⟩))
    simp only [llperiod.l2]
    rw [if_pos (by omega)]
    rfl
theorem period_l1 (h : Ok n s) (L : List (List Int)) (u v : Int) (hd : BdM n n 768000 (fwk s n)) (i : Nat) (hi : i < n) (R : Int → Prop)
    (hr : EvP R (fun k => llperiod.l0 k (n : Int) (mat n (upd nevf (arcf s (fwk s n)) (i + 1) 0)) (n : Int) ((i + 1 : Nat) : Int) L u v (mat n s) (mat n (fwk s n)))) : ∀ d j, j + d = n →
    EvP R (fun k => llperiod.l1 k (n : Int) (mat n (upd nevf (arcf s (fwk s n)) i j)) (i : Int) (n : Int) (i : Int) (n : Int) (j : Int) L u v (mat n s) (mat n (fwk s n))) := by
  have h6 := h.six
  intro d
  induction d with
  | zero =>
    intro j hj
    obtain rfl : j = n := by omega
    refine EvP.step (fun k => ?_) hr
    simp only [llperiod.l1]
    rw [if_neg (by omega), wr1 i (by omega), upd_next]
  | succ d ih =>
    intro j hj
    have hj' : j < n := by omega
    have e1 : (mat n (upd nevf (arcf s (fwk s n)) i j)).length = n := mat_length _ _
    have e2 : ((mat n (upd nevf (arcf s (fwk s n)) i j)).getD i []).length = n := by rw [mat_get _ hi, vec_length]
    have hc := critical_f L u v h.bd hd (by omega) (by omega) (by omega) i j hi hj'
    refine EvP.step (fun k => ?_) (ih (j + 1) (by omega))
    simp only [llperiod.l1]
    rw [if_pos (by omega), hc]
    simp only [Option.bind_some]
    by_cases c : crit s (fwk s n) i j = true
    · rw [if_pos c, if_pos (by omega), if_pos (by omega), if_pos (by omega), rdL, if_pos (by omega), wr1 j (by omega), toN, toN]
      have := upd_set (n := n) nevf (arcf s (fwk s n)) i j hi
      rw [show arcf s (fwk s n) i j = 0 from if_pos c] at this
      rw [this]
    · rw [if_neg c, wr1 j (by omega), upd_skip n nevf (arcf s (fwk s n)) i j (if_neg c)]
theorem period_l0 (h : Ok n s) (L : List (List Int)) (u v : Int) (hd : BdM n n 768000 (fwk s n)) : ∀ d i, i + d = n →
    EvP (fun r => ∃ c', Whole n s n c' ∧ r = (c' : Int)) (fun k => llperiod.l0 k (n : Int) (mat n (upd nevf (arcf s (fwk s n)) i 0)) (n : Int) (i : Int) L u v (mat n s) (mat n (fwk s n))) := by
  have h6 := h.six
  intro d
  induction d with
  | zero =>
    intro i hi
    obtain rfl : i = n := by omega
    have ec := closed_mat (n := i) (M := 0) (by omega) (arc_bd i s (fwk s i)) (by omega) (by omega) (by omega) (arc_nopos i s (fwk s i))
    refine EvP.step (f := fun k => (lgclosed.f k (mat i (arcf s (fwk s i)))).bind fun t => llperiod.l2 k (i : Int) (mat i (arcf s (fwk s i))) t ((1 : Nat) : Int) (i : Int) ((0 : Nat) : Int)) (fun k => ?_) (EvP.bind ec (period_l2 h i 0 (by omega) 1 ⟨by omega, by decide, fun p hp => by omega, fun x => ⟨fun _ p hp => by omega, fun _ => Nat.one_dvd x⟩⟩))
    simp only [llperiod.l0]
    rw [if_neg (by omega), upd_all]
    rfl
  | succ d ih =>
    intro i hi
    refine EvP.step (fun k => ?_) (period_l1 h L u v hd i (by omega) _ (ih (i + 1) (by omega)) n 0 (by omega))
    simp only [llperiod.l0]
    rw [if_pos (by omega)]
    rfl
theorem period_f (h : Ok n s) (L : List (List Int)) (u v : Int) (hd : BdM n n 768000 (fwk s n)) : ∃ c, IsPer n s c ∧ Ev (fun k => llperiod.f k L u v (mat n s) (mat n (fwk s n))) (c : Int) := by
  have h6 := h.six
  have em : Ev (fun k => lgmapped_period_1.f k (mat n onef) 0) (mat n (mapf (fun _ => NEV) (ent (mat n onef)))) := mapped_f (g := fun _ => NEV) (by omega) (isMat_mat n onef) fun _ _ _ _ _ => rfl
  have e0 : mat n (mapf (fun _ => NEV) (ent (mat n onef))) = mat n (upd nevf (arcf s (fwk s n)) 0 0) := mat_congr fun p q hp hq => by
    have e2 : upd nevf (arcf s (fwk s n)) 0 0 p q = NEV := if_neg (by omega)
    rw [e2]
    unfold mapf
    split <;> rfl
  rw [e0] at em
  obtain ⟨r, ⟨c, hc, rfl⟩, er⟩ := period_l0 h L u v hd n 0 (by omega)
  refine ⟨c, h.per hc.1 hc.2.2.1 hc.2.2.2, ?_⟩
  unfold llperiod.f
  rw [mat_length]
  exact Ev.bind (one_f n (by omega)) (Ev.bind em er)
end
end Go.Proofs.Ythjmfbmffchicaa.Pure
