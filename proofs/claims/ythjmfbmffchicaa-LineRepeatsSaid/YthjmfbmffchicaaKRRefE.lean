/- Greatest common divisor, pace and closure of the line's matrices, in the words of the plain algebra. Bounds stand in each theorem. -/
import Derived.Test.YthjmfbmffchicaaKRf0
import Derived.Test.YthjmfbmffchicaaKRf1
import Derived.Test.YthjmfbmffchicaaKRf2
import Derived.Test.YthjmfbmffchicaaKRRefB
import Derived.Test.YthjmfbmffchicaaKRWalk
namespace Go.Proofs.Ythjmfbmffchicaa.Pure
open Go.RowKit Go.Proofs.Ythjmfbmffchicaa.V Go.Proofs.YthjmfbmffchicaaW.PrintWords Go.Proofs.YthjmfbmffchicaaW.PrintLast
open Go.Proofs.Ythjmfbmffchicaa.Mp
structure IsGcd (a b g : Int) : Prop where
  left : g ∣ a
  right : g ∣ b
  all : ∀ d : Int, d ∣ a → d ∣ b → d ∣ g
  pos : a ≠ 0 ∨ b ≠ 0 → 0 < g
theorem gcd_l0 : ∀ (N : Nat) (a b : Int), b.natAbs ≤ N → -1000000 ≤ a → a ≤ 1000000 → -1000000 ≤ b → b ≤ 1000000 → ∃ g, Ev (fun k => line_gcd.l0 k a b) g ∧ IsGcd a b g := by
  intro N
  induction N with
  | zero =>
    intro a b hN h1 h2 _ _
    obtain rfl : b = 0 := by omega
    refine ⟨mx a (wrap64 (-a)), ev_now fun k => by simp only [line_gcd.l0]; rw [if_pos trivial], ?_⟩
    rw [mx_max, wr (by omega) (by omega)]
    by_cases h : 0 ≤ a
    · rw [show max a (-a) = a by omega]
      exact ⟨Int.dvd_refl _, Int.dvd_zero _, fun _ h _ => h, fun h => by omega⟩
    · rw [show max a (-a) = -a by omega]
      exact ⟨Int.neg_dvd.2 (Int.dvd_refl _), Int.dvd_zero _, fun _ h _ => Int.dvd_neg.2 h, fun h => by omega⟩
  | succ N ih =>
    intro a b hN h1 h2 h3 h4
    by_cases hb : b = 0
    · exact ih a b (by omega) h1 h2 h3 h4
    have hlt := Int.natAbs_tmod a b
    have hm : a.natAbs % b.natAbs < b.natAbs := Nat.mod_lt _ (by omega)
    obtain ⟨g, e, hg⟩ := ih b (Int.tmod a b) (by omega) h3 h4 (by omega) (by omega)
    have hd := Int.mul_tdiv_add_tmod a b
    refine ⟨g, Ev.step (fun k => ?_) e, ?_, hg.left, fun d d1 d2 => hg.all d d2 ?_, fun _ => hg.pos (.inl hb)⟩
    · simp only [line_gcd.l0]
      rw [if_neg hb]
    · rw [← hd]; exact Int.dvd_add (Int.dvd_trans hg.left (Int.dvd_mul_right _ _)) hg.right
    · rw [show Int.tmod a b = a - b * Int.tdiv a b by omega]
      exact Int.dvd_sub d1 (Int.dvd_trans d2 (Int.dvd_mul_right _ _))
theorem gcd_f (a b : Int) (h1 : -1000000 ≤ a) (h2 : a ≤ 1000000) (h3 : -1000000 ≤ b) (h4 : b ≤ 1000000) : ∃ g, Ev (fun k => line_gcd.f k a b) g ∧ IsGcd a b g := gcd_l0 b.natAbs a b (by omega) h1 h2 h3 h4
structure Top (n : Nat) (a : Nat → Nat → Int) (B : Nat → Nat → Prop) (num den : Int) : Prop where
  den0 : 0 < den
  den6 : den ≤ 6
  lo : -6000 ≤ num
  hi : num ≤ 6000
  top : ∀ k i, B k i → powf n a k i i ≠ NEV → powf n a k i i * den ≤ num * (k : Nat)
  att : ∃ k i, B k i ∧ powf n a k i i ≠ NEV ∧ powf n a k i i * den = num * (k : Nat)
  low : ∀ d : Int, d ∣ num → d ∣ den → d ∣ 1
def Best (n : Nat) (a : Nat → Nat → Int) (B : Nat → Nat → Prop) (num den : Int) (f : Bool) : Prop :=
  (f = false ∧ ∀ k i, B k i → powf n a k i i = NEV) ∨ (f = true ∧ Top n a B num den)
theorem cross {p q x k num den : Int} (h1 : p * den ≤ num * q) (h2 : num * k ≤ x * den) (hd : 0 < den) (hq : 0 ≤ q) (hk : 0 ≤ k) : p * k ≤ x * q := by
  refine Int.le_of_mul_le_mul_right ?_ hd
  have a1 := Int.mul_le_mul_of_nonneg_right h1 hk
  have a2 := Int.mul_le_mul_of_nonneg_right h2 hq
  have e1 : p * k * den = p * den * k := by rw [Int.mul_assoc, Int.mul_comm k, ← Int.mul_assoc]
  have e2 : num * q * k = num * k * q := by rw [Int.mul_assoc, Int.mul_comm q, ← Int.mul_assoc]
  have e3 : x * q * den = x * den * q := by rw [Int.mul_assoc, Int.mul_comm q, ← Int.mul_assoc]
  omega
theorem small_mul {x d : Int} (h1 : -6000 ≤ x) (h2 : x ≤ 6000) (h3 : 0 < d) (h4 : d ≤ 6) : wrap64 (x * d) = x * d := by
  have : d = 1 ∨ d = 2 ∨ d = 3 ∨ d = 4 ∨ d = 5 ∨ d = 6 := by omega
  rcases this with rfl | rfl | rfl | rfl | rfl | rfl <;> exact wr (by omega) (by omega)
theorem Top.make {n : Nat} {a : Nat → Nat → Int} {B : Nat → Nat → Prop} {k i : Nat} {x g : Int} (hx : powf n a k i i = x) (hnev : x ≠ NEV) (h1 : -6000 ≤ x) (h2 : x ≤ 6000) (hk : 1 ≤ k) (hk6 : k ≤ 6) (hg : IsGcd x (k : Int) g) (hB : B k i)
    (h : ∀ k' i', B k' i' → powf n a k' i' i' ≠ NEV → powf n a k' i' i' * (k : Nat) ≤ x * (k' : Nat)) : Top n a B (Int.tdiv x g) (Int.tdiv (k : Int) g) := by
  have gp := hg.pos (.inr (by omega))
  obtain ⟨u, hu⟩ := hg.left
  obtain ⟨v, hv⟩ := hg.right
  have e1 : Int.tdiv x g = u := by rw [hu]; exact Int.mul_tdiv_cancel_left _ (by omega)
  have e2 : Int.tdiv (k : Int) g = v := by rw [hv]; exact Int.mul_tdiv_cancel_left _ (by omega)
  have g6 : g ≤ 6 := by have := Int.le_of_dvd (by omega) hg.right; omega
  rw [e1, e2]
  have hg6 : g = 1 ∨ g = 2 ∨ g = 3 ∨ g = 4 ∨ g = 5 ∨ g = 6 := by omega
  have vb : 0 < v ∧ v ≤ 6 := by rcases hg6 with rfl | rfl | rfl | rfl | rfl | rfl <;> omega
  have ub : -6000 ≤ u ∧ u ≤ 6000 := by rcases hg6 with rfl | rfl | rfl | rfl | rfl | rfl <;> omega
  refine ⟨vb.1, vb.2, ub.1, ub.2, fun k' i' hB' hn => ?_, ⟨k, i, hB, by rw [hx]; exact hnev, ?_⟩, fun d d1 d2 => ?_⟩
  · refine Int.le_of_mul_le_mul_left ?_ gp
    have := h k' i' hB' hn
    rw [hu, hv] at this
    have e3 : g * (powf n a k' i' i' * v) = powf n a k' i' i' * (g * v) := by rw [Int.mul_left_comm]
    have e4 : g * (u * (k' : Nat)) = g * u * (k' : Nat) := by rw [Int.mul_assoc]
    rw [e3, e4]; exact this
  · rw [hx, hu, hv, Int.mul_comm g u, Int.mul_assoc]
  · have := hg.all (g * d) (by rw [hu]; exact Int.mul_dvd_mul_left g d1) (by rw [hv]; exact Int.mul_dvd_mul_left g d2)
    obtain ⟨w, hw⟩ := this
    refine ⟨w, ?_⟩
    have e5 : g * 1 = g * (d * w) := by rw [Int.mul_one, ← Int.mul_assoc]; exact hw
    exact Int.eq_of_mul_eq_mul_left (by omega) e5
def Seen (n k i : Nat) (k' i' : Nat) : Prop := 1 ≤ k' ∧ i' < n ∧ (k' < k ∨ (k' = k ∧ i' < i))
theorem pace_l1 {n : Nat} {A : List (List Int)} (hA : Arg n A) (k : Nat) (hk : 1 ≤ k) (hkn : k ≤ n)
    (hr : ∀ f num den, Best n (ent A) (Seen n (k + 1) 0) num den f → ∃ r, Ev (fun q => lgpace.l0 q A f (mat n (powf n (ent A) k)) ((k + 1 : Nat) : Int) num den) r ∧ Best n (ent A) (Seen n (n + 1) 0) r.1 r.2.1 r.2.2) :
    ∀ d i, i + d = n → ∀ f num den, Best n (ent A) (Seen n k i) num den f →
    ∃ r, Ev (fun q => lgpace.l1 q A f (mat n (powf n (ent A) k)) (k : Int) (n : Int) (i : Int) num den) r ∧ Best n (ent A) (Seen n (n + 1) 0) r.1 r.2.1 r.2.2 := by
  have h6 := hA.six
  intro d
  induction d with
  | zero =>
    intro i hi f num den hb
    have hb' : Best n (ent A) (Seen n (k + 1) 0) num den f := by
      have e : Seen n (k + 1) 0 = Seen n k i := by
        funext k' i'
        refine propext ⟨fun h => ⟨h.1, h.2.1, ?_⟩, fun h => ⟨h.1, h.2.1, ?_⟩⟩
        · have := h.2.1; have := h.2.2; omega
        · have := h.2.2; omega
      rw [e]; exact hb
    obtain ⟨r, e, h⟩ := hr f num den hb'
    refine ⟨r, Ev.step (fun q => ?_) e, h⟩
    simp only [lgpace.l1]
    rw [if_neg (by omega), wr1 k (by omega)]
  | succ d ih =>
    intro i hi f num den hb
    have hin : i < n := by omega
    have hml : (mat n (powf n (ent A) k)).length = n := mat_length _ _
    have hrow : ((mat n (powf n (ent A) k)).getD i []).length = n := by rw [mat_get _ hin, vec_length]
    have hval : ((mat n (powf n (ent A) k)).getD i []).getD i 0 = powf n (ent A) k i i := ent_mat _ hin hin
    have hbd := BdM.pow hA.bd k i i hin hin
    obtain ⟨x, hx⟩ : ∃ x, powf n (ent A) k i i = x := ⟨_, rfl⟩
    rw [hx] at hval hbd
    have hxb : x = NEV ∨ (-6000 ≤ x ∧ x ≤ 6000) := hbd.imp id fun h => by omega
    have head : ∀ q, lgpace.l1 (q + 1) A f (mat n (powf n (ent A) k)) (k : Int) (n : Int) (i : Int) num den = if x = NEV then lgpace.l1 q A f (mat n (powf n (ent A) k)) (k : Int) (n : Int) ((i + 1 : Nat) : Int) num den else (if f = true then (if wrap64 (x * den) > wrap64 (num * (k : Int)) then ((line_gcd.f q x (k : Int)).bind fun t => if t = 0 then none else lgpace.l1 q A true (mat n (powf n (ent A) k)) (k : Int) (n : Int) ((i + 1 : Nat) : Int) (wrap64 (Int.tdiv x t)) (wrap64 (Int.tdiv (k : Int) t))) else lgpace.l1 q A f (mat n (powf n (ent A) k)) (k : Int) (n : Int) ((i + 1 : Nat) : Int) num den) else ((line_gcd.f q x (k : Int)).bind fun t => if t = 0 then none else lgpace.l1 q A true (mat n (powf n (ent A) k)) (k : Int) (n : Int) ((i + 1 : Nat) : Int) (wrap64 (Int.tdiv x t)) (wrap64 (Int.tdiv (k : Int) t)))) := by
      intro q
      simp only [lgpace.l1]
      rw [if_pos (by omega), if_pos (by omega), if_pos (by omega), rdL, if_pos (by omega), rdI, hval, wr1 i (by omega)]
      unfold line_never_int.f
      simp only [Option.bind_some]
      rfl
    have seen : ∀ k' i', Seen n k (i + 1) k' i' ↔ Seen n k i k' i' ∨ (k' = k ∧ i' = i) := by
      intro k' i'
      constructor
      · intro h
        by_cases e : k' = k ∧ i' = i
        · exact .inr e
        · exact .inl ⟨h.1, h.2.1, by have := h.2.2; omega⟩
      · rintro (h | ⟨rfl, rfl⟩)
        · exact ⟨h.1, h.2.1, by have := h.2.2; omega⟩
        · exact ⟨hk, hin, .inr ⟨rfl, by omega⟩⟩
    by_cases hn : x = NEV
    · have hb' : Best n (ent A) (Seen n k (i + 1)) num den f := by
        rcases hb with ⟨h0, h⟩ | ⟨h0, h⟩
        · refine .inl ⟨h0, fun k' i' hs => ?_⟩
          rcases (seen k' i').1 hs with hs | ⟨rfl, rfl⟩
          · exact h k' i' hs
          · rw [hx, hn]
        · refine .inr ⟨h0, h.den0, h.den6, h.lo, h.hi, fun k' i' hs hne => ?_, ?_, h.low⟩
          · rcases (seen k' i').1 hs with hs | ⟨rfl, rfl⟩
            · exact h.top k' i' hs hne
            · exact absurd (hx.trans hn) hne
          · obtain ⟨k', i', hs, h3⟩ := h.att
            exact ⟨k', i', (seen k' i').2 (.inl hs), h3⟩
      obtain ⟨r, e, h⟩ := ih (i + 1) (by omega) f num den hb'
      exact ⟨r, Ev.step (fun q => by rw [head, if_pos hn]) e, h⟩
    have hxs := hxb.resolve_left hn
    have take : (∀ k' i', Seen n k i k' i' → powf n (ent A) k' i' i' ≠ NEV → powf n (ent A) k' i' i' * (k : Nat) ≤ x * (k' : Nat)) →
        ∃ r, Ev (fun q => (line_gcd.f q x (k : Int)).bind fun t => if t = 0 then none else lgpace.l1 q A true (mat n (powf n (ent A) k)) (k : Int) (n : Int) ((i + 1 : Nat) : Int) (wrap64 (Int.tdiv x t)) (wrap64 (Int.tdiv (k : Int) t))) r ∧ Best n (ent A) (Seen n (n + 1) 0) r.1 r.2.1 r.2.2 := by
      intro hle
      obtain ⟨g, eg, hg⟩ := gcd_f x (k : Int) (by omega) (by omega) (by omega) (by omega)
      have ht : Top n (ent A) (Seen n k (i + 1)) (Int.tdiv x g) (Int.tdiv (k : Int) g) := by
        refine Top.make hx hn hxs.1 hxs.2 hk (by omega) hg ((seen k i).2 (.inr ⟨rfl, rfl⟩)) fun k' i' hs hne => ?_
        rcases (seen k' i').1 hs with hs | ⟨rfl, rfl⟩
        · exact hle k' i' hs hne
        · rw [hx]; exact Int.le_refl _
      obtain ⟨r, e, h⟩ := ih (i + 1) (by omega) true (Int.tdiv x g) (Int.tdiv (k : Int) g) (.inr ⟨rfl, ht⟩)
      have gp := hg.pos (.inr (by omega))
      have b1 := ht.lo
      have b2 := ht.hi
      have b3 := ht.den0
      have b4 := ht.den6
      refine ⟨r, Ev.bind eg (Ev.congr (fun q => ?_) e), h⟩
      rw [if_neg (by omega), wr (by omega) (by omega), wr (by omega) (by omega)]
    rcases hb with ⟨rfl, h⟩ | ⟨rfl, h⟩
    · obtain ⟨r, e, h'⟩ := take fun k' i' hs hne => absurd (h k' i' hs) hne
      exact ⟨r, Ev.step (fun q => by rw [head, if_neg hn, if_neg (by decide)]) e, h'⟩
    · have w1 : wrap64 (x * den) = x * den := small_mul hxs.1 hxs.2 h.den0 h.den6
      have w2 : wrap64 (num * (k : Int)) = num * (k : Int) := small_mul h.lo h.hi (by omega) (by omega)
      by_cases hgt : x * den > num * (k : Int)
      · obtain ⟨r, e, h'⟩ := take fun k' i' hs hne => cross (h.top k' i' hs hne) (by omega) h.den0 (by omega) (by omega)
        exact ⟨r, Ev.step (fun q => by rw [head, if_neg hn, if_pos rfl, w1, w2, if_pos hgt]) e, h'⟩
      · have hb' : Best n (ent A) (Seen n k (i + 1)) num den true := by
          refine .inr ⟨rfl, h.den0, h.den6, h.lo, h.hi, fun k' i' hs hne => ?_, ?_, h.low⟩
          · rcases (seen k' i').1 hs with hs | ⟨rfl, rfl⟩
            · exact h.top k' i' hs hne
            · rw [hx]; omega
          · obtain ⟨k', i', hs, h3⟩ := h.att
            exact ⟨k', i', (seen k' i').2 (.inl hs), h3⟩
        obtain ⟨r, e, h'⟩ := ih (i + 1) (by omega) true num den hb'
        exact ⟨r, Ev.step (fun q => by rw [head, if_neg hn, if_pos rfl, w1, w2, if_neg hgt]) e, h'⟩
theorem pace_l0 {n : Nat} {A : List (List Int)} (hA : Arg n A) : ∀ d k, k + d = n → ∀ f num den, Best n (ent A) (Seen n (k + 1) 0) num den f →
    ∃ r, Ev (fun q => lgpace.l0 q A f (mat n (powf n (ent A) k)) ((k + 1 : Nat) : Int) num den) r ∧ Best n (ent A) (Seen n (n + 1) 0) r.1 r.2.1 r.2.2 := by
  have h6 := hA.six
  have hl := hA.is.1
  intro d
  induction d with
  | zero =>
    intro k hk f num den hb
    obtain rfl : k = n := by omega
    refine ⟨(num, den, f), ev_now fun q => ?_, hb⟩
    simp only [lgpace.l0]
    rw [if_neg (by omega)]
  | succ d ih =>
    intro k hk f num den hb
    obtain ⟨r, e, h⟩ := pace_l1 hA (k + 1) (by omega) (by omega) (ih (k + 1) (by omega)) n 0 (by omega) f num den hb
    have et : Ev (fun q => lgtimes.f q (mat n (powf n (ent A) k)) A) (mat n (powf n (ent A) (k + 1))) := by
      have := times_pow (n := n) (a := ent A) (M := 1000) (by omega) hA.bd (by omega) k 1 (by omega)
      rwa [pow_one hA] at this
    refine ⟨r, Ev.step (f := fun q => (lgtimes.f q (mat n (powf n (ent A) k)) A).bind fun t => lgpace.l1 q A f t ((k + 1 : Nat) : Int) (n : Int) ((0 : Nat) : Int) num den) (fun q => ?_) (Ev.bind et e), h⟩
    simp only [lgpace.l0]
    rw [if_pos (by omega), hl]
    rfl
theorem pace_f {n : Nat} {A : List (List Int)} (hA : Arg n A) : ∃ r, Ev (fun q => lgpace.f q A) r ∧ Best n (ent A) (Seen n (n + 1) 0) r.1 r.2.1 r.2.2 := by
  have h6 := hA.six
  obtain ⟨r, e, h⟩ := pace_l0 hA n 0 (by omega) false 0 1 (.inl ⟨rfl, fun k' i' hs => absurd hs.2.2 (by have := hs.1; omega)⟩)
  have eo := one_f n (by omega)
  refine ⟨r, ?_, h⟩
  unfold lgpace.f
  rw [hA.is.1]
  exact Ev.bind eo e
end Go.Proofs.Ythjmfbmffchicaa.Pure
