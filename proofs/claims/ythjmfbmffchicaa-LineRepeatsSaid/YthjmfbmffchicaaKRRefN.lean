/- What the line's Regime answers: an error, or the period and the first power from which on the powers repeat themselves. Bounds stand in each theorem. -/
import Derived.Test.YthjmfbmffchicaaKRf4
import Derived.Test.YthjmfbmffchicaaKRRefL
import Derived.Test.YthjmfbmffchicaaKRRefM
namespace Go.Proofs.Ythjmfbmffchicaa.Pure
open Go.RowKit Go.Proofs.Ythjmfbmffchicaa.V Go.Proofs.YthjmfbmffchicaaW.PrintWords Go.Proofs.YthjmfbmffchicaaW.PrintLast Go.Proofs.YthjmfbmffchicaaW.PrintMore
open Go.Proofs.Ythjmfbmffchicaa.Mp
def addf (add x : Int) : Int := if x = NEV then NEV else x + add
section
variable {n : Nat} {a : Nat → Nat → Int} {num den : Int} {B : Nat → Nat → Prop}
theorem slack_pow (ha : BdM n n 1000 a) (ht : Top n a B num den) {k : Nat} (hk : k ≤ 10000000000) {i j : Nat} (hi : i < n) (hj : j < n) :
    powf n (slackf num den a) k i j = if powf n a k i j = NEV then NEV else den * powf n a k i j - num * (k : Nat) := by
  have hs := slack_bd ha ht
  have f1 : powf n a k i j ≠ NEV → powf n (slackf num den a) k i j ≠ NEV ∧ den * powf n a k i j - num * (k : Nat) ≤ powf n (slackf num den a) k i j := fun hne => by
    obtain ⟨v, hv, v0, vL, vw⟩ := Go.of_pow hi hj hne
    have e := slack_wt (num := num) (den := den) hv
    have := Go.le_pow hs (by omega) (by omega) ⟨v, slack_wk' ha ht hv, v0, vL, rfl⟩
    rw [e, vw] at this
    exact this
  have f2 : powf n (slackf num den a) k i j ≠ NEV → powf n a k i j ≠ NEV ∧ powf n (slackf num den a) k i j ≤ den * powf n a k i j - num * (k : Nat) := fun hne => by
    obtain ⟨v, hv, v0, vL, vw⟩ := Go.of_pow hi hj hne
    have hv' := slack_wk ha ht hv
    have e := slack_wt (num := num) (den := den) hv'
    have := Go.le_pow ha (by omega) (by omega) ⟨v, hv', v0, vL, rfl⟩
    refine ⟨this.1, ?_⟩
    rw [← vw, e]
    have := Int.mul_le_mul_of_nonneg_left this.2 (Int.le_of_lt ht.den0)
    omega
  by_cases e : powf n a k i j = NEV
  · rw [if_pos e]
    by_cases e2 : powf n (slackf num den a) k i j = NEV
    · exact e2
    · exact absurd e (f2 e2).1
  · rw [if_neg e]
    have h1 := f1 e
    have h2 := f2 h1.1
    omega
theorem rep_iff (ha : BdM n n 1000 a) (ht : Top n a B num den) {k x : Nat} (hk : k + x ≤ 10000000000) {add : Int} (hadd : den * add = num * (x : Nat)) :
    Rep n (slackf num den a) k x ↔ ∀ i j, i < n → j < n → powf n a (k + x) i j = addf add (powf n a k i j) := by
  have key : ∀ i j, i < n → j < n → (powf n (slackf num den a) (k + x) i j = powf n (slackf num den a) k i j ↔ powf n a (k + x) i j = addf add (powf n a k i j)) := by
    intro i j hi hj
    have e1 := slack_pow ha ht (k := k + x) hk hi hj
    have e2 := slack_pow ha ht (k := k) (by omega) hi hj
    have b1 := BdM.pow (slack_bd ha ht) (k + x) i j hi hj
    have b2 := BdM.pow (slack_bd ha ht) k i j hi hj
    have c1 := BdM.pow ha (k + x) i j hi hj
    have c2 := BdM.pow ha k i j hi hj
    have n1 : (NEV : Int) = -1152921504606846976 := rfl
    unfold addf
    by_cases h1 : powf n a (k + x) i j = NEV
    · rw [if_pos h1] at e1
      by_cases h2 : powf n a k i j = NEV
      · rw [if_pos h2] at e2
        rw [e1, e2, h1, if_pos h2]
      · rw [if_neg h2] at e2
        rw [e1, h1, if_neg h2]
        constructor
        · intro h
          exfalso
          rw [e2] at h b2
          rcases b2 with b2 | b2
          · have f1 := Go.of_pow hi hj h2
            obtain ⟨v, hv, v0, vL, vw⟩ := f1
            have e := slack_wt (num := num) (den := den) hv
            have := (Go.le_pow (slack_bd ha ht) (by omega) (by omega) ⟨v, slack_wk' ha ht hv, v0, vL, rfl⟩).1
            rw [e2] at this
            exact this b2
          · omega
        · intro h
          exfalso
          rcases c2 with c2 | c2
          · exact h2 c2
          · have hx : (x : Int) ≤ 10000000000 := by omega
            have m1 := Int.mul_le_mul_of_nonneg_right ht.lo (by omega : (0 : Int) ≤ (x : Nat))
            have m2 := Int.mul_le_mul_of_nonneg_left (show add ≤ -1000000000000000000 by omega) (Int.le_of_lt ht.den0)
            have m3 := ht.den0
            omega
    · rw [if_neg h1] at e1
      by_cases h2 : powf n a k i j = NEV
      · rw [if_pos h2] at e2
        rw [e2, if_pos h2]
        constructor
        · intro h
          exfalso
          obtain ⟨v, hv, v0, vL, vw⟩ := Go.of_pow hi hj h1
          have := (Go.le_pow (slack_bd ha ht) (by omega) (by omega) ⟨v, slack_wk' ha ht hv, v0, vL, rfl⟩).1
          exact this h
        · intro h; exact absurd h h1
      · rw [if_neg h2] at e2
        rw [e1, e2, if_neg h2]
        have d0 := ht.den0
        rw [Int.natCast_add, Int.mul_add]
        constructor
        · intro h
          refine Int.eq_of_mul_eq_mul_left (by omega : den ≠ 0) ?_
          rw [Int.mul_add, hadd]
          omega
        · intro h
          rw [h, Int.mul_add, hadd]
          omega
  exact ⟨fun h i j hi hj => (key i j hi hj).1 (h i j hi hj), fun h i j hi hj => (key i j hi hj).2 (h i j hi hj)⟩
theorem slack_ok (hn1 : 1 ≤ n) (hn : n ≤ 6) (ha : BdM n n 1000 a) (ht : Top n a (Seen n (n + 1) 0) num den) : Ok n (slackf num den a) := ⟨hn1, hn, slack_bd ha ht, slack_nopos hn ha ht⟩
theorem slack_con (ha : BdM n n 1000 a) (ht : Top n a B num den) (h : Conn n a) : Con n (slackf num den a) := fun i j hi hj => by
  obtain ⟨L, v, hv, v0, vL⟩ := h i j hi hj
  exact ⟨L, _, v, slack_wk' ha ht hv, v0, vL, rfl⟩
theorem slack_onz (ha : BdM n n 1000 a) (ht : Top n a (Seen n (n + 1) 0) num den) : ∃ u, OnZ n (slackf num den a) u := by
  obtain ⟨k, i, hS, hne, he⟩ := ht.att
  obtain ⟨v, hv, v0, vL, vw⟩ := pow_att k i i hS.2.1 hS.2.1 hne
  refine ⟨i, k, hS.1, v, slack_wk' ha ht hv, v0, vL, ?_⟩
  rw [slack_wt hv, vw, Int.mul_comm den]
  omega
theorem copr {p q : Int} {m : Nat} (hp : ∀ d : Int, d ∣ p → d ∣ q → d ∣ 1) (h : q ∣ p * (m : Nat)) : q ∣ (m : Int) := by
  have hc : Nat.Coprime q.natAbs p.natAbs := by
    have h1 := hp ((Nat.gcd q.natAbs p.natAbs : Nat) : Int) (Int.ofNat_dvd_left.2 (Nat.gcd_dvd_right _ _)) (Int.ofNat_dvd_left.2 (Nat.gcd_dvd_left _ _))
    exact Nat.dvd_one.1 (Int.natCast_dvd_natCast.1 h1)
  have h2 : q.natAbs ∣ p.natAbs * m := by
    have := Int.natAbs_dvd_natAbs.2 h
    rwa [Int.natAbs_mul, Int.natAbs_natCast] at this
  exact Int.natAbs_dvd.1 (Int.natCast_dvd_natCast.2 (hc.dvd_of_dvd_mul_left h2))
theorem per_den (ha : BdM n n 1000 a) (ht : Top n a (Seen n (n + 1) 0) num den) {c : Nat} (hc : IsPer n (slackf num den a) c) : den ∣ (c : Int) := by
  obtain ⟨u, hu⟩ := slack_onz ha ht
  have d0 := ht.den0
  obtain ⟨d, rfl⟩ : ∃ d : Nat, den = (d : Int) := ⟨den.toNat, by omega⟩
  refine Int.natCast_dvd_natCast.2 ((hc.iff c).1 (Nat.dvd_refl c) u hu d fun L hL => ?_)
  obtain ⟨v, hv, v0, vL, vw⟩ := hL
  rw [slack_wt (slack_wk ha ht hv)] at vw
  exact Int.natCast_dvd_natCast.1 (copr ht.low ⟨wt a v L, by omega⟩)
theorem per_60 {s : Nat → Nat → Int} (h : Ok n s) {c : Nat} (hc : IsPer n s c) : c ∣ 60 := by
  refine (hc.iff 60).2 fun u hu d hd => ?_
  obtain ⟨q, hq, hqn, hzq⟩ := hu.small h.bd h.hs h.no
  have h6 := h.six
  refine Nat.dvd_trans (hd q hzq) ?_
  have : q = 1 ∨ q = 2 ∨ q = 3 ∨ q = 4 ∨ q = 5 ∨ q = 6 := by omega
  rcases this with rfl | rfl | rfl | rfl | rfl | rfl <;> decide
end
theorem power_big {n : Nat} {A : List (List Int)} (h : Arg n A) (m : Nat) (hm : m ≤ 10000000000) :
    Ev (fun r => lgpower.f r A (m : Int)) (mat n (powf n (ent A) m)) := by
  have h6 := h.six
  have h1 := one_f n (by omega)
  have hp := power_l0 (n := n) (M := 1000) (a := ent A) (by omega) h.bd (by omega) m (by omega) 1 0 (by omega)
  rw [pow_one h, Nat.one_mul, Nat.zero_add] at hp
  unfold lgpower.f
  rw [h.is.1]
  exact Ev.bind h1 hp
theorem Equal_l0 (n : Nat) (hn : n ≤ 1000) (f g : Nat → Int) : ∀ d j, j + d = n → ∃ b, Ev (fun k => slices_Equal_int_int.l0 k (vec n f) (vec n g) (n : Int) (j : Int)) b ∧ (b = true ↔ ∀ q, j ≤ q → q < n → f q = g q) := by
  intro d
  induction d with
  | zero =>
    intro j hj
    refine ⟨true, ev_now fun k => ?_, fun _ q h1 h2 => by omega, fun _ => rfl⟩
    simp only [slices_Equal_int_int.l0]
    rw [if_neg (by omega)]
  | succ d ih =>
    intro j hj
    have hj' : j < n := by omega
    have l1 : (vec n f).length = n := vec_length _ _
    have l2 : (vec n g).length = n := vec_length _ _
    have v1 : (vec n f).getD j 0 = f j := vec_get _ hj'
    have v2 : (vec n g).getD j 0 = g j := vec_get _ hj'
    obtain ⟨b, hb, hbi⟩ := ih (j + 1) (by omega)
    by_cases e : f j = g j
    · refine ⟨b, Ev.step (fun k => ?_) hb, ?_⟩
      · simp only [slices_Equal_int_int.l0]
        rw [if_pos (by omega), if_pos (by omega), if_pos (by omega), if_pos (by omega), rdI, rdI, v1, v2, if_pos e, wr1 j (by omega)]
      · rw [hbi]
        constructor
        · intro h q h1 h2
          by_cases e2 : q = j
          · subst e2; exact e
          · exact h q (by omega) h2
        · intro h q h1 h2; exact h q (by omega) h2
    · refine ⟨false, ev_now fun k => ?_, fun h => absurd h (by decide), fun h => absurd (h j (by omega) hj') e⟩
      simp only [slices_Equal_int_int.l0]
      rw [if_pos (by omega), if_pos (by omega), if_pos (by omega), if_pos (by omega), rdI, rdI, v1, v2, if_neg e]
theorem Regime1_l0 (n : Nat) (hn : n ≤ 1000) (f g : Nat → Nat → Int) : ∀ d i, i + d = n → ∃ b, Ev (fun k => line_Regime_1.l0 k (mat n g) (mat n f) (n : Int) (i : Int)) b ∧ (b = true ↔ ∀ p q, i ≤ p → p < n → q < n → f p q = g p q) := by
  intro d
  induction d with
  | zero =>
    intro i hi
    refine ⟨true, ev_now fun k => ?_, fun _ p q h1 h2 => by omega, fun _ => rfl⟩
    simp only [line_Regime_1.l0]
    rw [if_neg (by omega)]
  | succ d ih =>
    intro i hi
    have hi' : i < n := by omega
    have l1 : (mat n f).length = n := mat_length _ _
    have l2 : (mat n g).length = n := mat_length _ _
    obtain ⟨b, hb, hbi⟩ := ih (i + 1) (by omega)
    obtain ⟨e, he, hei⟩ := Equal_l0 n hn (f i) (g i) n 0 (by omega)
    have he' : Ev (fun k => slices_Equal_int_int.f k ((mat n f).getD i []) ((mat n g).getD i [])) e := by
      unfold slices_Equal_int_int.f
      rw [mat_get _ hi', mat_get _ hi', vec_length, vec_length]
      exact Ev.congr (fun k => if_pos rfl) he
    have step : ∀ k, line_Regime_1.l0 (k + 1) (mat n g) (mat n f) (n : Int) (i : Int) = (slices_Equal_int_int.f k ((mat n f).getD i []) ((mat n g).getD i [])).bind fun t => if t = true then line_Regime_1.l0 k (mat n g) (mat n f) (n : Int) ((i + 1 : Nat) : Int) else some false := fun k => by
      simp only [line_Regime_1.l0]
      rw [if_pos (by omega), if_pos (by omega), if_pos (by omega), if_pos (by omega), rdL, rdL, wr1 i (by omega)]
    by_cases e1 : e = true
    · refine ⟨b, Ev.step step (Ev.bind he' (Ev.congr (fun k => if_pos e1) hb)), ?_⟩
      rw [hbi]
      constructor
      · intro h p q h1 h2 h3
        by_cases e2 : p = i
        · subst e2; exact hei.1 e1 q (by omega) h3
        · exact h p q (by omega) h2 h3
      · intro h p q h1 h2 h3; exact h p q (by omega) h2 h3
    · refine ⟨false, Ev.step step (Ev.bind he' (ev_some fun k => if_neg e1)), fun h => absurd h (by decide), fun h => absurd (hei.2 fun q _ h3 => h i q (by omega) hi' h3) e1⟩
theorem Regime1_f {n : Nat} {A : List (List Int)} (hA : Arg n A) {num den : Int} {B : Nat → Nat → Prop} (ht : Top n (ent A) B num den) (m c : Nat) (hm : m ≤ 100000000) (hc : c ≤ 60) (add : Int) (hadd : den * add = num * (c : Nat)) :
    ∃ b, Ev (fun k => line_Regime_1.f k (m : Int) A add (c : Int)) b ∧ (b = true ↔ Rep n (slackf num den (ent A)) m c) := by
  have h6 := hA.six
  have p1 := power_big hA m (by omega)
  have p2 := power_big hA c (by omega)
  have bp := BdM.pow hA.bd m
  have d0 := ht.den0
  have ab : -360000 ≤ add ∧ add ≤ 360000 := by
    have m1 := Int.mul_le_mul_of_nonneg_right ht.lo (by omega : (0 : Int) ≤ (c : Nat))
    have m2 := Int.mul_le_mul_of_nonneg_right ht.hi (by omega : (0 : Int) ≤ (c : Nat))
    have d6 := ht.den6
    have : den = 1 ∨ den = 2 ∨ den = 3 ∨ den = 4 ∨ den = 5 ∨ den = 6 := by omega
    rcases this with rfl | rfl | rfl | rfl | rfl | rfl <;> omega
  have em : Ev (fun k => lgmapped_add.f k (mat n (powf n (ent A) m)) add) (mat n (mapf (fun e => e + add) (ent (mat n (powf n (ent A) m))))) := mapped_f (g := fun e => e + add) (by omega) (isMat_mat n _) fun i j hi hj hne => by
    rw [ent_mat _ hi hj] at hne ⊢
    have := (bp i j hi hj).resolve_left hne
    show some (wrap64 (powf n (ent A) m i j + add)) = _
    rw [wr (by omega) (by omega)]
  have e0 : mat n (mapf (fun e => e + add) (ent (mat n (powf n (ent A) m)))) = mat n (fun i j => addf add (powf n (ent A) m i j)) := mat_congr fun i j hi hj => by
    unfold mapf addf
    rw [ent_mat _ hi hj]
  rw [e0] at em
  have et := times_pow (n := n) (by omega) hA.bd (by omega) m c (by omega)
  obtain ⟨b, hb, hbi⟩ := Regime1_l0 n (by omega) (powf n (ent A) (m + c)) (fun i j => addf add (powf n (ent A) m i j)) n 0 (by omega)
  refine ⟨b, ?_, ?_⟩
  · unfold line_Regime_1.f
    refine Ev.bind p1 (Ev.bind em (Ev.bind p2 (Ev.bind et ?_)))
    rw [mat_length]
    exact hb
  · rw [hbi, rep_iff hA.bd ht (by omega) hadd]
    exact ⟨fun h i j hi hj => h i j (by omega) hi hj, fun h p q _ hp hq => h p q hp hq⟩
section
variable {n : Nat} {A : List (List Int)} {num den : Int} {L : List (List Int)} {u v : Int} {S D : List (List Int)}
theorem Regime_l1 (hA : Arg n A) (ht : Top n (ent A) (Seen n (n + 1) 0) num den) (c k : Nat) (hc : c ≤ 60) (add : Int) (hadd : den * add = num * (c : Nat)) (hk : Rep n (slackf num den (ent A)) k c) (hmin : ∀ j, j < k → ¬ Rep n (slackf num den (ent A)) j c) : ∀ d lo hi, hi - lo ≤ d → lo ≤ k → k ≤ hi → hi ≤ 100000000 →
    Ev (fun r => line_Regime.l1 r (c : Int) add (hi : Int) (lo : Int) A u v S D) ((c : Int), (k : Int), (0 : Int)) := by
  intro d
  induction d with
  | zero =>
    intro lo hi hd h1 h2 h3
    obtain rfl : lo = k := by omega
    obtain rfl : hi = lo := by omega
    refine ev_now fun r => ?_
    simp only [line_Regime.l1]
    rw [if_neg (by omega)]
  | succ d ih =>
    intro lo hi hd h1 h2 h3
    by_cases e : lo < hi
    · have emid : wrap64 (Int.tdiv (wrap64 ((lo : Int) + (hi : Int))) 2) = (((lo + hi) / 2 : Nat) : Int) := by
        rw [wr (x := (lo : Int) + (hi : Int)) (by omega) (by omega), show (lo : Int) + (hi : Int) = ((lo + hi : Nat) : Int) by omega, tdiv2, wr (by omega) (by omega)]
      obtain ⟨b, hb, hbi⟩ := Regime1_f hA ht ((lo + hi) / 2) c (by omega) hc add hadd
      refine Ev.step (f := fun r => (line_Regime_1.f r (((lo + hi) / 2 : Nat) : Int) A add (c : Int)).bind fun t => if t = true then line_Regime.l1 r (c : Int) add (((lo + hi) / 2 : Nat) : Int) (lo : Int) A u v S D else line_Regime.l1 r (c : Int) add (hi : Int) (((lo + hi) / 2 + 1 : Nat) : Int) A u v S D) (fun r => ?_) (Ev.bind hb ?_)
      · simp only [line_Regime.l1]
        rw [if_pos (by omega), emid, wr1 ((lo + hi) / 2) (by omega)]
      · by_cases eb : b = true
        · refine Ev.congr (fun r => if_pos eb) (ih lo ((lo + hi) / 2) (by omega) h1 ?_ (by omega))
          by_cases e2 : k ≤ (lo + hi) / 2
          · exact e2
          · exact absurd (hbi.1 eb) (hmin _ (by omega))
        · refine Ev.congr (fun r => if_neg eb) (ih ((lo + hi) / 2 + 1) hi (by omega) ?_ h2 h3)
          by_cases e2 : k ≤ (lo + hi) / 2
          · have := hk.later ((lo + hi) / 2 - k)
            rw [show k + ((lo + hi) / 2 - k) = (lo + hi) / 2 by omega] at this
            exact absurd (hbi.2 this) eb
          · omega
    · obtain rfl : lo = k := by omega
      obtain rfl : hi = lo := by omega
      refine ev_now fun r => ?_
      simp only [line_Regime.l1]
      rw [if_neg (by omega)]
theorem Regime_l0 (hA : Arg n A) (ht : Top n (ent A) (Seen n (n + 1) 0) num den) (c k : Nat) (hc : c ≤ 60) (add : Int) (hadd : den * add = num * (c : Nat)) (hk : Rep n (slackf num den (ent A)) k c) (hmin : ∀ j, j < k → ¬ Rep n (slackf num den (ent A)) j c) (big : k ≤ 10000000) : ∀ d t, t + d = 24 →
    Ev (fun r => line_Regime.l0 r (c : Int) add ((2 ^ t : Nat) : Int) A u v S D) ((c : Int), (k : Int), (0 : Int)) := by
  intro d
  induction d with
  | zero =>
    intro t ht2
    obtain rfl : t = 24 := by omega
    obtain ⟨b, hb, hbi⟩ := Regime1_f hA ht (2 ^ 24) c (by decide) hc add hadd
    have : Rep n (slackf num den (ent A)) (2 ^ 24) c := by
      have h1 := hk.later (2 ^ 24 - k)
      rwa [show k + (2 ^ 24 - k) = 2 ^ 24 by have : (2 : Nat) ^ 24 = 16777216 := by decide
                                             omega] at h1
    have l1 := Regime_l1 (u := u) (v := v) (S := S) (D := D) hA ht c k hc add hadd hk hmin (2 ^ 24) 0 (2 ^ 24) (by omega) (by omega) (by have : (2 : Nat) ^ 24 = 16777216 := by decide
                                                                                                                                         omega) (by decide)
    refine Ev.step (f := fun r => (line_Regime_1.f r ((2 ^ 24 : Nat) : Int) A add (c : Int)).bind fun t => if t = true then line_Regime.l1 r (c : Int) add ((2 ^ 24 : Nat) : Int) ((0 : Nat) : Int) A u v S D else line_Regime.l0 r (c : Int) add (wrap64 (((2 ^ 24 : Nat) : Int) * 2)) A u v S D) (fun r => ?_) (Ev.bind hb (Ev.congr (fun r => if_pos (hbi.2 this)) l1))
    simp only [line_Regime.l0]
    rfl
  | succ d ih =>
    intro t ht2
    have hp : (2 : Nat) ^ t ≤ 2 ^ 23 := Nat.pow_le_pow_right (by omega) (by omega)
    have h23 : (2 : Nat) ^ 23 = 8388608 := by decide
    have hs : (2 : Nat) ^ (t + 1) = 2 ^ t * 2 := Nat.pow_succ ..
    have ih' := ih (t + 1) (by omega)
    rw [hs] at ih'
    revert ih' hp
    generalize (2 : Nat) ^ t = p
    intro hp ih'
    obtain ⟨b, hb, hbi⟩ := Regime1_f hA ht p c (by omega) hc add hadd
    refine Ev.step (f := fun r => (line_Regime_1.f r (p : Int) A add (c : Int)).bind fun t => if t = true then line_Regime.l1 r (c : Int) add (p : Int) ((0 : Nat) : Int) A u v S D else line_Regime.l0 r (c : Int) add (wrap64 ((p : Int) * 2)) A u v S D) (fun r => ?_) (Ev.bind hb ?_)
    · simp only [line_Regime.l0]
      rfl
    by_cases eb : b = true
    · refine Ev.congr (fun r => if_pos eb) (Regime_l1 hA ht c k hc add hadd hk hmin p 0 p (by omega) (by omega) ?_ (by omega))
      by_cases e2 : k ≤ p
      · exact e2
      · exact absurd (hbi.1 eb) (hmin _ (by omega))
    · refine Ev.congr (fun r => ?_) ih'
      rw [if_neg eb, wr (x := (p : Int) * 2) (by omega) (by omega)]
      rfl
end
structure RegIs (n : Nat) (a : Nat → Nat → Int) (num den : Int) (c k : Nat) : Prop where
  top : Top n a (Seen n (n + 1) 0) num den
  conn : Conn n a
  per : IsPer n (slackf num den a) c
  rep : Rep n (slackf num den a) k c
  min : ∀ j, j < k → ¬ Rep n (slackf num den a) j c
  big : k ≤ 10000000
theorem Regime_no {A : List (List Int)} (ra : Rows A) (h : ¬ ∃ n, Arg n A) : Ev (fun k => line_Regime.f k A) (0, 0, 2) := by
  have eo := ((of_f A ra).resolve_left (fun h2 => h h2.1)).2
  have e1 : Ev (fun k => line_looked.f k A) ([], 0, 0, [], [], 2) := by
    unfold line_looked.f
    exact Ev.bind eo (ev_some fun k => if_neg (by decide))
  unfold line_Regime.f
  exact Ev.bind e1 (ev_some fun k => if_neg (by decide))
theorem Regime_f {n : Nat} {A : List (List Int)} (hA : Arg n A) (ra : Rows A) :
    ((∀ k i, Seen n (n + 1) 0 k i → powf n (ent A) k i i = NEV) ∧ Ev (fun k => line_Regime.f k A) (0, 0, 10)) ∨
    ∃ num den, Top n (ent A) (Seen n (n + 1) 0) num den ∧ Ev (fun k => lgpace.f k A) (num, den, true) ∧
      ((¬ Conn n (ent A) ∧ Ev (fun k => line_Regime.f k A) (0, 0, 10)) ∨
       ∃ c k, RegIs n (ent A) num den c k ∧ Ev (fun r => line_Regime.f r A) ((c : Int), (k : Int), (0 : Int))) := by
  have h6 := hA.six
  have h1 := hA.one
  rcases looked_f hA ra with ⟨h, el, x, y, ep⟩ | ⟨num, den, ht, ep, el⟩
  · refine .inl ⟨h, ?_⟩
    unfold line_Regime.f
    exact Ev.bind el (ev_some fun k => if_neg (by decide))
  · refine .inr ⟨num, den, ht, ep, ?_⟩
    obtain ⟨b, hb, hbi⟩ := connected_f hA
    rw [conn_iff h6] at hbi
    cases b with
    | false =>
      refine .inl ⟨fun h => absurd (hbi.2 h) (by decide), ?_⟩
      unfold line_Regime.f
      exact Ev.bind el (Ev.congr (fun k => if_pos rfl) (Ev.bind hb (ev_some fun k => if_neg (by decide))))
    | true =>
      have hcn := hbi.1 rfl
      have ok := slack_ok h1 h6 hA.bd ht
      obtain ⟨c, hc, ec⟩ := period_f ok A num den (eig_bd h6 hA.bd ht)
      have hc60 := Nat.le_of_dvd (by omega) (per_60 ok hc)
      obtain ⟨w, hw⟩ := per_den hA.bd ht hc
      obtain ⟨u0, hu0⟩ := slack_onz hA.bd ht
      have d0 := ht.den0
      have hadd : den * (num * w) = num * (c : Nat) := by rw [hw, Int.mul_left_comm]
      have bigr := cyc_rep h1 h6 ok.bd ok.no (slack_con hA.bd ht hcn) hu0 hc (m := 10000000) (by omega) (by omega)
      obtain ⟨k, hk, hmin⟩ := least_nat (P := fun k => Rep n (slackf num den (ent A)) k c) ⟨_, bigr⟩
      have hbig : k ≤ 10000000 := by
        by_cases e : k ≤ 10000000
        · exact e
        · exact absurd bigr (hmin _ (by omega))
      refine .inr ⟨c, k, ⟨ht, hcn, hc, hk, hmin, hbig⟩, ?_⟩
      have hl := Regime_l0 (u := num) (v := den) (S := mat n (slackf num den (ent A))) (D := mat n (fwk (slackf num den (ent A)) n)) hA ht c k hc60 (num * w) hadd hk hmin hbig 24 0 (by omega)
      have nb : -360000 ≤ num * (c : Nat) ∧ num * (c : Nat) ≤ 360000 := by
        have m1 := Int.mul_le_mul_of_nonneg_right ht.lo (by omega : (0 : Int) ≤ (c : Nat))
        have m2 := Int.mul_le_mul_of_nonneg_right ht.hi (by omega : (0 : Int) ≤ (c : Nat))
        omega
      have nw : -360000 ≤ num * w ∧ num * w ≤ 360000 := by
        have d6 := ht.den6
        have : den = 1 ∨ den = 2 ∨ den = 3 ∨ den = 4 ∨ den = 5 ∨ den = 6 := by omega
        rcases this with rfl | rfl | rfl | rfl | rfl | rfl <;> omega
      have eadd : wrap64 (Int.tdiv (wrap64 ((c : Int) * num)) den) = num * w := by
        rw [Int.mul_comm (c : Int) num, wr (x := num * (c : Nat)) (by omega) (by omega), ← hadd, Int.mul_tdiv_cancel_left _ (by omega : den ≠ 0), wr (by omega) (by omega)]
      unfold line_Regime.f
      refine Ev.bind el (Ev.congr (fun k => if_pos rfl) (Ev.bind hb (Ev.congr (fun k => if_pos rfl) (Ev.bind ec (Ev.congr (fun k => ?_) hl)))))
      rw [if_neg (show ¬ den = 0 by omega)]
      show line_Regime.l0 k (c : Int) (wrap64 (Int.tdiv (wrap64 ((c : Int) * num)) den)) 1 A num den _ _ = _
      rw [eadd]
      rfl
end Go.Proofs.Ythjmfbmffchicaa.Pure
