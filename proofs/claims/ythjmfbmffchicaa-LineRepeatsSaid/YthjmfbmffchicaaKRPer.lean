/- Critical arcs and closed walks of sum 0: which lengths the closed walks of critical arcs have. Bounds stand in each theorem. -/
import Derived.Test.YthjmfbmffchicaaKRRefK
import Derived.Test.YthjmfbmffchicaaKRCycB
namespace Go.Proofs.Ythjmfbmffchicaa.Pure
open Go.RowKit Go.Proofs.Ythjmfbmffchicaa.V Go.Proofs.YthjmfbmffchicaaW.PrintWords Go.Proofs.YthjmfbmffchicaaW.PrintLast Go.Proofs.YthjmfbmffchicaaW.PrintMore
open Go.Proofs.Ythjmfbmffchicaa.Mp
def arcf (s d : Nat → Nat → Int) (i j : Nat) : Int := if crit s d i j = true then 0 else NEV
theorem arc_bd (n : Nat) (s d : Nat → Nat → Int) : BdM n n 0 (arcf s d) := fun i j _ _ => by
  unfold arcf
  split
  · exact .inr ⟨(by decide : -(0 : Int) ≤ 0), (by decide : (0 : Int) ≤ 0)⟩
  · exact .inl rfl
theorem arc_wt {n : Nat} {s d : Nat → Nat → Int} {v : Nat → Nat} {L : Nat} (h : Wk n (arcf s d) v L) : wt (arcf s d) v L = 0 := by
  have := wt_bd (arc_bd n s d) h
  omega
theorem arc_nopos (n : Nat) (s d : Nat → Nat → Int) : NoPos n (arcf s d) := by
  intro k i _ _ hi
  by_cases e : powf n (arcf s d) k i i = NEV
  · rw [e]; decide
  · obtain ⟨v, hv, _, _, vw⟩ := pow_att k i i hi hi e
    rw [← vw, arc_wt hv]; decide
theorem arc_crit {s d : Nat → Nat → Int} {i j : Nat} : arcf s d i j ≠ NEV ↔ pl (s i j) (d j i) = 0 := by
  unfold arcf crit
  by_cases h : pl (s i j) (d j i) = 0
  · rw [if_pos (beq_iff_eq.2 h)]
    exact ⟨fun _ => h, fun _ => by decide⟩
  · rw [if_neg (fun h2 => h (beq_iff_eq.1 h2))]
    exact ⟨fun h2 => absurd rfl h2, fun h2 => absurd h2 h⟩
structure Ok (n : Nat) (s : Nat → Nat → Int) : Prop where
  one : 1 ≤ n
  six : n ≤ 6
  bd : BdM n n 12000 s
  no : NoPos n s
section
variable {n : Nat} {s : Nat → Nat → Int}
theorem Ok.two (h : Ok n s) : (12000 : Int) * ((2 ^ n : Nat) : Int) < 100000000000000000 := by have := pow6 h.six; omega
theorem Ok.hs (h : Ok n s) : (12000 : Int) * (n : Nat) < 1152921504606846976 := by have := h.six; omega
theorem Ok.pl0 (h : Ok n s) {i j : Nat} (hi : i < n) (hj : j < n) {x : Int} {K : Nat} (hne : s i j ≠ NEV) (hg : Go n s i j K x) (hx : 0 ≤ s i j + x) : arcf s (fwk s n) i j ≠ NEV := by
  obtain ⟨v, hv, v0, vL, vw⟩ := hg
  have h1 := walk_star h.bd (by omega) h.hs h.no h.two (by omega) K hv
  rw [v0, vL, vw] at h1
  have h2 := star_step h.bd (by omega) h.hs h.no h.two (by omega) i j i hi hj hi
  rw [fwk_diag h.bd (by omega) h.hs h.no (by omega) hi] at h2
  refine arc_crit.2 ?_
  unfold pl at h2 ⊢
  rw [if_neg hne, if_neg h1.1] at h2 ⊢
  omega
theorem Ok.back (_h : Ok n s) {i j : Nat} (hi : i < n) (hj : j < n) (hc : arcf s (fwk s n) i j ≠ NEV) : s i j ≠ NEV ∧ ∃ K, Go n s i j K (-(s i j)) := by
  have h1 := arc_crit.1 hc
  have n1 : s i j ≠ NEV := fun e => by rw [e, pl_nev_left] at h1; exact absurd h1 (by decide)
  have n2 : fwk s n j i ≠ NEV := fun e => by rw [e, pl_nev_right] at h1; exact absurd h1 (by decide)
  unfold pl at h1
  rw [if_neg n1, if_neg n2] at h1
  refine ⟨n1, ?_⟩
  rcases fwk_att (a := s) n (by omega) j i hj hi with e | ⟨K, v, hv, v0, vL, vw⟩
  · exact absurd e n2
  · exact ⟨K, v, hv, v0, vL, by omega⟩
theorem Ok.wk (h : Ok n s) {v : Nat → Nat} {L : Nat} (hv : Wk n (arcf s (fwk s n)) v L) : Wk n s v L :=
  ⟨hv.lt, fun t ht => (h.back (hv.lt _ (by omega)) (hv.lt _ (by omega)) (hv.arc t ht)).1⟩
theorem Ok.return_ (h : Ok n s) {v : Nat → Nat} : ∀ {L : Nat}, Wk n (arcf s (fwk s n)) v L → ∃ K, Go n s (v L) (v 0) K (-(wt s v L)) := by
  intro L
  induction L with
  | zero => intro hv; exact ⟨0, Go.nil (hv.lt 0 (by omega))⟩
  | succ L ih =>
    intro hv
    obtain ⟨K, hK⟩ := ih (hv.left (by omega))
    obtain ⟨_, K2, hK2⟩ := h.back (hv.lt (L + 1) (by omega)) (hv.lt L (by omega)) (hv.arc L (by omega))
    refine ⟨K2 + K, ?_⟩
    have := hK2.cat hK
    rwa [show -(s (v (L + 1)) (v L)) + -(wt s v L) = -(wt s v (L + 1)) by show _ = -(wt s v L + s (v (L + 1)) (v L)); omega] at this
theorem Ok.zero (h : Ok n s) {v : Nat → Nat} {L : Nat} (hv : Wk n (arcf s (fwk s n)) v L) (e : v 0 = v L) : wt s v L = 0 := by
  obtain ⟨K, hK⟩ := h.return_ hv
  rw [e] at hK
  have h1 := hK.closed h.bd (by omega) h.hs h.no
  have h2 := closed_le h.bd (by omega) h.hs h.no L v (h.wk hv) e
  omega
theorem Ok.crit (h : Ok n s) {v : Nat → Nat} {L : Nat} (hv : Wk n s v L) (e : v 0 = v L) (e0 : wt s v L = 0) : Wk n (arcf s (fwk s n)) v L := by
  refine ⟨hv.lt, fun t ht => ?_⟩
  obtain ⟨r, rfl⟩ : ∃ r, L = t + 1 + r := ⟨L - (t + 1), by omega⟩
  have w1 := wt_add s v (t + 1) r
  have g1 : Go n s (v 0) (v t) t (wt s v t) := ⟨v, hv.left (by omega), rfl, rfl, rfl⟩
  have g2 : Go n s (v (t + 1)) (v (t + 1 + r)) r (wt s (fun q => v (q + (t + 1))) r) := ⟨fun q => v (q + (t + 1)), Wk.shift hv, by simp, by show v (r + (t + 1)) = v (t + 1 + r); rw [Nat.add_comm], rfl⟩
  rw [← e] at g2
  have w2 : wt s v (t + 1) = wt s v t + s (v (t + 1)) (v t) := rfl
  exact h.pl0 (hv.lt _ (by omega)) (hv.lt _ (by omega)) (hv.arc t (by omega)) (g2.cat g1) (by omega)
theorem Ok.pow_iff (h : Ok n s) {j k : Nat} (hj : j < n) : powf n (arcf s (fwk s n)) k j j = 0 ↔ Z n s j k := by
  constructor
  · intro e
    obtain ⟨v, hv, v0, vL, _⟩ := pow_att (a := arcf s (fwk s n)) k j j hj hj (by rw [e]; decide)
    exact ⟨v, h.wk hv, v0, vL, h.zero hv (by rw [v0, vL])⟩
  · rintro ⟨v, hv, v0, vL, vw⟩
    have hc := h.crit hv (by rw [v0, vL]) vw
    have h1 := pow_ge (arc_bd n s (fwk s n)) (by omega) k v (by omega) hc
    rw [arc_wt hc, v0, vL] at h1
    have n1 : (NEV : Int) = -1152921504606846976 := rfl
    have h2 := BdM.pow (arc_bd n s (fwk s n)) k j j hj hj
    rcases h2 with h2 | h2 <;> omega
theorem Ok.reach_iff (h : Ok n s) {i j : Nat} (hi : i < n) (hj : j < n) : fwk (arcf s (fwk s n)) n i j = 0 ↔ ∃ v L, Wk n (arcf s (fwk s n)) v L ∧ v 0 = j ∧ v L = i := by
  have n1 : (NEV : Int) = -1152921504606846976 := rfl
  have h6 := h.six
  constructor
  · intro e
    rcases fwk_att (a := arcf s (fwk s n)) n (by omega) i j hi hj with e2 | ⟨L, v, hv, v0, vL, _⟩
    · omega
    · exact ⟨v, L, hv, v0, vL⟩
  · rintro ⟨v, L, hv, v0, vL⟩
    have h1 := (walk_star (arc_bd n s (fwk s n)) (by omega) (by omega) (arc_nopos n s (fwk s n)) (by omega) (by omega) L hv).1
    rw [v0, vL] at h1
    have h2 := fwk_bd (arc_bd n s (fwk s n)) (by omega) n (by omega) i j hi hj
    rcases h2 with h2 | h2 <;> omega
def Same (n : Nat) (s : Nat → Nat → Int) (i j : Nat) : Prop := ∃ K L x, Go n s i j K x ∧ Go n s j i L (-x)
theorem Ok.same_iff (h : Ok n s) {i j : Nat} (hi : i < n) (hj : j < n) : (fwk (arcf s (fwk s n)) n i j = 0 ∧ fwk (arcf s (fwk s n)) n j i = 0) ↔ Same n s i j := by
  rw [h.reach_iff hi hj, h.reach_iff hj hi]
  constructor
  · rintro ⟨⟨v, L, hv, v0, vL⟩, ⟨u, K, hu, u0, uK⟩⟩
    obtain ⟨w, hw, w0, wL, ww⟩ := Go.cat (a := arcf s (fwk s n)) (n := n) (j := i) (k := j) (i := i) ⟨u, hu, u0, uK, rfl⟩ ⟨v, hv, v0, vL, rfl⟩
    have z := h.zero hw (by rw [w0, wL])
    have g1 : Go n s i j K (wt s u K) := ⟨u, h.wk hu, u0, uK, rfl⟩
    have g2 : Go n s j i L (wt s v L) := ⟨v, h.wk hv, v0, vL, rfl⟩
    have b1 := (g1.cat g2).closed h.bd (by omega) h.hs h.no
    obtain ⟨K1, r1⟩ := h.return_ hu
    obtain ⟨K2, r2⟩ := h.return_ hv
    rw [u0, uK] at r1
    rw [v0, vL] at r2
    have b2 := (r1.cat r2).closed h.bd (by omega) h.hs h.no
    refine ⟨K, L, wt s u K, g1, ?_⟩
    rwa [show -(wt s u K) = wt s v L by omega]
  · rintro ⟨K, L, x, g1, g2⟩
    have g := g1.cat g2
    obtain ⟨w, hw, w0, wL, ww⟩ := g1
    obtain ⟨w', hw', w0', wL', ww'⟩ := g2
    have key : ∀ (p q : Nat) (u u' : Nat → Nat) (P Q : Nat), Wk n s u P → u 0 = p → u P = q → Wk n s u' Q → u' 0 = q → u' Q = p → wt s u P + wt s u' Q = 0 → ∃ v L, Wk n (arcf s (fwk s n)) v L ∧ v 0 = p ∧ v L = q := by
      intro p q u u' P Q h1 h2 h3 h4 h5 h6 h7
      have hu : Wk n (arcf s (fwk s n)) u P := by
        refine ⟨h1.lt, fun t ht => ?_⟩
        obtain ⟨r, rfl⟩ : ∃ r, P = t + 1 + r := ⟨P - (t + 1), by omega⟩
        have w1 := wt_add s u (t + 1) r
        have a1 : Go n s p (u t) t (wt s u t) := ⟨u, h1.left (by omega), h2, rfl, rfl⟩
        have a2 : Go n s (u (t + 1)) q r (wt s (fun q => u (q + (t + 1))) r) := ⟨fun q => u (q + (t + 1)), Wk.shift h1, by simp, by show u (r + (t + 1)) = q; rw [Nat.add_comm]; exact h3, rfl⟩
        have a3 : Go n s q p Q (wt s u' Q) := ⟨u', h4, h5, h6, rfl⟩
        have w2 : wt s u (t + 1) = wt s u t + s (u (t + 1)) (u t) := rfl
        exact h.pl0 (h1.lt _ (by omega)) (h1.lt _ (by omega)) (h1.arc t (by omega)) ((a2.cat a3).cat a1) (by omega)
      exact ⟨u, P, hu, h2, h3⟩
    exact ⟨key j i w' w L K hw' w0' wL' hw w0 wL (by omega), key i j w w' K L hw w0 wL hw' w0' wL' (by omega)⟩
theorem Same.conj {i j L : Nat} (h : Same n s i j) (hz : Z n s j L) : ∃ K, Z n s i K ∧ Z n s i (K + L) := by
  obtain ⟨P, Q, x, g1, g2⟩ := h
  refine ⟨P + Q, ?_, ?_⟩
  · have := g1.cat g2
    rwa [show x + -x = 0 by omega] at this
  · have := (g1.cat hz).cat g2
    rw [show x + 0 + -x = 0 by omega] at this
    rwa [show P + Q + L = P + L + Q by omega]
def Good (n : Nat) (s : Nat → Nat → Int) (i k j : Nat) : Prop := Z n s j k ∧ Same n s i j
def GI (n : Nat) (s : Nat → Nat → Int) (i g : Nat) : Prop := ∀ d, d ∣ g ↔ ∀ k j, 1 ≤ k → k ≤ 2 * n → j < n → Good n s i k j → d ∣ k
theorem Same.self {i : Nat} (hi : i < n) : Same n s i i := ⟨0, 0, 0, Go.nil hi, by exact Go.nil hi⟩
theorem Same.trans {i j k : Nat} (h1 : Same n s i j) (h2 : Same n s j k) : Same n s i k := by
  obtain ⟨A, B, x, a, b⟩ := h1
  obtain ⟨C, D, y, c, d⟩ := h2
  refine ⟨A + C, D + B, x + y, a.cat c, ?_⟩
  have := d.cat b
  rwa [show -y + -x = -(x + y) by omega] at this
theorem Ok.all (h : Ok n s) {i g : Nat} (hg : GI n s i g) : ∀ (L j : Nat), Z n s j L → Same n s i j → g ∣ L := by
  intro L
  induction L using Nat.strongRecOn with
  | ind L ih =>
    intro j hz hs
    by_cases h0 : L = 0
    · subst h0; exact Nat.dvd_zero _
    by_cases hL : L ≤ 2 * n
    · exact (hg g).1 (Nat.dvd_refl g) L j (by omega) hL hz.lt.1 ⟨hz, hs⟩
    · obtain ⟨v, hv, v0, vL, vw⟩ := hz
      obtain ⟨p, p', hpp, hp', ev⟩ := php n v (fun t ht => hv.lt t (by omega))
      obtain ⟨d, rfl⟩ : ∃ d, p' = p + d := ⟨p' - p, by omega⟩
      obtain ⟨r, rfl⟩ : ∃ r, L = p + d + r := ⟨L - (p + d), by omega⟩
      have hm : Wk n s (fun t => v (t + p)) d := Wk.shift (hv.left (by omega))
      have ec : v (0 + p) = v (d + p) := by rw [Nat.zero_add, Nat.add_comm d p]; exact ev
      have hc := closed_le h.bd (by omega) h.hs h.no d (fun t => v (t + p)) hm ec
      have hw := cutw_wt (a := s) (r := r) ev
      have hk := cutw_wk hv ev
      have e0 : cutw v p d 0 = j := by rw [cutw_zero, v0]
      have eL : cutw v p d (p + r) = j := by rw [cutw_end ev, vL]
      have hc2 := closed_le h.bd (by omega) h.hs h.no (p + r) (cutw v p d) hk (by rw [e0, eL])
      have z1 : Z n s j (p + r) := ⟨cutw v p d, hk, e0, eL, by omega⟩
      have z2 : Z n s (v p) d := ⟨fun t => v (t + p), hm, by simp, by show v (d + p) = v p; rw [← ec]; simp, by omega⟩
      obtain ⟨x, y, a, b, e⟩ := Go.split hv (t := p) (by omega)
      rw [v0] at a
      rw [vL] at b
      have hs2 : Same n s j (v p) := ⟨p, _, x, a, by rw [show -x = y by omega]; exact b⟩
      have d1 := ih (p + r) (by omega) j z1 hs
      have d2 := ih d (by omega) (v p) z2 (hs.trans hs2)
      rw [show p + d + r = p + r + d by omega]
      exact Nat.dvd_add d1 d2
theorem Ok.per (h : Ok n s) {c : Nat} (hc : 1 ≤ c) (h1 : ∀ i, i < n → ∃ g, GI n s i g) (h2 : ∀ x, c ∣ x ↔ ∀ i, i < n → ∀ g, GI n s i g → 0 < g → g ∣ x) : IsPer n s c := by
  refine ⟨hc, fun x => ?_⟩
  rw [h2 x]
  constructor
  · intro hx u hu d hd
    obtain ⟨q, hq, hqn, hzq⟩ := hu.small h.bd h.hs h.no
    have hun := hzq.lt.1
    obtain ⟨g, hg⟩ := h1 u hun
    have g0 : 0 < g := by
      have := (hg g).1 (Nat.dvd_refl g) q u hq (by omega) hun ⟨hzq, Same.self hun⟩
      exact Nat.pos_of_dvd_of_pos this (by omega)
    refine Nat.dvd_trans ((hg d).2 fun k j _ _ _ hG => ?_) (hx u hun g hg g0)
    obtain ⟨K, z1, z2⟩ := hG.2.conj hG.1
    exact (Nat.dvd_add_right (hd _ z1)).1 (hd _ z2)
  · intro hx i hi g hg g0
    have : ∃ k j, 1 ≤ k ∧ k ≤ 2 * n ∧ j < n ∧ Good n s i k j := by
      by_cases e : ∃ k j, 1 ≤ k ∧ k ≤ 2 * n ∧ j < n ∧ Good n s i k j
      · exact e
      · have := (hg (g + 1)).2 fun k j a1 a2 a3 a4 => absurd ⟨k, j, a1, a2, a3, a4⟩ e
        have := Nat.le_of_dvd g0 this
        omega
    obtain ⟨k, j, a1, a2, a3, a4⟩ := this
    obtain ⟨K, z1, z2⟩ := a4.2.conj a4.1
    exact hx i ⟨K + k, by omega, z2⟩ g (fun L hL => h.all hg L i hL (Same.self hi))
end
end Go.Proofs.Ythjmfbmffchicaa.Pure
