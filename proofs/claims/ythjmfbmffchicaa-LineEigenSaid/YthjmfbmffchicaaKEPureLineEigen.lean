/- The plain statement of the law LineEigen: whatever the lists and numbers, the printed law's function comes to true. No condition but that the numbers are of their kinds. -/
import Derived.Test.YthjmfbmffchicaaKEf7
import Derived.Test.YthjmfbmffchicaaKERefC
import Derived.Test.YthjmfbmffchicaaKERefL
import Derived.Test.YthjmfbmffchicaaKEAlive
import Derived.OpenShut
namespace Go.Proofs.Ythjmfbmffchicaa.Pure
open Go.RowKit Go.Proofs.Ythjmfbmffchicaa.V Go.Proofs.YthjmfbmffchicaaW.PrintWords Go.Proofs.YthjmfbmffchicaaW.PrintLast
open Go.Proofs.Ythjmfbmffchicaa.Mp
theorem alive_eigen : Ev (fun k => (l5alive.f k).bind fun t => some t) true := Ev.bind alive_ev (Ev.now true)
theorem mul_bd {x d B : Int} (h1 : -B ≤ x) (h2 : x ≤ B) (h3 : 0 < d) (h4 : d ≤ 6) : -(6 * B) ≤ d * x ∧ d * x ≤ 6 * B := by
  have : d = 1 ∨ d = 2 ∨ d = 3 ∨ d = 4 ∨ d = 5 ∨ d = 6 := by omega
  rcases this with rfl | rfl | rfl | rfl | rfl | rfl <;> omega
theorem mn_min (a b : Int) : mn a b = min a b := by unfold mn; split <;> omega
section
variable {n : Nat} {A : List (List Int)} {num den : Int} {c : Nat} {m : Int} {x : List Int} {a2 : Int}
theorem spread (hA : Arg n A) (h : EigIs n (ent A) num den c m) (hx : ∀ j, j < n → -1000000 ≤ x.getD j 0 ∧ x.getD j 0 ≤ 1000000) {lo hi : Int} (hd : ∀ j, j < n → lo ≤ den * x.getD j 0 - eigv n (ent A) num den c m j ∧ den * x.getD j 0 - eigv n (ent A) num den c m j ≤ hi)
    (s : Nat) (hs : s ≤ 1000) (i : Nat) (hi' : i < n) : (-2000000 ≤ onf n (powf n (ent A) s) (fun j => x.getD j 0) i ∧ onf n (powf n (ent A) s) (fun j => x.getD j 0) i ≤ 2000000) ∧ lo ≤ den * onf n (powf n (ent A) s) (fun j => x.getD j 0) i - num * (s : Nat) - eigv n (ent A) num den c m i ∧ den * onf n (powf n (ent A) s) (fun j => x.getD j 0) i - num * (s : Nat) - eigv n (ent A) num den c m i ≤ hi := by
  have h6 := hA.six
  have he := h.eig h6 hA.bd
  have ht := h.top
  have hd0 := ht.den0
  have hp := BdM.pow hA.bd s
  obtain ⟨u, hu, uL, uw⟩ := he.walk_at s i hi'
  have hu' := slack_wk hA.bd ht hu
  have hj := hu.lt 0 (by omega)
  have hge := pow_ge hA.bd (by omega) s u (by omega) hu'
  rw [uL] at hge
  have hwb := wt_bd hA.bd hu'
  have n1 : (NEV : Int) = -1152921504606846976 := rfl
  have hpn : powf n (ent A) s i (u 0) ≠ NEV := fun e => by rw [e] at hge; omega
  have hle := le_sup (h := fun j => pl (powf n (ent A) s i j) (x.getD j 0)) hj
  have hxj := hx _ hj
  have hxn : x.getD (u 0) 0 ≠ NEV := by omega
  have hle2 : powf n (ent A) s i (u 0) + x.getD (u 0) 0 ≤ onf n (powf n (ent A) s) (fun j => x.getD j 0) i := by
    have : pl (powf n (ent A) s i (u 0)) (x.getD (u 0) 0) = powf n (ent A) s i (u 0) + x.getD (u 0) 0 := by unfold pl; rw [if_neg hpn, if_neg hxn]
    rw [← this]; exact hle
  have hwS := slack_wt (num := num) (den := den) hu'
  have hdj := hd _ hj
  have hpj := (hp i (u 0) hi' hj).resolve_left hpn
  have mid : onf n (powf n (ent A) s) (fun j => x.getD j 0) i ≠ NEV := by omega
  have hlow : lo ≤ den * onf n (powf n (ent A) s) (fun j => x.getD j 0) i - num * (s : Nat) - eigv n (ent A) num den c m i := by
    have k1 := Int.mul_le_mul_of_nonneg_left hle2 (Int.le_of_lt hd0)
    have k2 := Int.mul_le_mul_of_nonneg_left hge (Int.le_of_lt hd0)
    rw [Int.mul_add] at k1
    omega
  rcases sup_mem (fun j => pl (powf n (ent A) s i j) (x.getD j 0)) n with e | ⟨q, hq, e⟩
  · exact absurd e mid
  replace e : onf n (powf n (ent A) s) (fun j => x.getD j 0) i = pl (powf n (ent A) s i q) (x.getD q 0) := e
  have q1 : powf n (ent A) s i q ≠ NEV := fun e1 => mid (by rw [e, e1, pl_nev_left])
  have hxq := hx q hq
  have q2 : x.getD q 0 ≠ NEV := by omega
  have e' : onf n (powf n (ent A) s) (fun j => x.getD j 0) i = powf n (ent A) s i q + x.getD q 0 := by rw [e]; unfold pl; rw [if_neg q1, if_neg q2]
  obtain ⟨w, hw, w0, wL, ww⟩ := pow_att s i q hi' hq q1
  have hwe := he.walk_le (slack_wk' hA.bd ht hw)
  rw [slack_wt hw, w0, wL, ww] at hwe
  have hdq := hd q hq
  have hpq := (hp i q hi' hq).resolve_left q1
  refine ⟨by rw [e']; omega, hlow, ?_⟩
  rw [e', Int.mul_add]
  omega
theorem LineEigen_l3 (hA : Arg n A) (h : EigIs n (ent A) num den c m) (hx : ∀ j, j < n → -1000000 ≤ x.getD j 0 ∧ x.getD j 0 ≤ 1000000) {lo hi : Int} (hd : ∀ j, j < n → lo ≤ den * x.getD j 0 - eigv n (ent A) num den c m j ∧ den * x.getD j 0 - eigv n (ent A) num den c m j ≤ hi)
    (x13 : Int) (s : Nat) (hs : s ≤ 1000) : ∀ d i, i + d = n → Ev (fun k => l5LineEigen.l3 k (vec n (eigv n (ent A) num den c m)) (n : Int) x13 lo hi (s : Int) (End n (ent A) s x) (i : Int) num den) true := by
  have h6 := hA.six
  intro d
  induction d with
  | zero =>
    intro i hi
    refine Ev.step (fun k => ?_) alive_eigen
    simp only [l5LineEigen.l3]
    rw [if_neg (by omega)]
  | succ d ih =>
    intro i hi'
    have hi2 : i < n := by omega
    have l1 : (vec n (eigv n (ent A) num den c m)).length = n := vec_length _ _
    have l2 : (End n (ent A) s x).length = n := vec_length _ _
    have g1 : (vec n (eigv n (ent A) num den c m)).getD i 0 = eigv n (ent A) num den c m i := vec_get _ hi2
    have g2 : (End n (ent A) s x).getD i 0 = onf n (powf n (ent A) s) (fun j => x.getD j 0) i := vec_get _ hi2
    have sp := spread hA h hx hd s hs i hi2
    have vb := h.bd h6 hA.bd i hi2
    have t := h.top
    have b1 := mul_bd (B := 2000000) sp.1.1 sp.1.2 t.den0 t.den6
    have b2 : -6000000 ≤ num * (s : Nat) ∧ num * (s : Nat) ≤ 6000000 := by
      have c1 := Int.mul_le_mul_of_nonneg_right t.lo (by omega : (0 : Int) ≤ (s : Nat))
      have c2 := Int.mul_le_mul_of_nonneg_right t.hi (by omega : (0 : Int) ≤ (s : Nat))
      omega
    refine Ev.step (fun k => ?_) (ih (i + 1) (by omega))
    simp only [l5LineEigen.l3]
    rw [if_pos (by omega), if_pos (by omega), if_pos (by omega), if_pos (by omega), rdI, rdI, g1, g2, wr1 i (by omega), Int.mul_comm (s : Int) num]
    revert sp b1 b2 vb
    generalize den * onf n (powf n (ent A) s) (fun j => x.getD j 0) i = p
    generalize num * ((s : Nat) : Int) = q
    generalize eigv n (ent A) num den c m i = r
    intro sp b1 b2 vb
    rw [wr (x := p) (by omega) (by omega), wr (x := q) (by omega) (by omega), wr (x := p - q) (by omega) (by omega), wr (x := p - q - r) (by omega) (by omega), if_neg (by omega), if_neg (by omega)]
theorem LineEigen_l2 (hA : Arg n A) (ra : Rows A) (h : EigIs n (ent A) num den c m) (hxl : x.length = n) (x13 : Int) (h2 : 0 ≤ a2) (_h2' : a2 ≤ 65535) : ∀ d i, i + d = n → ∀ lo hi : Int, (∀ j, j < i → (-1000000 ≤ x.getD j 0 ∧ x.getD j 0 ≤ 1000000) ∧ lo ≤ den * x.getD j 0 - eigv n (ent A) num den c m j ∧ den * x.getD j 0 - eigv n (ent A) num den c m j ≤ hi) →
    Ev (fun k => l5LineEigen.l2 k A x a2 (vec n (eigv n (ent A) num den c m)) (n : Int) x13 lo hi (i : Int) num den) true := by
  have h6 := hA.six
  intro d
  induction d with
  | zero =>
    intro i hi lo hi' hd
    obtain rfl : i = n := by omega
    obtain ⟨s, hs, hs'⟩ : ∃ s : Nat, wrap64 (Int.tmod a2 1000) = (s : Int) ∧ s ≤ 999 := ⟨(a2 % 1000).toNat, by rw [Int.tmod_eq_emod_of_nonneg h2, wr (by omega) (by omega)]; omega, by omega⟩
    have hx := fun j hj => (hd j hj).1
    have hdd := fun j hj => (hd j hj).2
    have hst : Start i x := ⟨hxl, fun j hj => by
      have := hx j (by omega)
      exact odd_iff.2 (.inr (by omega))⟩
    have l2 : (End i (ent A) s x).length = i := vec_length _ _
    refine Ev.step (f := fun k => (line_Run.f k A x (s : Int)).bind fun b => if b.2 = 0 then l5LineEigen.j7 k (vec i (eigv i (ent A) num den c m)) (i : Int) x13 lo hi' (s : Int) b.1 ((b.1.length : Int) != (i : Int)) num den else l5LineEigen.j7 k (vec i (eigv i (ent A) num den c m)) (i : Int) x13 lo hi' (s : Int) b.1 true num den) (fun k => ?_) ?_
    · simp only [l5LineEigen.l2]
      rw [if_neg (by omega), hs]
    rcases Run_ok hA ra s (by omega) hst with ⟨_, er⟩ | ⟨hn, _⟩
    · refine Ev.bind er (Ev.congr (fun k => if_pos rfl) (Ev.step (fun k => ?_) (LineEigen_l3 hA h hx hdd x13 s (by omega) i 0 (by omega))))
      simp only [l5LineEigen.j7]
      rw [l2, if_neg (by simp)]
      rfl
    · exfalso
      apply hn
      intro j hj
      rw [l2] at hj
      have sp := (spread hA h hx hdd s (by omega) j hj).1
      have g2 : (End i (ent A) s x).getD j 0 = onf i (powf i (ent A) s) (fun j => x.getD j 0) j := vec_get _ hj
      rw [g2]
      exact odd_iff.2 (.inr (by omega))
  | succ d ih =>
    intro i hi' lo hi hd
    have hi2 : i < n := by omega
    have l1 : (vec n (eigv n (ent A) num den c m)).length = n := vec_length _ _
    have g1 : (vec n (eigv n (ent A) num den c m)).getD i 0 = eigv n (ent A) num den c m i := vec_get _ hi2
    have out : Ev (fun k => l5LineEigen.j6 k A x a2 (vec n (eigv n (ent A) num den c m)) (n : Int) x13 lo hi (i : Int) true num den) true := by
      refine Ev.step (fun k => ?_) alive_eigen
      simp only [l5LineEigen.j6]
      rw [if_pos trivial]
    by_cases c1 : x.getD i 0 < -1000000
    · refine Ev.step (fun k => ?_) out
      simp only [l5LineEigen.l2]
      rw [if_pos (by omega), if_pos (by omega), if_pos (by omega), rdI, if_pos c1]
    · refine Ev.step (f := fun k => l5LineEigen.j6 k A x a2 (vec n (eigv n (ent A) num den c m)) (n : Int) x13 lo hi (i : Int) (decide (x.getD i 0 > 1000000)) num den) (fun k => ?_) ?_
      · simp only [l5LineEigen.l2]
        rw [if_pos (by omega), if_pos (by omega), if_pos (by omega), rdI, if_neg c1]
      by_cases c2 : x.getD i 0 > 1000000
      · rw [decide_eq_true c2]; exact out
      rw [decide_eq_false c2]
      have vb := h.bd h6 hA.bd i hi2
      have t := h.top
      have b1 := mul_bd (B := 1000000) (x := x.getD i 0) (by omega) (by omega) t.den0 t.den6
      by_cases e0 : i = 0
      · refine Ev.step (fun k => ?_) (ih (i + 1) (by omega) (mn (den * x.getD i 0 - eigv n (ent A) num den c m i) (den * x.getD i 0 - eigv n (ent A) num den c m i)) (mx (den * x.getD i 0 - eigv n (ent A) num den c m i) (den * x.getD i 0 - eigv n (ent A) num den c m i)) (fun j hj => ?_))
        · simp only [l5LineEigen.j6]
          rw [if_neg (by decide), if_pos (by omega), if_pos (by omega), if_pos (by omega), if_pos (by omega), rdI, rdI, g1, wr (x := den * x.getD i 0) (by omega) (by omega), wr (x := den * x.getD i 0 - eigv n (ent A) num den c m i) (by omega) (by omega), wr1 i (by omega)]
        · obtain rfl : j = i := by omega
          rw [mn_min, mx_max]
          omega
      · refine Ev.step (fun k => ?_) (ih (i + 1) (by omega) (mn lo (den * x.getD i 0 - eigv n (ent A) num den c m i)) (mx hi (den * x.getD i 0 - eigv n (ent A) num den c m i)) (fun j hj => ?_))
        · simp only [l5LineEigen.j6]
          rw [if_neg (by decide), if_pos (by omega), if_pos (by omega), if_pos (by omega), if_neg (by omega), rdI, rdI, g1, wr (x := den * x.getD i 0) (by omega) (by omega), wr (x := den * x.getD i 0 - eigv n (ent A) num den c m i) (by omega) (by omega), wr1 i (by omega)]
        · rw [mn_min, mx_max]
          by_cases e : j = i
          · subst e; omega
          · have := hd j (by omega); omega
def slk (den : Int) (a : Nat → Nat → Int) (v : Nat → Int) (i j : Nat) : Int := if a i j = NEV then NEV else den * a i j + v j
theorem sup_slk (hA : Arg n A) (h : EigIs n (ent A) num den c m) (i : Nat) (hi : i < n) : sup (slk den (ent A) (eigv n (ent A) num den c m) i) n = num + eigv n (ent A) num den c m i := by
  have h6 := hA.six
  have he := h.eig h6 hA.bd
  have vb := h.bd h6 hA.bd
  have t := h.top
  have n1 : (NEV : Int) = -1152921504606846976 := rfl
  apply Int.le_antisymm
  · refine sup_le ?_ fun k hk => ?_
    · have := vb i hi; have := t.lo; omega
    · unfold slk
      by_cases e : ent A i k = NEV
      · rw [if_pos e]; have := vb i hi; have := t.lo; omega
      · rw [if_neg e]
        have h1 := he.le i k hi hk (fun e2 => e ((slack_nev (hA.bd i k hi hk) t).1 e2))
        have h2 : slackf num den (ent A) i k = den * ent A i k - num := if_neg e
        rw [h2] at h1
        omega
  · obtain ⟨k, hk, hne, hk2⟩ := he.at_ i hi
    have e : ent A i k ≠ NEV := fun e2 => hne ((slack_nev (hA.bd i k hi hk) t).2 e2)
    have h2 : slackf num den (ent A) i k = den * ent A i k - num := if_neg e
    have h3 := le_sup (h := slk den (ent A) (eigv n (ent A) num den c m) i) hk
    have h4 : slk den (ent A) (eigv n (ent A) num den c m) i k = den * ent A i k + eigv n (ent A) num den c m k := if_neg e
    rw [h4] at h3
    rw [h2] at hk2
    omega
theorem LineEigen_l1 (hA : Arg n A) (h : EigIs n (ent A) num den c m) (x12 x13 : Int) (i : Nat) (hi : i < n)
    (hr : Ev (fun k => l5LineEigen.l0 k A x a2 (vec n (eigv n (ent A) num den c m)) (n : Int) (mn x12 (eigv n (ent A) num den c m i)) (mx x13 (eigv n (ent A) num den c m i)) ((i + 1 : Nat) : Int) num den) true) : ∀ d j, j + d = n →
    Ev (fun k => l5LineEigen.l1 k A x a2 (vec n (eigv n (ent A) num den c m)) (n : Int) x12 x13 (i : Int) (sup (slk den (ent A) (eigv n (ent A) num den c m) i) j) (j : Int) num den) true := by
  have h6 := hA.six
  have l1 : (vec n (eigv n (ent A) num den c m)).length = n := vec_length _ _
  have g : ∀ j, j < n → (vec n (eigv n (ent A) num den c m)).getD j 0 = eigv n (ent A) num den c m j := fun j hj => vec_get _ hj
  have t := h.top
  intro d
  induction d with
  | zero =>
    intro j hj
    obtain rfl : j = n := by omega
    refine Ev.step (fun k => ?_) hr
    have vb := h.bd h6 hA.bd i hi
    have := t.lo
    have := t.hi
    simp only [l5LineEigen.l1]
    rw [if_neg (by omega), if_pos (by omega), if_pos (by omega), rdI, g i hi, sup_slk hA h i hi, wr (x := num + eigv j (ent A) num den c m i) (by omega) (by omega), if_pos rfl, wr1 i (by omega)]
  | succ d ih =>
    intro j hj
    have hj' : j < n := by omega
    have e1 := hA.is.1
    have e2 := hA.is.2 i hi
    have vb := h.bd h6 hA.bd j hj'
    refine Ev.step (fun k => ?_) (ih (j + 1) (by omega))
    simp only [l5LineEigen.l1]
    rw [if_pos (by omega), if_pos (by omega), if_pos (by omega), if_pos (by omega), rdL, if_pos (by omega), rdI, rdI, g j hj', wr1 j (by omega)]
    show (if ent A i j = -1152921504606846976 then _ else _) = _
    by_cases e : ent A i j = NEV
    · rw [if_pos (show ent A i j = -1152921504606846976 from e)]
      have : sup (slk den (ent A) (eigv n (ent A) num den c m) i) (j + 1) = sup (slk den (ent A) (eigv n (ent A) num den c m) i) j := by
        show max _ (slk den (ent A) (eigv n (ent A) num den c m) i j) = _
        unfold slk
        rw [if_pos e]
        exact Int.max_eq_left (sup_nev _ _)
      rw [this]
    · rw [if_neg (show ¬ ent A i j = -1152921504606846976 from e), if_pos (by omega)]
      have ab := (hA.bd i j hi hj').resolve_left e
      have b1 := mul_bd (B := 1000) ab.1 ab.2 t.den0 t.den6
      show l5LineEigen.l1 k A x a2 (vec n (eigv n (ent A) num den c m)) (n : Int) x12 x13 (i : Int) (mx _ (wrap64 (wrap64 (den * ent A i j) + _))) _ num den = _
      rw [wr (x := den * ent A i j) (by omega) (by omega), wr (x := den * ent A i j + eigv n (ent A) num den c m j) (by omega) (by omega), mx_max]
      have : sup (slk den (ent A) (eigv n (ent A) num den c m) i) (j + 1) = max (sup (slk den (ent A) (eigv n (ent A) num den c m) i) j) (den * ent A i j + eigv n (ent A) num den c m j) := by
        show max _ (slk den (ent A) (eigv n (ent A) num den c m) i j) = _
        unfold slk
        rw [if_neg e]
      rw [this]
theorem LineEigen_l0 (hA : Arg n A) (ra : Rows A) (h : EigIs n (ent A) num den c m) (h2 : 0 ≤ a2) (h2' : a2 ≤ 65535) : ∀ d i, i + d = n → ∀ x12 x13 : Int, 0 ≤ x12 → (∀ q, q < i → x12 ≤ eigv n (ent A) num den c m q) →
    Ev (fun k => l5LineEigen.l0 k A x a2 (vec n (eigv n (ent A) num den c m)) (n : Int) x12 x13 (i : Int) num den) true := by
  have h6 := hA.six
  intro d
  induction d with
  | zero =>
    intro i hi x12 x13 h0 hq
    obtain rfl : i = n := by omega
    have z : x12 = 0 := by
      obtain ⟨q, hq1, hq2⟩ := h.mem
      have := hq q hq1
      have e : eigv i (ent A) num den c m q = 0 := by unfold eigv; omega
      omega
    subst z
    refine Ev.step (f := fun k => l5LineEigen.j4 k A x a2 (vec i (eigv i (ent A) num den c m)) (i : Int) 0 x13 ((x.length : Int) != (i : Int)) num den) (fun k => ?_) ?_
    · simp only [l5LineEigen.l0]
      rw [if_neg (by omega), if_pos trivial]
    by_cases hl : x.length = i
    · refine Ev.step (fun k => ?_) (LineEigen_l2 hA ra h hl x13 h2 h2' i 0 (by omega) 0 0 (fun j hj => by omega))
      simp only [l5LineEigen.j4]
      rw [hl, if_neg (by simp)]
      rfl
    · refine Ev.step (fun k => ?_) alive_eigen
      simp only [l5LineEigen.j4]
      rw [if_pos (by rw [bne_iff_ne]; omega), if_pos trivial]
  | succ d ih =>
    intro i hi x12 x13 h0 hq
    have vb := h.bd h6 hA.bd i (by omega)
    refine Ev.step (fun k => ?_) (LineEigen_l1 hA h x12 x13 i (by omega) (ih (i + 1) (by omega) _ _ (by rw [mn_min]; omega) (fun q hq2 => ?_)) n 0 (by omega))
    · simp only [l5LineEigen.l0]
      rw [if_pos (by omega)]
      rfl
    · rw [mn_min]
      by_cases e : q = i
      · subst e; omega
      · have := hq q (by omega); omega
end
theorem LineEigen : ∀ (l0 : List (List Int)) (l1 : List Int) (a2 : Int), l0.length ≤ 9223372036854775807 → (∀ r ∈ l0, r.length ≤ maxLen ∧ ∀ x ∈ r, (Lit.int .i64 x).wf = true) → l1.length ≤ 9223372036854775807 → (∀ x ∈ l1, (Lit.int .i64 x).wf = true) → (Lit.int .u16 a2).wf = true → ∃ k, l5LineEigen.f k l0 l1 a2 = some true := by
  intro A x a2 hA1 hA2 hx hx2 w2
  have b2 : 0 ≤ a2 ∧ a2 ≤ 65535 := bounds_u16 w2
  have ra : Rows A := by
    intro i hi
    have e : A.getD i [] = A[i] := by simp [List.getD_eq_getElem?_getD, List.getElem?_eq_getElem hi]
    rw [e]
    have := (hA2 A[i] (List.getElem_mem hi)).1
    unfold maxLen at this
    omega
  apply Ev.rounds
  have out : Ev (fun k => l5LineEigen.j0 k A x a2 true) true := by
    refine Ev.step (fun k => ?_) alive_eigen
    simp only [l5LineEigen.j0]
    rw [if_pos trivial]
  unfold l5LineEigen.f
  obtain ⟨fa, ea, _⟩ := few_f A
  refine Ev.bind ea ?_
  cases fa with
  | false => exact Ev.congr (fun k => if_neg (by decide)) out
  | true =>
  refine Ev.congr (fun k => if_pos rfl) ?_
  by_cases h20 : (x.length : Int) > 20
  · rw [decide_eq_true h20]; exact out
  rw [decide_eq_false h20]
  refine Ev.step (f := fun k => (line_Eigen.f k A).bind fun b => (line_Speed.f k A).bind fun s => if b.2 = 0 then (if s.2.2 = 0 then (if (b.1.length : Int) = (A.length : Int) then l5LineEigen.j1 k A x a2 b.1 (A.length : Int) (decide (s.2.1 < 1)) s.1 s.2.1 else l5LineEigen.j1 k A x a2 b.1 (A.length : Int) true s.1 s.2.1) else l5LineEigen.j1 k A x a2 b.1 (A.length : Int) true s.1 s.2.1) else (if (b.1.length : Int) = 0 then ((l5alive.f k).bind fun t => some t) else some false)) (fun k => ?_) ?_
  · simp only [l5LineEigen.j0]
    rw [if_neg (by decide)]
  by_cases hA : ∃ n, Arg n A
  · obtain ⟨n, hA⟩ := hA
    rcases Eigen_f hA ra with ⟨_, e1, e2⟩ | ⟨num, den, ht, e2, ⟨_, e1⟩ | ⟨c, m, h, e1⟩⟩
    · exact Ev.bind e1 (Ev.bind e2 (Ev.congr (fun k => if_neg (show ¬ (10 : Int) = 0 by decide)) (Ev.congr (fun k => if_pos rfl) alive_eigen)))
    · exact Ev.bind e1 (Ev.bind e2 (Ev.congr (fun k => if_neg (show ¬ (10 : Int) = 0 by decide)) (Ev.congr (fun k => if_pos rfl) alive_eigen)))
    · have hl := hA.is.1
      have l1 : (vec n (eigv n (ent A) num den c m)).length = n := vec_length _ _
      have h1 := hA.one
      have h6 := hA.six
      have t := ht.den0
      have g : (vec n (eigv n (ent A) num den c m)).getD 0 0 = eigv n (ent A) num den c m 0 := vec_get _ (by omega)
      have vb := h.bd h6 hA.bd 0 (by omega)
      refine Ev.bind e1 (Ev.bind e2 (Ev.congr (fun k => if_pos rfl) (Ev.congr (fun k => if_pos rfl) (Ev.congr (fun k => if_pos (by show ((vec n (eigv n (ent A) num den c m)).length : Int) = (A.length : Int); omega)) (Ev.step (fun k => ?_) (LineEigen_l0 (x := x) hA ra h b2.1 b2.2 n 0 (by omega) (eigv n (ent A) num den c m 0) (eigv n (ent A) num den c m 0) (by omega) (fun q hq => by omega)))))))
      simp only [l5LineEigen.j1]
      rw [if_neg (by rw [decide_eq_true_iff]; omega), if_pos (by omega), hl, show rd (vec n (eigv n (ent A) num den c m)) 0 = eigv n (ent A) num den c m 0 from g]
      rfl
  · have hno := Eigen_no ra hA
    exact Ev.bind hno.1 (Ev.bind hno.2 (Ev.congr (fun k => if_neg (show ¬ (2 : Int) = 0 by decide)) (Ev.congr (fun k => if_pos rfl) alive_eigen)))
end Go.Proofs.Ythjmfbmffchicaa.Pure
