/- The closure of the line's matrices is the plain algebra's: the greatest sums of walks, if no closed walk's sum is above 0. Bounds stand in each theorem. -/
import Derived.Test.YthjmfbmffchicaaKRf2
import Derived.Test.YthjmfbmffchicaaKRRefB
import Derived.Test.YthjmfbmffchicaaKRWalk
namespace Go.Proofs.Ythjmfbmffchicaa.Pure
open Go.RowKit Go.Proofs.Ythjmfbmffchicaa.V Go.Proofs.YthjmfbmffchicaaW.PrintWords Go.Proofs.YthjmfbmffchicaaW.PrintLast
open Go.Proofs.Ythjmfbmffchicaa.Mp
def upd (f g : Nat → Nat → Int) (i j : Nat) (p q : Nat) : Int := if p < i ∨ (p = i ∧ q < j) then g p q else f p q
theorem upd_old (f g : Nat → Nat → Int) (i j : Nat) : upd f g i j i j = f i j := if_neg (by omega)
theorem upd_set {n : Nat} (f g : Nat → Nat → Int) (i j : Nat) (hi : i < n) : (mat n (upd f g i j)).set i (((mat n (upd f g i j)).getD i []).set j (g i j)) = mat n (upd f g i (j + 1)) := by
  rw [mat_get _ hi]
  have row : (vec n (upd f g i j i)).set j (g i j) = vec n (upd f g i (j + 1) i) := by
    refine range_map_set n _ _ j _ (fun _ => if_pos (by omega)) (fun b _ hb => ?_)
    unfold upd
    by_cases h : b < j
    · rw [if_pos (by omega), if_pos (by omega)]
    · rw [if_neg (by omega), if_neg (by omega)]
  rw [row]
  refine range_map_set n _ _ i _ (fun _ => rfl) (fun b _ hb => vec_congr fun q _ => ?_)
  unfold upd
  by_cases h : b < i
  · rw [if_pos (by omega), if_pos (by omega)]
  · rw [if_neg (by omega), if_neg (by omega)]
theorem upd_next (n : Nat) (f g : Nat → Nat → Int) (i : Nat) : mat n (upd f g i n) = mat n (upd f g (i + 1) 0) := mat_congr fun p q _ hq => by
  unfold upd
  by_cases h : p < i + 1
  · rw [if_pos (by omega), if_pos (by omega)]
  · rw [if_neg (by omega), if_neg (by omega)]
theorem upd_zero (n : Nat) (f g : Nat → Nat → Int) : mat n f = mat n (upd f g 0 0) := mat_congr fun p q _ _ => (if_neg (by omega)).symm
theorem upd_all (n : Nat) (f g : Nat → Nat → Int) : mat n (upd f g n 0) = mat n g := mat_congr fun p q hp _ => if_pos (by omega)
theorem upd_ent {n : Nat} (f g : Nat → Nat → Int) (i j : Nat) {p q : Nat} (hp : p < n) (hq : q < n) : ((mat n (upd f g i j)).getD p []).getD q 0 = upd f g i j p q := ent_mat _ hp hq
section
variable {n : Nat} {M : Int} {A : List (List Int)}
theorem closed_l1 (hn : n ≤ 1000) (hA : IsMat n A) (i : Nat) (hi : i < n) (r : List (List Int))
    (hr : Ev (fun k => lgclosed.l0 k A (mat n (upd onef (fw0 (ent A)) (i + 1) 0)) (n : Int) ((i + 1 : Nat) : Int)) r) : ∀ d j, j + d = n →
    Ev (fun k => lgclosed.l1 k A (mat n (upd onef (fw0 (ent A)) i j)) (i : Int) (n : Int) (i : Int) (n : Int) (j : Int)) r := by
  intro d
  induction d with
  | zero =>
    intro j hj
    obtain rfl : j = n := by omega
    refine Ev.step (fun k => ?_) hr
    simp only [lgclosed.l1]
    rw [if_neg (by omega), wr1 i (by omega), upd_next]
  | succ d ih =>
    intro j hj
    have hj' : j < n := by omega
    refine Ev.step (fun k => ?_) (ih (j + 1) (by omega))
    simp only [lgclosed.l1]
    have e1 : ((mat n (upd onef (fw0 (ent A)) i j)).getD i []).length = n := by rw [mat_get _ hi, vec_length]
    have e2 := hA.2 i hi
    have e3 := hA.1
    rw [if_pos (by omega), if_pos (by omega), if_pos (by rw [mat_length]; omega), if_pos (by omega), rdL, rdL, rdI, rdI, if_pos (by omega), if_pos (by omega), if_pos (by omega), wr1 j (by omega), upd_ent _ _ _ _ hi hj', upd_old, mx_max, toN, toN]
    have e4 : max (onef i j) ((A.getD i []).getD j 0) = fw0 (ent A) i j := rfl
    rw [e4, upd_set _ _ i j hi]
theorem closed_l0 (hn : n ≤ 1000) (hA : IsMat n A) (r : List (List Int)) (hr : Ev (fun k => lgclosed.l2 k A (mat n (fw0 (ent A))) (n : Int) ((0 : Nat) : Int)) r) : ∀ d i, i + d = n →
    Ev (fun k => lgclosed.l0 k A (mat n (upd onef (fw0 (ent A)) i 0)) (n : Int) (i : Int)) r := by
  intro d
  induction d with
  | zero =>
    intro i hi
    obtain rfl : i = n := by omega
    refine Ev.step (fun k => ?_) hr
    simp only [lgclosed.l0]
    rw [if_neg (by omega), upd_all, hA.1]
    rfl
  | succ d ih =>
    intro i hi
    refine Ev.step (fun k => ?_) (closed_l1 hn hA i (by omega) r (ih (i + 1) (by omega)) n 0 (by omega))
    simp only [lgclosed.l0]
    rw [if_pos (by omega), hA.1]
    rfl
theorem pl_zero {x : Int} {M : Int} (hx : Bd M x) (hM : M < 1152921504606846976) : max x (pl x 0) = x := by
  have := hx.ge hM
  unfold pl
  rw [if_neg (by decide : ¬ (0 : Int) = NEV)]
  split <;> omega
theorem zero_pl {x : Int} {M : Int} (hx : Bd M x) (hM : M < 1152921504606846976) : max x (pl 0 x) = x := by
  have := hx.ge hM
  unfold pl
  rw [if_neg (by decide : ¬ (0 : Int) = NEV)]
  split <;> omega
theorem closed_l4 (hn : n ≤ 1000) (ha : BdM n n M (ent A)) (hM : 0 ≤ M) (hs : M * (n : Nat) < 1152921504606846976) (h2 : M * (2 ^ n : Nat) < 100000000000000000) (hp : NoPos n (ent A)) (hl : A.length = n) (k : Nat) (hk : k < n) (i : Nat) (hi : i < n) (r : List (List Int))
    (hr : Ev (fun q => lgclosed.l3 q A (mat n (upd (fwk (ent A) k) (fwk (ent A) (k + 1)) (i + 1) 0)) (k : Int) (n : Int) (k : Int) (n : Int) ((i + 1 : Nat) : Int)) r) : ∀ d j, j + d = n →
    Ev (fun q => lgclosed.l4 q A (mat n (upd (fwk (ent A) k) (fwk (ent A) (k + 1)) i j)) (k : Int) (i : Int) (n : Int) (k : Int) (n : Int) (i : Int) (n : Int) (j : Int)) r := by
  have B : ∀ x y, x < n → y < n → Bd 100000000000000000 (fwk (ent A) k x y) := fun x y hx hy => (fwk_bd ha hM k (by omega) x y hx hy).mono
    (Int.le_of_lt (Int.lt_of_le_of_lt (Int.mul_le_mul_of_nonneg_left (by exact_mod_cast Nat.pow_le_pow_right (by omega) (by omega)) hM) h2))
  have hkk := fwk_diag ha hM hs hp (k := k) (by omega) hk
  have col : ∀ x, x < n → fwk (ent A) (k + 1) x k = fwk (ent A) k x k := fun x hx => by
    simp only [fwk]
    rw [hkk]
    exact pl_zero (B x k hx hk) (by omega)
  have row : ∀ y, y < n → fwk (ent A) (k + 1) k y = fwk (ent A) k k y := fun y hy => by
    simp only [fwk]
    rw [hkk]
    exact zero_pl (B k y hk hy) (by omega)
  intro d
  induction d with
  | zero =>
    intro j hj
    obtain rfl : j = n := by omega
    refine Ev.step (fun q => ?_) hr
    simp only [lgclosed.l4]
    rw [if_neg (by omega), wr1 i (by omega), upd_next]
  | succ d ih =>
    intro j hj
    have hj' : j < n := by omega
    refine Ev.step (fun q => ?_) (ih (j + 1) (by omega))
    simp only [lgclosed.l4]
    have e1 : ((mat n (upd (fwk (ent A) k) (fwk (ent A) (k + 1)) i j)).getD i []).length = n := by rw [mat_get _ hi, vec_length]
    have e2 : ((mat n (upd (fwk (ent A) k) (fwk (ent A) (k + 1)) i j)).getD k []).length = n := by rw [mat_get _ hk, vec_length]
    have e3 : (mat n (upd (fwk (ent A) k) (fwk (ent A) (k + 1)) i j)).length = n := mat_length _ _
    have v1 : upd (fwk (ent A) k) (fwk (ent A) (k + 1)) i j i k = fwk (ent A) k i k := by
      unfold upd; split
      · exact col i hi
      · rfl
    have v2 : upd (fwk (ent A) k) (fwk (ent A) (k + 1)) i j k j = fwk (ent A) k k j := by
      unfold upd; split
      · exact row j hj'
      · rfl
    rw [if_pos (by omega), if_pos (by omega), if_pos (by omega), if_pos (by omega), rdL, rdL, rdI, rdI, rdI, if_pos (by omega), if_pos (by omega), if_pos (by omega), if_pos (by omega), if_pos (by omega),
      upd_ent _ _ _ _ hi hk, upd_ent _ _ _ _ hk hj', upd_ent _ _ _ _ hi hj', v1, v2, upd_old, both_f (B i k hi hk) (B k j hk hj') (by omega) (by omega) (by omega)]
    simp only [Option.bind_some]
    rw [wr1 j (by omega), mx_max, toN, toN]
    have e4 : max (fwk (ent A) k i j) (pl (fwk (ent A) k i k) (fwk (ent A) k k j)) = fwk (ent A) (k + 1) i j := rfl
    rw [e4, upd_set _ _ i j hi]
theorem closed_l3 (hn : n ≤ 1000) (ha : BdM n n M (ent A)) (hM : 0 ≤ M) (hs : M * (n : Nat) < 1152921504606846976) (h2 : M * (2 ^ n : Nat) < 100000000000000000) (hp : NoPos n (ent A)) (hl : A.length = n) (k : Nat) (hk : k < n) (r : List (List Int))
    (hr : Ev (fun q => lgclosed.l2 q A (mat n (fwk (ent A) (k + 1))) (n : Int) ((k + 1 : Nat) : Int)) r) : ∀ d i, i + d = n →
    Ev (fun q => lgclosed.l3 q A (mat n (upd (fwk (ent A) k) (fwk (ent A) (k + 1)) i 0)) (k : Int) (n : Int) (k : Int) (n : Int) (i : Int)) r := by
  intro d
  induction d with
  | zero =>
    intro i hi
    obtain rfl : i = n := by omega
    refine Ev.step (fun q => ?_) hr
    simp only [lgclosed.l3]
    rw [if_neg (by omega), wr1 k (by omega), upd_all]
  | succ d ih =>
    intro i hi
    refine Ev.step (fun q => ?_) (closed_l4 hn ha hM hs h2 hp hl k hk i (by omega) r (ih (i + 1) (by omega)) n 0 (by omega))
    simp only [lgclosed.l3]
    rw [if_pos (by omega), hl]
    rfl
theorem closed_l2 (hn : n ≤ 1000) (ha : BdM n n M (ent A)) (hM : 0 ≤ M) (hs : M * (n : Nat) < 1152921504606846976) (h2 : M * (2 ^ n : Nat) < 100000000000000000) (hp : NoPos n (ent A)) (hl : A.length = n) : ∀ d k, k + d = n →
    Ev (fun q => lgclosed.l2 q A (mat n (fwk (ent A) k)) (n : Int) (k : Int)) (mat n (fwk (ent A) n)) := by
  intro d
  induction d with
  | zero =>
    intro k hk
    obtain rfl : k = n := by omega
    refine ev_now fun q => ?_
    simp only [lgclosed.l2]
    rw [if_neg (by omega)]
  | succ d ih =>
    intro k hk
    refine Ev.step (fun q => ?_) (closed_l3 hn ha hM hs h2 hp hl k (by omega) _ (ih (k + 1) (by omega)) n 0 (by omega))
    simp only [lgclosed.l2]
    rw [if_pos (by omega), hl, upd_zero n (fwk (ent A) k) (fwk (ent A) (k + 1))]
    rfl
theorem closed_f (hn : n ≤ 1000) (hA : IsMat n A) (ha : BdM n n M (ent A)) (hM : 0 ≤ M) (hs : M * (n : Nat) < 1152921504606846976) (h2 : M * (2 ^ n : Nat) < 100000000000000000) (hp : NoPos n (ent A)) :
    Ev (fun q => lgclosed.f q A) (mat n (fwk (ent A) n)) := by
  have e := closed_l0 hn hA _ (closed_l2 hn ha hM hs h2 hp hA.1 n 0 (by omega)) n 0 (by omega)
  rw [← upd_zero] at e
  unfold lgclosed.f
  rw [hA.1]
  exact Ev.bind (one_f n hn) e
end
end Go.Proofs.Ythjmfbmffchicaa.Pure
