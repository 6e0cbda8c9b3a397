/- What the line's printed functions compute, in the words of the plain algebra (YthjmfbmffchicaaMat): products, powers, the check of a matrix, the looks that compare. Each lemma's bounds stand in it. -/
import Derived.Test.YthjmfbmffchicaaKRMat
import Derived.Test.YthjmfbmffchicaaKRf7
import Derived.Test.YthjmfbmffchicaaKRf5
import Derived.Test.YthjmfbmffchicaaKRf0
namespace Go.Proofs.Ythjmfbmffchicaa.Pure
open Go.RowKit Go.Proofs.Ythjmfbmffchicaa.V Go.Proofs.YthjmfbmffchicaaW.PrintWords Go.Proofs.YthjmfbmffchicaaW.PrintLast Go.Proofs.YthjmfbmffchicaaW.PrintMore
open Go.Proofs.Ythjmfbmffchicaa.Mp
theorem wr {x : Int} (h : -9223372036854775808 ≤ x) (h' : x ≤ 9223372036854775807) : wrap64 x = x := by unfold wrap64; omega
theorem wr1 (i : Nat) (h : i < 9223372036854775807) : wrap64 ((i : Int) + 1) = ((i + 1 : Nat) : Int) := by unfold wrap64; omega
theorem rdL (xs : List (List Int)) (i : Nat) : rd_L1 xs (i : Int) = xs.getD i [] := rfl
theorem rdI (xs : List Int) (i : Nat) : rd xs (i : Int) = xs.getD i 0 := rfl
theorem toN (i : Nat) : ((i : Int)).toNat = i := rfl
theorem mx_max (a b : Int) : mx a b = max a b := by unfold mx; split <;> omega
theorem ev_now {α : Type} {g : Nat → Option α} {r : α} (h : ∀ k, g (k + 1) = some r) : Ev g r := Ev.step (f := fun _ => some r) h (Ev.now r)
theorem ev_some {α : Type} {g : Nat → Option α} {r : α} (h : ∀ k, g k = some r) : Ev g r := Ev.congr h (Ev.now r)
theorem both_f {M N a b : Int} (ha : Bd M a) (hb : Bd N b) (h : M + N < 1152921504606846976) (hM : 0 ≤ M) (hN : 0 ≤ N) : line_both_int.f a b = some (pl a b) := by
  unfold line_both_int.f line_never_int.f pl NEV
  simp only [Option.bind_some]
  split
  · rfl
  · split
    · rfl
    · unfold Bd NEV at ha hb
      rw [wr (by omega) (by omega)]
def part (n : Nat) (f : Nat → Nat → Int) (i : Nat) : List (List Int) := (List.range n).map fun a => if a < i then vec n (f a) else []
def part2 (n : Nat) (f : Nat → Nat → Int) (i j : Nat) : List (List Int) := (List.range n).map fun a => if a < i then vec n (f a) else if a = i then vec n (fun b => if b < j then f i b else 0) else []
theorem range_map_set {α : Type} (n : Nat) (g g' : Nat → α) (i : Nat) (v : α) (hv : i < n → g' i = v) (hg : ∀ a, a < n → a ≠ i → g' a = g a) : ((List.range n).map g).set i v = (List.range n).map g' := by
  apply List.ext_getElem
  · simp
  · intro a h1 h2
    have ha : a < n := by simpa using h2
    by_cases e : a = i
    · subst e; simp [hv ha]
    · rw [List.getElem_set_ne (by omega)]; simp [hg a ha e]
theorem part_length (n : Nat) (f : Nat → Nat → Int) (i : Nat) : (part n f i).length = n := by simp [part]
theorem part2_length (n : Nat) (f : Nat → Nat → Int) (i j : Nat) : (part2 n f i j).length = n := by simp [part2]
theorem part_zero (n : Nat) (f : Nat → Nat → Int) : List.replicate n [] = part n f 0 := by
  unfold part
  apply List.ext_getElem <;> simp
theorem part_all (n : Nat) (f : Nat → Nat → Int) : part n f n = mat n f := by
  unfold part mat vec
  exact List.map_congr_left fun a ha => by rw [if_pos (by simpa using ha)]
theorem part_open (n : Nat) (f : Nat → Nat → Int) (i : Nat) (_hi : i < n) : (part n f i).set i (List.replicate n 0) = part2 n f i 0 := by
  refine range_map_set n _ _ i _ (fun _ => ?_) (fun a _ ha => ?_)
  · rw [if_neg (by omega), if_pos rfl]
    unfold vec
    apply List.ext_getElem <;> simp
  · by_cases h : a < i
    · rw [if_pos h, if_pos h]
    · rw [if_neg h, if_neg h, if_neg ha]
theorem part2_get (n : Nat) (f : Nat → Nat → Int) (i j : Nat) (hi : i < n) : (part2 n f i j).getD i [] = vec n (fun b => if b < j then f i b else 0) := by
  simp [part2, List.getD_eq_getElem?_getD, List.getElem?_range hi]
theorem part2_set (n : Nat) (f : Nat → Nat → Int) (i j : Nat) (hi : i < n) (_hj : j < n) : (part2 n f i j).set i (((part2 n f i j).getD i []).set j (f i j)) = part2 n f i (j + 1) := by
  rw [part2_get n f i j hi]
  refine range_map_set n _ _ i _ (fun _ => ?_) (fun a _ ha => ?_)
  · rw [if_neg (by omega), if_pos rfl]
    refine (range_map_set n _ _ j _ (fun _ => ?_) (fun b _ hb => ?_)).symm
    · rw [if_pos (by omega)]
    · by_cases h : b < j
      · rw [if_pos h, if_pos (by omega)]
      · rw [if_neg h, if_neg (by omega)]
  · by_cases h : a < i
    · rw [if_pos h, if_pos h]
    · rw [if_neg h, if_neg h, if_neg ha, if_neg ha]
theorem part2_skip (n : Nat) (f : Nat → Nat → Int) (i j : Nat) (h0 : f i j = 0) : part2 n f i j = part2 n f i (j + 1) := by
  unfold part2
  refine List.map_congr_left fun a _ => ?_
  by_cases h : a < i
  · rw [if_pos h, if_pos h]
  · rw [if_neg h, if_neg h]
    by_cases e : a = i
    · rw [if_pos e, if_pos e]
      refine vec_congr fun b _ => ?_
      by_cases h : b < j
      · rw [if_pos h, if_pos (by omega)]
      · by_cases e2 : b = j
        · subst e2; rw [if_neg h, if_pos (by omega), h0]
        · rw [if_neg h, if_neg (by omega)]
    · rw [if_neg e, if_neg e]
theorem part2_all (n : Nat) (f : Nat → Nat → Int) (i : Nat) : part2 n f i n = part n f (i + 1) := by
  unfold part2 part
  refine List.map_congr_left fun a ha => ?_
  have ha' : a < n := by simpa using ha
  by_cases h : a < i
  · rw [if_pos h, if_pos (by omega)]
  · by_cases e : a = i
    · subst e
      rw [if_neg h, if_pos rfl, if_pos (by omega)]
      exact vec_congr fun b hb => by rw [if_pos hb]
    · rw [if_neg h, if_neg e, if_neg (by omega)]
theorem one_l1 (n : Nat) (hn : n ≤ 1000) (i : Nat) (hi : i < n) (r : List (List Int))
    (hr : Ev (fun k => line_one_int.l0 k (n : Int) (part n onef (i + 1)) (n : Int) ((i + 1 : Nat) : Int)) r) :
    ∀ d j, j + d = n → Ev (fun k => line_one_int.l1 k (n : Int) (part2 n onef i j) (i : Int) (n : Int) (i : Int) (n : Int) (j : Int)) r := by
  intro d
  induction d with
  | zero =>
    intro j hj
    refine Ev.step (f := fun k => line_one_int.l0 k (n : Int) (part n onef (i + 1)) (n : Int) ((i + 1 : Nat) : Int)) (fun k => ?_) hr
    simp only [line_one_int.l1]
    rw [if_neg (by omega), wr1 i (by omega), show j = n by omega, part2_all]
  | succ d ih =>
    intro j hj
    refine Ev.step (f := fun k => line_one_int.l1 k (n : Int) (part2 n onef i (j + 1)) (i : Int) (n : Int) (i : Int) (n : Int) ((j + 1 : Nat) : Int)) (fun k => ?_) (ih (j + 1) (by omega))
    simp only [line_one_int.l1]
    rw [if_pos (by omega), wr1 j (by omega)]
    by_cases e : i = j
    · subst e
      rw [if_pos rfl, part2_skip n onef i i (by unfold onef; rw [if_pos rfl])]
    · rw [if_neg (by omega), if_pos (by omega), part2_length, if_pos (by omega)]
      unfold line_never_int.f
      simp only [Option.bind_some]
      rw [if_pos (by omega), rdL, part2_get n onef i j hi, vec_length, if_pos (by omega), toN, toN]
      have h := part2_set n onef i j hi (by omega)
      rw [part2_get n onef i j hi, show onef i j = -1152921504606846976 by unfold onef; rw [if_neg e]; rfl] at h
      rw [h]
theorem one_l0 (n : Nat) (hn : n ≤ 1000) : ∀ d i, i + d = n → Ev (fun k => line_one_int.l0 k (n : Int) (part n onef i) (n : Int) (i : Int)) (mat n onef) := by
  intro d
  induction d with
  | zero =>
    intro i hi
    refine ev_now (fun k => ?_)
    simp only [line_one_int.l0]
    rw [if_neg (by omega), show i = n by omega, part_all]
  | succ d ih =>
    intro i hi
    refine Ev.step (f := fun k => line_one_int.l1 k (n : Int) (part2 n onef i 0) (i : Int) (n : Int) (i : Int) (n : Int) ((0 : Nat) : Int)) (fun k => ?_) (one_l1 n hn i (by omega) _ (ih (i + 1) (by omega)) n 0 (by omega))
    simp only [line_one_int.l0]
    rw [if_pos (by omega), if_pos (by omega), toN, if_pos (by omega), if_pos (by omega), part_length, if_pos (by omega), toN, part_open n onef i (by omega)]
    rfl
theorem one_f (n : Nat) (hn : n ≤ 1000) : Ev (fun k => line_one_int.f k (n : Int)) (mat n onef) := by
  refine Ev.congr (fun k => ?_) (one_l0 n hn n 0 (by omega))
  unfold line_one_int.f
  rw [if_pos (by omega), toN, if_pos (by omega), part_zero n onef]
  rfl
section
variable {n : Nat} {M N : Int} {A B : List (List Int)}
theorem times_l2 (hn : n ≤ 1000) (hA : IsMat n A) (hB : IsMat n B) (ha : BdM n n M (ent A)) (hb : BdM n n N (ent B)) (hMN : M + N < 1152921504606846976) (hM : 0 ≤ M) (hN : 0 ≤ N) (i j : Nat) (hi : i < n) (hj : j < n) (r : List (List Int))
    (hr : Ev (fun k => lgtimes.l1 k A B (part2 n (mulf n (ent A) (ent B)) i (j + 1)) (i : Int) (n : Int) (i : Int) (n : Int) ((j + 1 : Nat) : Int)) r) :
    ∀ d q, q + d = n → Ev (fun k => lgtimes.l2 k A B (part2 n (mulf n (ent A) (ent B)) i j) (i : Int) (j : Int) (sup (fun k => pl (ent A i k) (ent B k j)) q) (n : Int) (i : Int) (n : Int) (j : Int) (n : Int) (q : Int)) r := by
  intro d
  induction d with
  | zero =>
    intro q hq
    obtain rfl : q = n := by omega
    refine Ev.step (f := fun k => lgtimes.l1 k A B (part2 q (mulf q (ent A) (ent B)) i (j + 1)) (i : Int) (q : Int) (i : Int) (q : Int) ((j + 1 : Nat) : Int)) (fun k => ?_) hr
    simp only [lgtimes.l2]
    rw [if_neg (by omega), if_pos (by omega), part2_length, if_pos (by omega), if_pos (by omega), rdL, part2_get q _ i j hi, vec_length, if_pos (by omega), wr1 j (by omega), toN, toN]
    have h := part2_set q (mulf q (ent A) (ent B)) i j hi hj
    rw [part2_get q _ i j hi] at h
    rw [← h]
    rfl
  | succ d ih =>
    intro q hq
    refine Ev.step (f := fun k => lgtimes.l2 k A B (part2 n (mulf n (ent A) (ent B)) i j) (i : Int) (j : Int) (sup (fun k => pl (ent A i k) (ent B k j)) (q + 1)) (n : Int) (i : Int) (n : Int) (j : Int) (n : Int) ((q + 1 : Nat) : Int)) (fun k => ?_) (ih (q + 1) (by omega))
    simp only [lgtimes.l2]
    rw [if_pos (by omega), if_pos (by omega), hA.1, if_pos (by omega), if_pos (by omega), rdL, hA.2 i hi, if_pos (by omega), hB.1, if_pos (by omega), if_pos (by omega), rdL, hB.2 q (by omega), if_pos (by omega), rdI, rdI]
    have h := both_f (ha i q hi (by omega)) (hb q j (by omega) hj) hMN hM hN
    unfold ent at h
    rw [h]
    simp only [Option.bind_some]
    rw [wr1 q (by omega), mx_max]
    rfl
theorem times_l1 (hn : n ≤ 1000) (hA : IsMat n A) (hB : IsMat n B) (ha : BdM n n M (ent A)) (hb : BdM n n N (ent B)) (hMN : M + N < 1152921504606846976) (hM : 0 ≤ M) (hN : 0 ≤ N) (i : Nat) (hi : i < n) (r : List (List Int))
    (hr : Ev (fun k => lgtimes.l0 k A B (part n (mulf n (ent A) (ent B)) (i + 1)) (n : Int) ((i + 1 : Nat) : Int)) r) :
    ∀ d j, j + d = n → Ev (fun k => lgtimes.l1 k A B (part2 n (mulf n (ent A) (ent B)) i j) (i : Int) (n : Int) (i : Int) (n : Int) (j : Int)) r := by
  intro d
  induction d with
  | zero =>
    intro j hj
    refine Ev.step (f := fun k => lgtimes.l0 k A B (part n (mulf n (ent A) (ent B)) (i + 1)) (n : Int) ((i + 1 : Nat) : Int)) (fun k => ?_) hr
    simp only [lgtimes.l1]
    rw [if_neg (by omega), wr1 i (by omega), show j = n by omega, part2_all]
  | succ d ih =>
    intro j hj
    refine Ev.step (f := fun k => lgtimes.l2 k A B (part2 n (mulf n (ent A) (ent B)) i j) (i : Int) (j : Int) (sup (fun k => pl (ent A i k) (ent B k j)) 0) (n : Int) (i : Int) (n : Int) (j : Int) (n : Int) ((0 : Nat) : Int)) (fun k => ?_) (times_l2 hn hA hB ha hb hMN hM hN i j hi (by omega) r (ih (j + 1) (by omega)) n 0 (by omega))
    simp only [lgtimes.l1]
    rw [if_pos (by omega)]
    unfold line_never_int.f
    simp only [Option.bind_some]
    rw [hA.1]
    rfl
theorem times_l0 (hn : n ≤ 1000) (hA : IsMat n A) (hB : IsMat n B) (ha : BdM n n M (ent A)) (hb : BdM n n N (ent B)) (hMN : M + N < 1152921504606846976) (hM : 0 ≤ M) (hN : 0 ≤ N) :
    ∀ d i, i + d = n → Ev (fun k => lgtimes.l0 k A B (part n (mulf n (ent A) (ent B)) i) (n : Int) (i : Int)) (mat n (mulf n (ent A) (ent B))) := by
  intro d
  induction d with
  | zero =>
    intro i hi
    refine ev_now (fun k => ?_)
    simp only [lgtimes.l0]
    rw [if_neg (by omega), show i = n by omega, part_all]
  | succ d ih =>
    intro i hi
    refine Ev.step (f := fun k => lgtimes.l1 k A B (part2 n (mulf n (ent A) (ent B)) i 0) (i : Int) (n : Int) (i : Int) (n : Int) ((0 : Nat) : Int)) (fun k => ?_) (times_l1 hn hA hB ha hb hMN hM hN i (by omega) _ (ih (i + 1) (by omega)) n 0 (by omega))
    simp only [lgtimes.l0]
    rw [if_pos (by omega), hA.1, if_pos (by omega), toN, if_pos (by omega), if_pos (by omega), part_length, if_pos (by omega), toN, part_open n _ i (by omega)]
    rfl
theorem times_f (hn : n ≤ 1000) (hA : IsMat n A) (hB : IsMat n B) (ha : BdM n n M (ent A)) (hb : BdM n n N (ent B)) (hMN : M + N < 1152921504606846976) (hM : 0 ≤ M) (hN : 0 ≤ N) :
    Ev (fun k => lgtimes.f k A B) (mat n (mulf n (ent A) (ent B))) := by
  refine Ev.congr (fun k => ?_) (times_l0 hn hA hB ha hb hMN hM hN n 0 (by omega))
  unfold lgtimes.f
  rw [hA.1, if_pos (by omega), toN, if_pos (by omega), part_zero n (mulf n (ent A) (ent B))]
  rfl
end
theorem times_mat {n : Nat} (hn : n ≤ 1000) {M N : Int} {a b : Nat → Nat → Int} (ha : BdM n n M a) (hb : BdM n n N b) (hMN : M + N < 1152921504606846976) (hM : 0 ≤ M) (hN : 0 ≤ N) :
    Ev (fun k => lgtimes.f k (mat n a) (mat n b)) (mat n (mulf n a b)) := by
  have e : mat n (mulf n (ent (mat n a)) (ent (mat n b))) = mat n (mulf n a b) :=
    mat_congr fun i j hi hj => mul_congr (fun k hk => ent_mat a hi hk) (fun k hk => ent_mat b hk hj)
  rw [← e]
  exact times_f hn (isMat_mat n a) (isMat_mat n b) (fun i j hi hj => by rw [ent_mat a hi hj]; exact ha i j hi hj) (fun i j hi hj => by rw [ent_mat b hi hj]; exact hb i j hi hj) hMN hM hN
end Go.Proofs.Ythjmfbmffchicaa.Pure
