/- The plain law of the search: with a bound or without it comes to the best leaf. -/
import Derived.Test.YtipkhaicjjeieaaKSShX
namespace Go.Proofs.Ytipkhaicjjeieaa.V
set_option linter.unusedSimpArgs false
set_option linter.unusedVariables false
open Go.RowKit Go.Proofs.YtipkhaicjjeieaaW.PrintWords Go.Proofs.YtipkhaicjjeieaaW.PrintLast Go.Proofs.YtipkhaicjjeieaaW.PrintMore
structure Nd where
  nx : Nat → Nat
  je : Nat → Int
  fre : Nat → Int
  st : Nat → Int
  en : Int
def upd {α : Type} (f : Nat → α) (i : Nat) (x : α) : Nat → α := fun k => if k = i then x else f k
theorem upd_same {α : Type} (f : Nat → α) (i : Nat) (x : α) : upd f i x i = x := by simp [upd]
theorem upd_ne {α : Type} (f : Nat → α) {i k : Nat} (x : α) (h : k ≠ i) : upd f i x k = f k := by simp [upd, h]
def durN (J : List (List S40)) (j k : Nat) : Int := ((J.getD j []).getD k z40).f1
def macN (J : List (List S40)) (j k : Nat) : Nat := ((J.getD j []).getD k z40).f0.toNat
def baseN (J : List (List S40)) (j : Nat) : Nat := (tasksN J j).length
def lenN (J : List (List S40)) (j : Nat) : Nat := (J.getD j []).length
def atN (J : List (List S40)) (N : Nd) (j : Nat) : Int := mx (N.je j) (N.fre (macN J j (N.nx j)))
def putD (J : List (List S40)) (N : Nd) (j : Nat) : Nd :=
  ⟨upd N.nx j (N.nx j + 1), upd N.je j (atN J N j + durN J j (N.nx j)), upd N.fre (macN J j (N.nx j)) (atN J N j + durN J j (N.nx j)), upd N.st (baseN J j + N.nx j) (atN J N j), mx N.en (atN J N j + durN J j (N.nx j))⟩
def lvJ (J : List (List S40)) (V : Nd → List Nd) (N : Nd) : Nat → List Nd
  | 0 => []
  | j + 1 => lvJ J V N j ++ (if N.nx j = lenN J j then [] else V (putD J N j))
def lv (J : List (List S40)) : Nat → Nd → List Nd
  | 0, N => [N]
  | f + 1, N => lvJ J (lv J f) N J.length
def lfN (J : List (List S40)) (nx : Nat → Nat) : Nat → Nat
  | 0 => 0
  | i + 1 => lfN J nx i + (lenN J i - nx i)
def sumD : List S40 → Int
  | [] => 0
  | x :: l => x.f1 + sumD l
def remN (J : List (List S40)) (N : Nd) (j : Nat) : Int := sumD ((J.getD j []).drop (N.nx j))
structure OkN (J : List (List S40)) (f : Nat) (N : Nd) : Prop where
  nl : ∀ j, j < J.length → N.nx j ≤ lenN J j
  lf : lfN J N.nx J.length = f
  f10 : f ≤ 10
  je : ∀ j, j < J.length → 0 ≤ N.je j ∧ N.je j ≤ 50 * (10 - (f : Int)) ∧ N.je j ≤ N.en
  fre : ∀ m, m < 4 → 0 ≤ N.fre m ∧ N.fre m ≤ 50 * (10 - (f : Int))
  en : 0 ≤ N.en ∧ N.en ≤ 50 * (10 - (f : Int))
theorem lf_upd (J : List (List S40)) (nx : Nat → Nat) (j : Nat) (hj : nx j < lenN J j) : ∀ i, lfN J (upd nx j (nx j + 1)) i + (if j < i then 1 else 0) = lfN J nx i
  | 0 => by simp [lfN]
  | i + 1 => by
    have ih := lf_upd J nx j hj i
    simp only [lfN]
    by_cases h : i = j
    · subst h
      rw [upd_same, if_pos (by omega)]
      rw [if_neg (by omega)] at ih
      omega
    · rw [upd_ne _ _ h]
      by_cases h2 : j < i
      · rw [if_pos h2] at ih
        rw [if_pos (by omega)]
        omega
      · rw [if_neg h2] at ih
        rw [if_neg (by omega)]
        omega
theorem lf_zero (J : List (List S40)) (nx : Nat → Nat) : ∀ i, lfN J nx i = 0 → ∀ j, j < i → lenN J j ≤ nx j
  | 0, _, j, h => by omega
  | i + 1, h, j, hj => by
    simp only [lfN] at h
    by_cases e : j = i
    · subst e
      omega
    · exact lf_zero J nx i (by omega) j (by omega)
theorem lf_pos (J : List (List S40)) (nx : Nat → Nat) : ∀ i, 0 < lfN J nx i → ∃ j, j < i ∧ nx j < lenN J j
  | 0, h => by simp [lfN] at h
  | i + 1, h => by
    simp only [lfN] at h
    by_cases e : nx i < lenN J i
    · exact ⟨i, by omega, e⟩
    · obtain ⟨j, h1, h2⟩ := lf_pos J nx i (by omega)
      exact ⟨j, by omega, h2⟩
theorem durN_ok {J : List (List S40)} (hf : Fit J) {j k : Nat} (hj : j < J.length) (hk : k < lenN J j) : 1 ≤ durN J j k ∧ durN J j k ≤ 50 ∧ macN J j k < 4 ∧ ((J.getD j []).getD k z40).f0 = (macN J j k : Int) := by
  obtain ⟨h1, h2⟩ := tasksN_get J J.length j k hj hk
  have h3 := hf.tk _ h1
  rw [h2] at h3
  unfold S89.bad badT at h3
  simp only [Bool.or_eq_false_iff, decide_eq_false_iff_not] at h3
  unfold durN macN
  omega
theorem put_ok {J : List (List S40)} (hf : Fit J) {f : Nat} {N : Nd} (h : OkN J (f + 1) N) {j : Nat} (hj : j < J.length) (hn : N.nx j ≠ lenN J j) : OkN J f (putD J N j) := by
  have hlt : N.nx j < lenN J j := by have := h.nl j hj; omega
  obtain ⟨d1, d2, d3, _⟩ := durN_ok hf hj hlt
  have hje := h.je j hj
  have hfr := h.fre _ d3
  have hen := h.en
  have h10 := h.f10
  have ha : 0 ≤ atN J N j ∧ atN J N j ≤ 50 * (10 - ((f + 1 : Nat) : Int)) := by
    unfold atN mx
    split <;> omega
  refine ⟨fun i hi => ?_, ?_, by omega, fun i hi => ?_, fun m hm => ?_, ?_⟩
  · show upd N.nx j (N.nx j + 1) i ≤ _
    by_cases e : i = j
    · subst e
      rw [upd_same]
      omega
    · rw [upd_ne _ _ e]
      exact h.nl i hi
  · have := lf_upd J N.nx j hlt J.length
    rw [if_pos hj, h.lf] at this
    show lfN J (upd N.nx j (N.nx j + 1)) J.length = f
    omega
  · show 0 ≤ upd N.je j (atN J N j + durN J j (N.nx j)) i ∧ upd N.je j (atN J N j + durN J j (N.nx j)) i ≤ 50 * (10 - (f : Int)) ∧ upd N.je j (atN J N j + durN J j (N.nx j)) i ≤ mx N.en (atN J N j + durN J j (N.nx j))
    have hi2 := h.je i hi
    by_cases e : i = j
    · subst e
      rw [upd_same]
      unfold mx
      split <;> omega
    · rw [upd_ne _ _ e]
      unfold mx
      split <;> omega
  · show 0 ≤ upd N.fre (macN J j (N.nx j)) (atN J N j + durN J j (N.nx j)) m ∧ upd N.fre (macN J j (N.nx j)) (atN J N j + durN J j (N.nx j)) m ≤ _
    have hm2 := h.fre m hm
    by_cases e : m = macN J j (N.nx j)
    · subst e
      rw [upd_same]
      omega
    · rw [upd_ne _ _ e]
      omega
  · show 0 ≤ mx N.en (atN J N j + durN J j (N.nx j)) ∧ mx N.en (atN J N j + durN J j (N.nx j)) ≤ _
    unfold mx
    split <;> omega
theorem rem_put_same {J : List (List S40)} {N : Nd} {j : Nat} (hlt : N.nx j < lenN J j) : remN J N j = durN J j (N.nx j) + remN J (putD J N j) j := by
  unfold remN
  show _ = _ + sumD ((J.getD j []).drop (upd N.nx j (N.nx j + 1) j))
  rw [upd_same, List.drop_eq_getElem_cons hlt, sumD]
  unfold durN
  rw [List.getD_eq_getElem?_getD (l := J.getD j []), List.getElem?_eq_getElem hlt, Option.getD_some]
theorem rem_put_ne {J : List (List S40)} {N : Nd} {i j : Nat} (h : i ≠ j) : remN J (putD J N j) i = remN J N i := by
  unfold remN
  show sumD ((J.getD i []).drop (upd N.nx j (N.nx j + 1) i)) = _
  rw [upd_ne _ _ h]
theorem mem_lvJ {J : List (List S40)} {V : Nd → List Nd} {N x : Nd} : ∀ i, x ∈ lvJ J V N i ↔ ∃ j, j < i ∧ N.nx j ≠ lenN J j ∧ x ∈ V (putD J N j)
  | 0 => by simp [lvJ]
  | i + 1 => by
    rw [lvJ, List.mem_append, mem_lvJ i]
    constructor
    · rintro (⟨j, h1, h2, h3⟩ | h)
      · exact ⟨j, by omega, h2, h3⟩
      · split at h
        · simp at h
        · exact ⟨i, by omega, by assumption, h⟩
    · rintro ⟨j, h1, h2, h3⟩
      by_cases e : j = i
      · subst e
        right
        rw [if_neg h2]
        exact h3
      · left
        exact ⟨j, by omega, h2, h3⟩
theorem mx_l (a b : Int) : a ≤ mx a b := by unfold mx; split <;> omega
theorem leaf_ge {J : List (List S40)} (hf : Fit J) : ∀ (f : Nat) (N : Nd), OkN J f N → ∀ x ∈ lv J f N, N.en ≤ x.en ∧ ∀ j, j < J.length → N.je j + remN J N j ≤ x.en
  | 0, N, h, x, hx => by
    obtain rfl : x = N := by simpa [lv] using hx
    refine ⟨by omega, fun j hj => ?_⟩
    have h1 := lf_zero J x.nx J.length h.lf j hj
    unfold remN
    rw [List.drop_eq_nil_of_le h1, sumD]
    have := h.je j hj
    omega
  | f + 1, N, h, x, hx => by
    obtain ⟨i, hi, hn, hx⟩ := (mem_lvJ _).1 hx
    have hp := put_ok hf h hi hn
    obtain ⟨h1, h2⟩ := leaf_ge hf f _ hp x hx
    refine ⟨Int.le_trans (mx_l _ _) h1, fun j hj => ?_⟩
    have h3 := h2 j hj
    by_cases e : j = i
    · subst e
      have hlt : N.nx j < lenN J j := by have := h.nl j hj; omega
      rw [rem_put_same hlt]
      have : N.je j ≤ atN J N j := mx_l _ _
      have e2 : (putD J N j).je j = atN J N j + durN J j (N.nx j) := upd_same _ _ _
      rw [e2] at h3
      omega
    · rw [rem_put_ne e] at h3
      have e2 : (putD J N i).je j = N.je j := upd_ne _ _ e
      rw [e2] at h3
      exact h3
def stL (n : Nat) (N : Nd) : List Int := (List.range n).map N.st
def upB (n : Nat) (b : Option (List Int) × Int) (N : Nd) : Option (List Int) × Int :=
  match b.1 with
  | none => (some (stL n N), N.en)
  | some l => if N.en < b.2 ∨ (N.en = b.2 ∧ cmpI (stL n N) l < 0) then (some (stL n N), N.en) else b
theorem fold_late (n : Nat) (l : List Int) (m : Int) : ∀ L : List Nd, (∀ x ∈ L, m < x.en) → L.foldl (upB n) (some l, m) = (some l, m)
  | [], _ => rfl
  | x :: L, h => by
    have hx := h x (by simp)
    rw [List.foldl_cons]
    have : upB n (some l, m) x = (some l, m) := by
      unfold upB
      simp only
      rw [if_neg (by omega)]
    rw [this]
    exact fold_late n l m L (fun y hy => h y (by simp [hy]))
theorem base_lt (J : List (List S40)) {j j' : Nat} (h : j < j') : baseN J j + lenN J j ≤ baseN J j' := by
  induction j' with
  | zero => omega
  | succ k ih =>
    have e : baseN J (k + 1) = baseN J k + lenN J k := by
      unfold baseN lenN
      rw [tasksN, List.length_append, jobT_len]
    by_cases h2 : j = k
    · subst h2
      omega
    · have := ih (by omega)
      omega
theorem base_inj {J : List (List S40)} {j j' k k' : Nat} (hk : k < lenN J j) (hk' : k' < lenN J j') (h : baseN J j + k = baseN J j' + k') : j = j' ∧ k = k' := by
  by_cases e : j = j'
  · subst e
    omega
  · by_cases h2 : j < j'
    · have := base_lt J h2
      omega
    · have := base_lt J (show j' < j by omega)
      omega
theorem base_surj (J : List (List S40)) : ∀ m i, i < baseN J m → ∃ j k, j < m ∧ k < lenN J j ∧ i = baseN J j + k
  | 0, i, h => by simp [baseN, tasksN] at h
  | m + 1, i, h => by
    have e : baseN J (m + 1) = baseN J m + lenN J m := by
      unfold baseN lenN
      rw [tasksN, List.length_append, jobT_len]
    by_cases h2 : i < baseN J m
    · obtain ⟨j, k, h3, h4, h5⟩ := base_surj J m i h2
      exact ⟨j, k, by omega, h4, h5⟩
    · exact ⟨m, i - baseN J m, by omega, by omega, by omega⟩
structure RelS (J : List (List S40)) (S : Sst) (N : Nd) : Prop where
  nx : ∀ j, j < J.length → S.nx.getD j 0 = (N.nx j : Int)
  je : ∀ j, j < J.length → S.je.getD j 0 = N.je j
  fre : ∀ m, m < 4 → S.fre.getD m 0 = N.fre m
  st : ∀ j k, j < J.length → k < N.nx j → S.st.getD (baseN J j + k) 0 = N.st (baseN J j + k)
  lens : S.nx.length = J.length ∧ S.je.length = J.length ∧ S.fre.length = 4 ∧ S.st.length = baseN J J.length
theorem leaf_st {J : List (List S40)} {S : Sst} {N : Nd} (h : OkN J 0 N) (hr : RelS J S N) : S.st = stL (baseN J J.length) N := by
  unfold stL
  refine List.ext_getElem (by simpa using hr.lens.2.2.2) (fun i h1 h2 => ?_)
  have hi : i < baseN J J.length := by simpa using h2
  obtain ⟨j, k, h3, h4, h5⟩ := base_surj J J.length i hi
  have h6 := lf_zero J N.nx J.length h.lf j h3
  have h7 := hr.st j k h3 (by omega)
  rw [← h5] at h7
  rw [List.getD_eq_getElem?_getD, List.getElem?_eq_getElem h1, Option.getD_some] at h7
  rw [h7]
  simp
theorem leaf_fold {J : List (List S40)} {S : Sst} {N : Nd} (h : OkN J 0 N) (hr : RelS J S N) : ((leafF N.en S).best, (leafF N.en S).least) = upB (baseN J J.length) (S.best, S.least) N := by
  have e := leaf_st h hr
  unfold leafF upB
  rw [← e]
  cases hb : S.best with
  | none => rfl
  | some b =>
    simp only
    split
    · rfl
    · rw [hb]
theorem sumD_app (a b : List S40) : sumD (a ++ b) = sumD a + sumD b := by
  induction a with
  | nil => simp [sumD]
  | cons x a ih => simp [sumD, ih]; omega
theorem rest_sum (l : List S40) (a : Int) (hb : ∀ k, k < l.length → 0 ≤ (l.getD k z40).f1 ∧ (l.getD k z40).f1 ≤ 50) (hl : l.length ≤ 4) (ha : 0 ≤ a ∧ a ≤ 500) : ∀ k, k ≤ l.length → restF l a k = a + sumD (l.take k) ∧ 0 ≤ sumD (l.take k) ∧ sumD (l.take k) ≤ 50 * (k : Int)
  | 0, _ => by simp [restF, sumD]
  | k + 1, h => by
    obtain ⟨h1, h2, h3⟩ := rest_sum l a hb hl ha k (by omega)
    have hk : k < l.length := by omega
    have hb2 := hb k hk
    have e : sumD (l.take (k + 1)) = sumD (l.take k) + (l.getD k z40).f1 := by
      rw [List.take_add_one, List.getElem?_eq_getElem hk, sumD_app, List.getD_eq_getElem?_getD, List.getElem?_eq_getElem hk]
      simp [sumD]
    rw [restF, h1, e, wr64_in _ (by omega)]
    omega
theorem putF_rel {J : List (List S40)} (hf : Fit J) {f : Nat} {N : Nd} {S : Sst} (h : OkN J (f + 1) N) (hr : RelS J S N) {j : Nat} (hj : j < J.length) (hn : N.nx j ≠ lenN J j) {x : S89} (hx : x = ⟨(J.getD j []).getD (N.nx j) z40, ((baseN J j + N.nx j : Nat) : Int), (j : Int), (N.nx j : Int)⟩) : RelS J (putF x j (atN J N j) S) (putD J N j) := by
  have hlt : N.nx j < lenN J j := by have := h.nl j hj; omega
  obtain ⟨d1, d2, d3, d4⟩ := durN_ok hf hj hlt
  have hje := h.je j hj
  have hfr := h.fre _ d3
  have h10 := h.f10
  have ha : 0 ≤ atN J N j ∧ atN J N j ≤ 500 := by
    unfold atN mx
    split <;> omega
  have e1 : x.f1.toNat = baseN J j + N.nx j := by rw [hx]; exact Int.toNat_natCast _
  have e2 : x.f0.f1 = durN J j (N.nx j) := by rw [hx]; rfl
  have e3 : x.f0.f0.toNat = macN J j (N.nx j) := by rw [hx]; rfl
  have hw : wrap64 (atN J N j + x.f0.f1) = atN J N j + durN J j (N.nx j) := by
    rw [e2]
    exact wr64_in _ (by omega)
  have hpos : baseN J j + N.nx j < baseN J J.length := by have := base_lt J hj; omega
  refine ⟨fun i hi => ?_, fun i hi => ?_, fun m hm => ?_, fun i k hi hk => ?_, ?_⟩
  · show (S.nx.set j (S.nx.getD j 0 + 1)).getD i 0 = ((upd N.nx j (N.nx j + 1) i : Nat) : Int)
    rw [getD_set]
    by_cases e : i = j
    · subst e
      rw [if_pos ⟨rfl, by rw [hr.lens.1]; exact hi⟩, upd_same, hr.nx i hi]
      omega
    · rw [if_neg (by omega), upd_ne _ _ e, hr.nx i hi]
  · show (S.je.set j (wrap64 (atN J N j + x.f0.f1))).getD i 0 = upd N.je j (atN J N j + durN J j (N.nx j)) i
    rw [getD_set, hw]
    by_cases e : i = j
    · subst e
      rw [if_pos ⟨rfl, by rw [hr.lens.2.1]; exact hi⟩, upd_same]
    · rw [if_neg (by omega), upd_ne _ _ e, hr.je i hi]
  · show (S.fre.set x.f0.f0.toNat (wrap64 (atN J N j + x.f0.f1))).getD m 0 = upd N.fre (macN J j (N.nx j)) (atN J N j + durN J j (N.nx j)) m
    rw [getD_set, hw, e3]
    by_cases e : m = macN J j (N.nx j)
    · subst e
      rw [if_pos ⟨rfl, by rw [hr.lens.2.2.1]; exact hm⟩, upd_same]
    · rw [if_neg (fun q => e q.1.symm), upd_ne _ _ e, hr.fre m hm]
  · show (S.st.set x.f1.toNat (atN J N j)).getD (baseN J i + k) 0 = upd N.st (baseN J j + N.nx j) (atN J N j) (baseN J i + k)
    have hk2 : k < upd N.nx j (N.nx j + 1) i := hk
    rw [getD_set, e1]
    by_cases e : baseN J i + k = baseN J j + N.nx j
    · rw [if_pos ⟨e.symm, by rw [hr.lens.2.2.2, e]; exact hpos⟩, e, upd_same]
    · rw [if_neg (fun q => e q.1.symm), upd_ne _ _ e]
      refine hr.st i k hi ?_
      by_cases e2 : i = j
      · subst e2
        rw [upd_same] at hk2
        omega
      · rw [upd_ne _ _ e2] at hk2
        exact hk2
  · obtain ⟨l1, l2, l3, l4⟩ := hr.lens
    exact ⟨by simpa [putF] using l1, by simpa [putF] using l2, by simpa [putF] using l3, by simpa [putF] using l4⟩
theorem takeF_rel {J : List (List S40)} {f : Nat} {N : Nd} {S S2 : Sst} (h : OkN J (f + 1) N) (hr : RelS J S N) {j : Nat} (hj : j < J.length) (hn : N.nx j ≠ lenN J j) (h2 : RelS J S2 (putD J N j)) : RelS J (takeF S S2 j) N := by
  have hlt : N.nx j < lenN J j := by have := h.nl j hj; omega
  obtain ⟨l1, l2, l3, l4⟩ := h2.lens
  refine ⟨fun i hi => ?_, fun i hi => ?_, fun m hm => hr.fre m hm, fun i k hi hk => ?_, ?_⟩
  · show (S2.nx.set j (S2.nx.getD j 0 - 1)).getD i 0 = _
    have e1 : S2.nx.getD i 0 = ((upd N.nx j (N.nx j + 1) i : Nat) : Int) := h2.nx i hi
    rw [getD_set]
    by_cases e : i = j
    · subst e
      rw [if_pos ⟨rfl, by rw [l1]; exact hi⟩, e1, upd_same]
      omega
    · rw [if_neg (by omega), e1, upd_ne _ _ e]
  · show (S2.je.set j (S.je.getD j 0)).getD i 0 = _
    have e1 : S2.je.getD i 0 = upd N.je j (atN J N j + durN J j (N.nx j)) i := h2.je i hi
    rw [getD_set]
    by_cases e : i = j
    · subst e
      rw [if_pos ⟨rfl, by rw [l2]; exact hi⟩, hr.je i hi]
    · rw [if_neg (by omega), e1, upd_ne _ _ e]
  · show S2.st.getD (baseN J i + k) 0 = _
    have e1 : S2.st.getD (baseN J i + k) 0 = upd N.st (baseN J j + N.nx j) (atN J N j) (baseN J i + k) := by
      refine h2.st i k hi ?_
      show k < upd N.nx j (N.nx j + 1) i
      by_cases e : i = j
      · subst e
        rw [upd_same]
        omega
      · rw [upd_ne _ _ e]
        exact hk
    rw [e1, upd_ne]
    intro e
    have hk2 : k < lenN J i := by have := h.nl i hi; omega
    obtain ⟨rfl, rfl⟩ := base_inj hk2 hlt e
    omega
  · exact ⟨by simpa [takeF] using l1, by simpa [takeF] using l2, hr.lens.2.2.1, l4⟩
theorem goF_fold {J : List (List S40)} (hf : Fit J) : ∀ (f : Nat) (N : Nd) (S : Sst), OkN J f N → RelS J S N → RelS J (goF J (tasksN J J.length) f N.en S) N ∧ ((goF J (tasksN J J.length) f N.en S).best, (goF J (tasksN J J.length) f N.en S).least) = (lv J f N).foldl (upB (baseN J J.length)) (S.best, S.least)
  | 0, N, S, h, hr => by
    obtain ⟨h1, h2, h3, h4⟩ := leafF_same N.en S
    refine ⟨?_, ?_⟩
    · rw [goF]
      exact ⟨by rw [h1]; exact hr.nx, by rw [h2]; exact hr.je, by rw [h3]; exact hr.fre, by rw [h4]; exact hr.st, by rw [h1, h2, h3, h4]; exact hr.lens⟩
    · rw [goF, leaf_fold h hr]
      rfl
  | f + 1, N, S, h, hr => by
    have loop : ∀ i, i ≤ J.length → RelS J (loopG J (tasksN J J.length) (goF J (tasksN J J.length) f) N.en S i) N ∧ ((loopG J (tasksN J J.length) (goF J (tasksN J J.length) f) N.en S i).best, (loopG J (tasksN J J.length) (goF J (tasksN J J.length) f) N.en S i).least) = (lvJ J (lv J f) N i).foldl (upB (baseN J J.length)) (S.best, S.least) := by
      intro i
      induction i with
      | zero => exact fun _ => ⟨hr, rfl⟩
      | succ j ih =>
        intro hi
        obtain ⟨r1, r2⟩ := ih (by omega)
        have hj : j < J.length := hi
        rw [loopG, lvJ, List.foldl_append, ← r2]
        generalize loopG J (tasksN J J.length) (goF J (tasksN J J.length) f) N.en S j = Q at r1
        clear ih r2
        unfold stepG
        by_cases hn : N.nx j = lenN J j
        · rw [if_pos (by rw [r1.nx j hj, hn]; rfl), if_pos hn]
          exact ⟨r1, rfl⟩
        · have hlt : N.nx j < lenN J j := by have := h.nl j hj; omega
          rw [if_neg (by rw [r1.nx j hj]; intro q; exact hn (Int.ofNat.inj q)), if_neg hn]
          obtain ⟨t1, t2⟩ := tasksN_get J J.length j (N.nx j) hj hlt
          have ep : ((firstsN J J.length).getD j 0 + Q.nx.getD j 0).toNat = baseN J j + N.nx j := by
            rw [firstsN_get J J.length j hj, r1.nx j hj]
            unfold baseN
            omega
          rw [ep]
          obtain ⟨x, hx⟩ : ∃ x, x = (tasksN J J.length).getD (baseN J j + N.nx j) z89 := ⟨_, rfl⟩
          have hx2 : x = ⟨(J.getD j []).getD (N.nx j) z40, ((baseN J j + N.nx j : Nat) : Int), (j : Int), (N.nx j : Int)⟩ := hx.trans t2
          simp only
          rw [← hx]
          have e2 : x.f0.f1 = durN J j (N.nx j) := by rw [hx2]; rfl
          have e3 : x.f0.f0.toNat = macN J j (N.nx j) := by rw [hx2]; rfl
          obtain ⟨d1, d2, d3, d4⟩ := durN_ok hf hj hlt
          have ea : mx (Q.je.getD j 0) (Q.fre.getD x.f0.f0.toNat 0) = atN J N j := by
            rw [r1.je j hj, e3, r1.fre _ d3]
            rfl
          rw [ea]
          have hje := h.je j hj
          have hfr := h.fre _ d3
          have h10 := h.f10
          have ha : 0 ≤ atN J N j ∧ atN J N j ≤ 500 := by
            unfold atN mx
            split <;> omega
          have hw : wrap64 (atN J N j + x.f0.f1) = atN J N j + durN J j (N.nx j) := by
            rw [e2]
            exact wr64_in _ (by omega)
          have hp := put_ok hf h hj hn
          by_cases hpr : Q.best.isSome = true ∧ restF ((J.getD j []).drop (Q.nx.getD j 0).toNat) (atN J N j) ((J.getD j []).drop (Q.nx.getD j 0).toNat).length > Q.least
          · rw [if_pos hpr]
            refine ⟨r1, ?_⟩
            obtain ⟨hb, hg⟩ := hpr
            rw [r1.nx j hj, Int.toNat_natCast] at hg
            have hrl := hf.rl j
            obtain ⟨s1, s2, s3⟩ := rest_sum ((J.getD j []).drop (N.nx j)) (atN J N j) (fun k hk => by
              rw [List.length_drop] at hk
              have := durN_ok hf hj (k := N.nx j + k) (by unfold lenN; omega)
              unfold durN at this
              rw [List.getD_eq_getElem?_getD, List.getElem?_drop, ← List.getD_eq_getElem?_getD]
              omega) (by rw [List.length_drop]; omega) ha _ (Nat.le_refl _)
            rw [s1, List.take_length] at hg
            cases hbb : Q.best with
            | none => rw [hbb] at hb; cases hb
            | some b =>
              rw [fold_late]
              intro y hy
              have h1 := (leaf_ge hf f _ hp y hy).2 j hj
              have h2 := rem_put_same (J := J) hlt
              have h3 : (putD J N j).je j = atN J N j + durN J j (N.nx j) := upd_same _ _ _
              have h4 : remN J N j = sumD ((J.getD j []).drop (N.nx j)) := rfl
              rw [h3] at h1
              omega
          · rw [if_neg hpr, hw]
            have r3 := putF_rel hf h r1 hj hn hx2
            obtain ⟨r4, r5⟩ := goF_fold hf f (putD J N j) (putF x j (atN J N j) Q) hp r3
            exact ⟨takeF_rel h r1 hj hn r4, r5⟩
    exact loop J.length (Nat.le_refl _)
end Go.Proofs.Ytipkhaicjjeieaa.V
