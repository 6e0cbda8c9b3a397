/- The reference's small functions in plain words: Good, All; the law's few, copied, same, equal. -/
import Derived.Test.YtipkhaicjjeieaaKSShRh
import Derived.Test.YtipkhaicjjeieaaKSf0
namespace Go.Proofs.Ytipkhaicjjeieaa.V
set_option linter.unusedSimpArgs false
set_option linter.unusedVariables false
open Go.RowKit Go.Proofs.YtipkhaicjjeieaaW.PrintWords Go.Proofs.YtipkhaicjjeieaaW.PrintLast Go.Proofs.YtipkhaicjjeieaaW.PrintMore
def badS (x : S40) : Bool := badT x.f0 x.f1
theorem rdL (J : List (List S40)) (i : Nat) : rd_L2 J (i : Int) = J.getD i [] := by
  unfold rd_L2
  rw [Int.toNat_natCast]
theorem rdT (r : List S40) (c : Nat) : rd_T40 r (c : Int) = r.getD c z40 := by
  unfold rd_T40
  rw [Int.toNat_natCast]
theorem natW (i : Nat) (hi : i ≤ 100000) : wrap64 ((i : Int) + 1) = ((i + 1 : Nat) : Int) := by
  rw [wr64_in _ (by omega)]
  omega
theorem T40_flat (J : List (List S40)) : ∀ i, i ≤ J.length → (tasksN J i).map (·.f0) = (J.take i).flatten
  | 0, _ => by simp [tasksN]
  | i + 1, h => by
    have hi : i < J.length := h
    rw [tasksN, List.map_append, T40_flat J i (by omega), List.take_add_one, List.getElem?_eq_getElem hi]
    simp only [Option.toList_some, List.flatten_append, List.flatten_cons, List.flatten_nil, List.append_nil]
    congr 1
    rw [List.getD_eq_getElem?_getD, List.getElem?_eq_getElem hi, Option.getD_some]
    unfold jobT
    apply List.ext_getElem
    · simp
    · intro k h1 h2
      simp
theorem T40_all (J : List (List S40)) : T40 J = J.flatten := by
  unfold T40
  rw [T40_flat J J.length (Nat.le_refl _), List.take_length]
theorem bad_all (J : List (List S40)) : (tasksN J J.length).any S89.bad = J.any (fun r => r.any badS) := by
  have h : (tasksN J J.length).any S89.bad = (T40 J).any badS := by
    unfold T40
    rw [List.any_map]
    rfl
  rw [h, T40_all, List.any_flatten]
theorem good_l2 (J : List (List S40)) (i : Nat) (hi : i < J.length) (hi2 : J.length ≤ 1000) (hl : (J.getD i []).length ≤ 1000) (r : Int) (h : ∃ k, tinplateref06_Good.l1 k J ((i + 1 : Nat) : Int) = some r) : ∀ (d c : Nat), c + d = (J.getD i []).length → ∃ k, tinplateref06_Good.l2 k J (i : Int) (c : Int) = some (if ((J.getD i []).drop c).any badS = true then 2 else r)
  | 0, c, hc => by
    obtain ⟨k, hk⟩ := h
    refine ⟨k + 1, ?_⟩
    rw [tinplateref06_Good.l2, if_pos (by omega), if_pos (by omega), rdL, if_neg (by omega), natW _ (by omega), hk, List.drop_eq_nil_of_le (by omega)]
    rfl
  | d + 1, c, hc => by
    obtain ⟨k, hk⟩ := good_l2 J i hi hi2 hl r h d (c + 1) (by omega)
    have hcl : c < (J.getD i []).length := by omega
    refine ⟨k + 1, ?_⟩
    rw [tinplateref06_Good.l2, if_pos (by omega), if_pos (by omega), rdL, if_pos (by omega), if_pos (by omega), rdT, List.drop_eq_getElem_cons hcl, List.any_cons]
    have e : (J.getD i []).getD c z40 = (J.getD i [])[c] := by
      rw [List.getD_eq_getElem?_getD, List.getElem?_eq_getElem hcl, Option.getD_some]
    rw [e]
    generalize (J.getD i [])[c] = x
    by_cases b1 : x.f0 < 0
    · rw [if_pos b1]
      simp [badS, badT, b1]
    · rw [if_neg b1]
      by_cases b2 : x.f0 > 3
      · rw [if_pos b2]
        simp [badS, badT, b2]
      · rw [if_neg b2]
        by_cases b3 : x.f1 < 1
        · rw [if_pos b3]
          simp [badS, badT, b3]
        · rw [if_neg b3]
          by_cases b4 : x.f1 > 50
          · rw [if_pos b4]
            simp [badS, badT, b4]
          · rw [if_neg b4, natW _ (by omega), hk]
            have : badS x = false := by simp [badS, badT]; omega
            rw [this, Bool.false_or]
theorem good_l1 (J : List (List S40)) (hi2 : J.length ≤ 1000) (hl : ∀ i, (J.getD i []).length ≤ 1000) : ∀ (d i : Nat), i + d = J.length → ∃ k, tinplateref06_Good.l1 k J (i : Int) = some (if (J.drop i).any (fun r => r.any badS) = true then 2 else 0)
  | 0, i, hi => ⟨1, by
    rw [tinplateref06_Good.l1, if_neg (by omega), List.drop_eq_nil_of_le (by omega)]
    rfl⟩
  | d + 1, i, hi => by
    have hlt : i < J.length := by omega
    obtain ⟨k, hk⟩ := good_l2 J i hlt hi2 (hl i) _ (good_l1 J hi2 hl d (i + 1) (by omega)) (J.getD i []).length 0 (by omega)
    refine ⟨k + 1, ?_⟩
    rw [tinplateref06_Good.l1, if_pos (by omega)]
    have hk' : tinplateref06_Good.l2 k J (i : Int) 0 = _ := hk
    rw [hk', List.drop_zero, List.drop_eq_getElem_cons hlt, List.any_cons]
    have e : J.getD i [] = J[i] := by
      rw [List.getD_eq_getElem?_getD, List.getElem?_eq_getElem hlt, Option.getD_some]
    rw [e]
    cases J[i].any badS <;> simp
theorem good_l0 (J : List (List S40)) (hi2 : J.length ≤ 1000) (hl : ∀ i, (J.getD i []).length ≤ 1000) : ∀ (d i : Nat), i + d = J.length → ∃ k, tinplateref06_Good.l0 k J ((tasksN J i).length : Int) (i : Int) = some (if (J.drop i).any (fun r => decide (r.length > 4)) = true then 3 else if (tasksN J J.length).length > 10 then 3 else if J.any (fun r => r.any badS) = true then 2 else 0)
  | 0, i, hi => by
    obtain rfl : i = J.length := by omega
    obtain ⟨k, hk⟩ := good_l1 J hi2 hl J.length 0 (by omega)
    refine ⟨k + 1, ?_⟩
    rw [tinplateref06_Good.l0, if_neg (by omega), List.drop_eq_nil_of_le (by omega)]
    simp only [List.any_nil, Bool.false_eq_true, if_false]
    by_cases h : (tasksN J J.length).length > 10
    · rw [if_pos h, if_pos (by omega)]
    · rw [if_neg h, if_neg (by omega)]
      have hk' : tinplateref06_Good.l1 k J 0 = _ := hk
      rw [hk', List.drop_zero]
  | d + 1, i, hi => by
    have hlt : i < J.length := by omega
    obtain ⟨k, hk⟩ := good_l0 J hi2 hl d (i + 1) (by omega)
    refine ⟨k + 1, ?_⟩
    rw [tinplateref06_Good.l0, if_pos (by omega), if_pos (by omega), rdL, List.drop_eq_getElem_cons hlt, List.any_cons]
    have e : J.getD i [] = J[i] := by
      rw [List.getD_eq_getElem?_getD, List.getElem?_eq_getElem hlt, Option.getD_some]
    have hle := hl i
    have hbd : (tasksN J i).length ≤ 1000 * i := by
      clear hk e hle hlt hi
      induction i with
      | zero => simp [tasksN]
      | succ i ih =>
        rw [tasksN, List.length_append, jobT_len]
        have := hl i
        omega
    rw [e] at hle ⊢
    by_cases h : J[i].length > 4
    · rw [if_pos (by omega)]
      simp [h]
    · rw [if_neg (by omega), natW _ (by omega), wr64_in _ (by omega)]
      have e2 : ((tasksN J i).length : Int) + (J[i].length : Int) = ((tasksN J (i + 1)).length : Int) := by
        rw [tasksN, List.length_append, jobT_len, e]
        omega
      rw [e2, hk]
      simp [h]
theorem good_f (J : List (List S40)) (hi2 : J.length ≤ 1000) (hl : ∀ i, (J.getD i []).length ≤ 1000) : ∃ k, tinplateref06_Good.f k J = some (ofErr J) := by
  obtain ⟨k, hk⟩ := good_l0 J hi2 hl J.length 0 (by omega)
  refine ⟨k, ?_⟩
  unfold tinplateref06_Good.f ofErr
  rw [bad_all]
  by_cases h : J.length > 4
  · rw [if_pos (by omega), if_pos h]
  · rw [if_neg (by omega), if_neg h]
    have hk' : tinplateref06_Good.l0 k J 0 0 = _ := hk
    rw [hk', List.drop_zero]
theorem all_l0 (J : List (List S40)) (hi2 : J.length ≤ 1000) (hl : ∀ i, (J.getD i []).length ≤ 1000) : ∀ (d i : Nat) (acc : List S40), i + d = J.length → acc.length ≤ 1000 * i → ∃ k, tinplateref06_All.l0 k J acc (i : Int) = some (acc ++ (J.drop i).flatten)
  | 0, i, acc, hi, ha => ⟨1, by
    rw [tinplateref06_All.l0, if_neg (by omega), List.drop_eq_nil_of_le (by omega)]
    simp⟩
  | d + 1, i, acc, hi, ha => by
    have hlt : i < J.length := by omega
    have hle := hl i
    obtain ⟨k, hk⟩ := all_l0 J hi2 hl d (i + 1) (acc ++ J.getD i []) (by omega) (by rw [List.length_append]; omega)
    refine ⟨k + 1, ?_⟩
    rw [tinplateref06_All.l0, if_pos (by omega), if_pos (by omega), rdL, if_pos (by omega), natW _ (by omega), hk, List.drop_eq_getElem_cons hlt, List.flatten_cons, List.append_assoc]
    rw [List.getD_eq_getElem?_getD, List.getElem?_eq_getElem hlt, Option.getD_some]
theorem all_f (J : List (List S40)) (hi2 : J.length ≤ 1000) (hl : ∀ i, (J.getD i []).length ≤ 1000) : ∃ k, tinplateref06_All.f k J = some (T40 J) := by
  obtain ⟨k, hk⟩ := all_l0 J hi2 hl J.length 0 [] (by omega) (by simp)
  refine ⟨k, ?_⟩
  rw [T40_all]
  unfold tinplateref06_All.f
  have hk' : tinplateref06_All.l0 k J [] 0 = _ := hk
  rw [hk']
  simp
theorem few_l0 (J : List (List S40)) : ∀ (d i : Nat), i + d = J.length → i ≤ 20 → ∃ k b, tinplatelaw06_few.l0 k J (i : Int) = some b ∧ (b = true → J.length ≤ 20 ∧ ∀ j, i ≤ j → (J.getD j []).length ≤ 20)
  | 0, i, hi, h20 => ⟨1, true, by rw [tinplatelaw06_few.l0, if_neg (by omega)], fun _ => ⟨by omega, fun j hj => by
      rw [List.getD_eq_getElem?_getD, List.getElem?_eq_none (by omega)]
      simp⟩⟩
  | d + 1, i, hi, h20 => by
    by_cases h : i ≥ 20
    · exact ⟨1, false, by rw [tinplatelaw06_few.l0, if_pos (by omega), if_pos (by omega)], fun q => by cases q⟩
    · by_cases h2 : (J.getD i []).length > 20
      · exact ⟨1, false, by rw [tinplatelaw06_few.l0, if_pos (by omega), if_neg (by omega), if_pos (by omega), rdL, if_pos (by omega)], fun q => by cases q⟩
      · obtain ⟨k, b, hk, hb⟩ := few_l0 J d (i + 1) (by omega) (by omega)
        refine ⟨k + 1, b, by rw [tinplatelaw06_few.l0, if_pos (by omega), if_neg (by omega), if_pos (by omega), rdL, if_neg (by omega), natW _ (by omega), hk], fun q => ?_⟩
        obtain ⟨h3, h4⟩ := hb q
        refine ⟨h3, fun j hj => ?_⟩
        by_cases e : j = i
        · subst e
          omega
        · exact h4 j (by omega)
theorem few_f (J : List (List S40)) : ∃ k b, tinplatelaw06_few.f k J = some b ∧ (b = true → J.length ≤ 20 ∧ ∀ j, (J.getD j []).length ≤ 20) := by
  obtain ⟨k, b, h1, h2⟩ := few_l0 J J.length 0 (by omega) (by omega)
  exact ⟨k, b, h1, fun q => ⟨(h2 q).1, fun j => (h2 q).2 j (Nat.zero_le j)⟩⟩
theorem copied_l0 (J : List (List S40)) (hi2 : J.length ≤ 1000) (hl : ∀ i, (J.getD i []).length ≤ 1000) : ∀ (d i : Nat), i + d = J.length → ∃ k, tinplatelaw06_copied.l0 k J (J.take i) (i : Int) = some J
  | 0, i, hi => ⟨1, by
    rw [tinplatelaw06_copied.l0, if_neg (by omega), List.take_of_length_le (by omega)]⟩
  | d + 1, i, hi => by
    have hlt : i < J.length := by omega
    have hle := hl i
    obtain ⟨k, hk⟩ := copied_l0 J hi2 hl d (i + 1) (by omega)
    refine ⟨k + 1, ?_⟩
    rw [tinplatelaw06_copied.l0, if_pos (by omega), Option.bind_some, if_pos (by omega), rdL, if_pos (by rw [List.length_nil]; omega), if_pos (by rw [List.length_take]; omega), natW _ (by omega)]
    have e : J.take i ++ [([] : List S40) ++ J.getD i []] = J.take (i + 1) := by
      rw [List.take_add_one, List.getElem?_eq_getElem hlt, List.getD_eq_getElem?_getD, List.getElem?_eq_getElem hlt]
      rfl
    rw [e]
    exact hk
theorem copied_f (J : List (List S40)) (hi2 : J.length ≤ 1000) (hl : ∀ i, (J.getD i []).length ≤ 1000) : ∃ k, tinplatelaw06_copied.f k J = some J := copied_l0 J hi2 hl J.length 0 (by omega)
theorem equal_l1 (J : List (List S40)) (hi2 : J.length ≤ 1000) (i : Nat) (hi : i < J.length) (hl : (J.getD i []).length ≤ 1000) (h : ∃ k, tinplatelaw06_equal.l0 k J J ((i + 1 : Nat) : Int) = some true) : ∀ (d c : Nat), c + d = (J.getD i []).length → ∃ k, tinplatelaw06_equal.l1 k J J (i : Int) (c : Int) = some true
  | 0, c, hc => by
    obtain ⟨k, hk⟩ := h
    exact ⟨k + 1, by rw [tinplatelaw06_equal.l1, if_pos (by omega), if_pos (by omega), rdL, if_neg (by omega), natW _ (by omega), hk]⟩
  | d + 1, c, hc => by
    obtain ⟨k, hk⟩ := equal_l1 J hi2 i hi hl h d (c + 1) (by omega)
    refine ⟨k + 1, ?_⟩
    rw [tinplatelaw06_equal.l1, if_pos (by omega), if_pos (by omega), rdL, if_pos (by omega), if_pos (by omega), if_pos (by omega), if_pos (by omega), natW _ (by omega), hk]
    simp
theorem equal_l0 (J : List (List S40)) (hi2 : J.length ≤ 1000) (hl : ∀ i, (J.getD i []).length ≤ 1000) : ∀ (d i : Nat), i + d = J.length → ∃ k, tinplatelaw06_equal.l0 k J J (i : Int) = some true
  | 0, i, hi => ⟨1, by rw [tinplatelaw06_equal.l0, if_neg (by omega)]⟩
  | d + 1, i, hi => by
    have hlt : i < J.length := by omega
    obtain ⟨k, hk⟩ := equal_l1 J hi2 i hlt (hl i) (equal_l0 J hi2 hl d (i + 1) (by omega)) (J.getD i []).length 0 (by omega)
    refine ⟨k + 1, ?_⟩
    rw [tinplatelaw06_equal.l0, if_pos (by omega), if_pos (by omega), if_pos (by omega), if_pos rfl]
    exact hk
theorem equal_f (J : List (List S40)) (hi2 : J.length ≤ 1000) (hl : ∀ i, (J.getD i []).length ≤ 1000) : ∃ k, tinplatelaw06_equal.f k J J = some true := by
  obtain ⟨k, hk⟩ := equal_l0 J hi2 hl J.length 0 (by omega)
  exact ⟨k, by unfold tinplatelaw06_equal.f; rw [if_pos rfl]; exact hk⟩
theorem same_l0 (l : List Int) (hl : l.length ≤ 1000) : ∀ (d i : Nat), i + d = l.length → ∃ k, tinplatelaw06_same.l0 k l l (i : Int) = some true
  | 0, i, hi => ⟨1, by rw [tinplatelaw06_same.l0, if_neg (by omega)]⟩
  | d + 1, i, hi => by
    obtain ⟨k, hk⟩ := same_l0 l hl d (i + 1) (by omega)
    refine ⟨k + 1, ?_⟩
    rw [tinplatelaw06_same.l0, if_pos (by omega), if_pos (by omega), if_pos (by omega), natW _ (by omega), hk]
    simp
theorem same_f (l : List Int) (hl : l.length ≤ 1000) : ∃ k, tinplatelaw06_same.f k l l = some true := by
  obtain ⟨k, hk⟩ := same_l0 l hl l.length 0 (by omega)
  exact ⟨k, by unfold tinplatelaw06_same.f; rw [if_pos rfl]; exact hk⟩
end Go.Proofs.Ytipkhaicjjeieaa.V
