/- The plain law of the search, second part: the reference's search comes to the best leaf too. -/
import Derived.Test.YtipkhaicjjeieaaKSShPA
import Derived.Test.YtipkhaicjjeieaaKSShOp
namespace Go.Proofs.Ytipkhaicjjeieaa.V
set_option linter.unusedSimpArgs false
set_option linter.unusedVariables false
open Go.RowKit Go.Proofs.YtipkhaicjjeieaaW.PrintWords Go.Proofs.YtipkhaicjjeieaaW.PrintLast Go.Proofs.YtipkhaicjjeieaaW.PrintMore
structure Pst where
  dn : List Int
  jb : List Int
  ma : List Int
  st : List Int
  en : Int
def lessF : List Int → List Int → Bool
  | [], _ => false
  | x :: l, r => if x = r.headD 0 then lessF l r.tail else decide (x < r.headD 0)
def putP (J : List (List S40)) (P : Pst) (j : Nat) : Pst :=
  let x := (J.getD j []).getD (P.dn.getD j 0).toNat z40
  let s := mx (P.jb.getD j 0) (P.ma.getD x.f0.toNat 0)
  ⟨P.dn.set j (P.dn.getD j 0 + 1), P.jb.set j (wrap64 (s + x.f1)), P.ma.set x.f0.toNat (wrap64 (s + x.f1)), P.st.set (baseN J j + (P.dn.getD j 0).toNat) s, mx P.en (wrap64 (s + x.f1))⟩
def loopP (J : List (List S40)) (V : Pst → List Int × Int → List Int × Int) (P : Pst) (b : List Int × Int) : Nat → (List Int × Int) × Bool
  | 0 => (b, true)
  | j + 1 => if P.dn.getD j 0 = (lenN J j : Int) then loopP J V P b j else (V (putP J P j) (loopP J V P b j).1, false)
def nodeP (J : List (List S40)) (V : Pst → List Int × Int → List Int × Int) (P : Pst) (b : List Int × Int) : List Int × Int :=
  if 0 ≤ b.2 ∧ P.en > b.2 then b
  else
    let r := loopP J V P b J.length
    if r.2 = true ∧ (r.1.2 < 0 ∨ P.en < r.1.2 ∨ (P.en = r.1.2 ∧ lessF P.st r.1.1 = true)) then (P.st, P.en) else r.1
def searchP (J : List (List S40)) : Nat → Pst → List Int × Int → List Int × Int
  | 0 => nodeP J (fun _ b => b)
  | f + 1 => nodeP J (searchP J f)
theorem less_cmp : ∀ (a b : List Int), a.length = b.length → (lessF a b = true ↔ cmpI a b < 0)
  | [], [], _ => by simp [lessF, cmpI]
  | x :: a, y :: b, h => by
    have ih := less_cmp a b (by simpa using h)
    have e : lessF (x :: a) (y :: b) = if x = y then lessF a b else decide (x < y) := rfl
    have e2 : cmpI (x :: a) (y :: b) = if x < y then -1 else if y < x then 1 else cmpI a b := rfl
    rw [e, e2]
    by_cases h1 : x < y
    · rw [if_neg (by omega), if_pos h1]
      simp [h1]
    · by_cases h2 : y < x
      · rw [if_neg (by omega), if_neg h1, if_pos h2]
        simp [h1]
      · rw [if_pos (by omega), if_neg h1, if_neg h2]
        exact ih
structure RelP (J : List (List S40)) (P : Pst) (N : Nd) : Prop where
  nx : ∀ j, j < J.length → P.dn.getD j 0 = (N.nx j : Int)
  je : ∀ j, j < J.length → P.jb.getD j 0 = N.je j
  fre : ∀ m, m < 4 → P.ma.getD m 0 = N.fre m
  st : ∀ j k, j < J.length → k < N.nx j → P.st.getD (baseN J j + k) 0 = N.st (baseN J j + k)
  lens : P.dn.length = J.length ∧ P.jb.length = J.length ∧ P.ma.length = 4 ∧ P.st.length = baseN J J.length
  en : P.en = N.en
theorem putP_rel {J : List (List S40)} (hf : Fit J) {f : Nat} {N : Nd} {P : Pst} (h : OkN J (f + 1) N) (hr : RelP J P N) {j : Nat} (hj : j < J.length) (hn : N.nx j ≠ lenN J j) : RelP J (putP J P j) (putD J N j) := by
  have hrs : RelS J ⟨P.dn, P.jb, P.ma, P.st, none, 0⟩ N := ⟨hr.nx, hr.je, hr.fre, hr.st, hr.lens⟩
  have hp := putF_rel hf h hrs hj hn (x := ⟨(J.getD j []).getD (N.nx j) z40, ((baseN J j + N.nx j : Nat) : Int), (j : Int), (N.nx j : Int)⟩) rfl
  have hlt : N.nx j < lenN J j := by have := h.nl j hj; omega
  obtain ⟨d1, d2, d3, d4⟩ := durN_ok hf hj hlt
  have e0 : (P.dn.getD j 0).toNat = N.nx j := by rw [hr.nx j hj]; exact Int.toNat_natCast _
  have ea : mx (P.jb.getD j 0) (P.ma.getD ((J.getD j []).getD (N.nx j) z40).f0.toNat 0) = atN J N j := by
    have e3 : ((J.getD j []).getD (N.nx j) z40).f0.toNat = macN J j (N.nx j) := rfl
    rw [hr.je j hj, e3, hr.fre _ d3]
    rfl
  have hje := h.je j hj
  have hfr := h.fre _ d3
  have h10 := h.f10
  have ha : 0 ≤ atN J N j ∧ atN J N j ≤ 500 := by
    unfold atN mx
    split <;> omega
  have hw : wrap64 (atN J N j + ((J.getD j []).getD (N.nx j) z40).f1) = atN J N j + durN J j (N.nx j) := by
    have e2 : ((J.getD j []).getD (N.nx j) z40).f1 = durN J j (N.nx j) := rfl
    rw [e2]
    exact wr64_in _ (by omega)
  have e : putP J P j = ⟨P.dn.set j (P.dn.getD j 0 + 1), P.jb.set j (wrap64 (atN J N j + ((J.getD j []).getD (N.nx j) z40).f1)), P.ma.set (((J.getD j []).getD (N.nx j) z40).f0.toNat) (wrap64 (atN J N j + ((J.getD j []).getD (N.nx j) z40).f1)), P.st.set (baseN J j + N.nx j) (atN J N j), mx P.en (wrap64 (atN J N j + ((J.getD j []).getD (N.nx j) z40).f1))⟩ := by
    unfold putP
    simp only [e0, ea]
  rw [e]
  refine ⟨hp.nx, hp.je, hp.fre, ?_, ?_, ?_⟩
  · have := hp.st
    simp only [putF, Int.toNat_natCast] at this
    exact this
  · have := hp.lens
    simp only [putF, Int.toNat_natCast] at this
    exact this
  · rw [hw, hr.en]
    rfl
def tb (b : List Int × Int) : Option (List Int) × Int := if b.2 < 0 then (none, 0) else (some b.1, b.2)
def BokP (n : Nat) (b : List Int × Int) : Prop := 0 ≤ b.2 → b.1.length = n
theorem node_leaf {J : List (List S40)} {N : Nd} {P : Pst} (h : OkN J 0 N) (hr : RelP J P N) (V : Pst → List Int × Int → List Int × Int) (b : List Int × Int) (hb : BokP (baseN J J.length) b) : tb (nodeP J V P b) = upB (baseN J J.length) (tb b) N ∧ BokP (baseN J J.length) (nodeP J V P b) := by
  have hst : P.st = stL (baseN J J.length) N := leaf_st (S := ⟨P.dn, P.jb, P.ma, P.st, none, 0⟩) h ⟨hr.nx, hr.je, hr.fre, hr.st, hr.lens⟩
  have hl : ∀ i, i ≤ J.length → loopP J V P b i = (b, true) := by
    intro i
    induction i with
    | zero => exact fun _ => rfl
    | succ i ih =>
      intro hi
      rw [loopP, if_pos (by
        rw [hr.nx i hi]
        have h1 := lf_zero J N.nx J.length h.lf i hi
        have h2 := h.nl i hi
        omega), ih (by omega)]
  have hen := h.en.1
  unfold nodeP
  rw [hl _ (Nat.le_refl _), hr.en]
  have hslen : P.st.length = baseN J J.length := hr.lens.2.2.2
  by_cases h1 : 0 ≤ b.2 ∧ N.en > b.2
  · rw [if_pos h1]
    refine ⟨?_, hb⟩
    unfold upB tb
    rw [if_neg (by omega)]
    simp only
    rw [if_neg (by omega)]
  · rw [if_neg h1]
    simp only [true_and]
    by_cases h2 : b.2 < 0
    · rw [if_pos (Or.inl h2)]
      refine ⟨?_, fun _ => hslen⟩
      unfold upB tb
      simp only
      rw [if_neg (by omega), if_pos h2]
      simp only [hst]
    · have hlen : P.st.length = b.1.length := by rw [hslen, hb (by omega)]
      have hlc := less_cmp P.st b.1 hlen
      by_cases h3 : N.en < b.2 ∨ (N.en = b.2 ∧ lessF P.st b.1 = true)
      · rw [if_pos (Or.inr h3)]
        refine ⟨?_, fun _ => hslen⟩
        unfold upB tb
        simp only
        rw [if_neg (by omega), if_neg h2]
        simp only
        rw [if_pos (by rw [← hst, ← hlc]; exact h3), hst]
      · rw [if_neg (by rintro (q | q); exact h2 q; exact h3 q)]
        refine ⟨?_, hb⟩
        unfold upB tb
        rw [if_neg h2]
        simp only
        rw [if_neg (by rw [← hst, ← hlc]; exact h3)]
theorem searchP_fold {J : List (List S40)} (hf : Fit J) : ∀ (f : Nat) (N : Nd) (P : Pst) (b : List Int × Int), OkN J f N → RelP J P N → BokP (baseN J J.length) b → tb (searchP J f P b) = (lv J f N).foldl (upB (baseN J J.length)) (tb b) ∧ BokP (baseN J J.length) (searchP J f P b)
  | 0, N, P, b, h, hr, hb => node_leaf h hr _ b hb
  | f + 1, N, P, b, h, hr, hb => by
    have loop : ∀ i, i ≤ J.length → tb (loopP J (searchP J f) P b i).1 = (lvJ J (lv J f) N i).foldl (upB (baseN J J.length)) (tb b) ∧ BokP (baseN J J.length) (loopP J (searchP J f) P b i).1 ∧ ((loopP J (searchP J f) P b i).2 = true → ∀ j, j < i → N.nx j = lenN J j) := by
      intro i
      induction i with
      | zero => exact fun _ => ⟨rfl, hb, fun _ j hj => by omega⟩
      | succ j ih =>
        intro hi
        obtain ⟨r1, r2, r3⟩ := ih (by omega)
        have hj : j < J.length := hi
        rw [lvJ, List.foldl_append, ← r1, loopP]
        by_cases hn : N.nx j = lenN J j
        · rw [if_pos (by rw [hr.nx j hj, hn]), if_pos hn]
          refine ⟨rfl, r2, fun q i hi2 => ?_⟩
          by_cases e : i = j
          · rw [e]
            exact hn
          · exact r3 q i (by omega)
        · rw [if_neg (by rw [hr.nx j hj]; intro q; exact hn (Int.ofNat.inj q)), if_neg hn]
          obtain ⟨s1, s2⟩ := searchP_fold hf f _ _ _ (put_ok hf h hj hn) (putP_rel hf h hr hj hn) r2
          exact ⟨s1, s2, fun q => by cases q⟩
    obtain ⟨l1, l2, l3⟩ := loop J.length (Nat.le_refl _)
    rw [searchP]
    unfold nodeP
    by_cases h1 : 0 ≤ b.2 ∧ P.en > b.2
    · rw [if_pos h1]
      refine ⟨?_, hb⟩
      have e : tb b = (some b.1, b.2) := by
        unfold tb
        rw [if_neg (by omega)]
      rw [e, fold_late]
      intro x hx
      have := (leaf_ge hf (f + 1) N h x hx).1
      have := hr.en
      omega
    · rw [if_neg h1]
      simp only
      rw [if_neg]
      · exact ⟨l1, l2⟩
      · rintro ⟨q, _⟩
        obtain ⟨j, h2, h3⟩ := lf_pos J N.nx J.length (by rw [h.lf]; omega)
        have := l3 q j h2
        omega
theorem lv_some {J : List (List S40)} (hf : Fit J) : ∀ (f : Nat) (N : Nd), OkN J f N → ∃ x, x ∈ lv J f N
  | 0, N, _ => ⟨N, by simp [lv]⟩
  | f + 1, N, h => by
    obtain ⟨j, h2, h3⟩ := lf_pos J N.nx J.length (by rw [h.lf]; omega)
    obtain ⟨x, hx⟩ := lv_some hf f _ (put_ok hf h h2 (by omega))
    exact ⟨x, (mem_lvJ _).2 ⟨j, h2, by omega, hx⟩⟩
theorem fold_isSome (n : Nat) : ∀ (L : List Nd) (b : Option (List Int) × Int), b.1.isSome = true → (L.foldl (upB n) b).1.isSome = true
  | [], _, h => h
  | x :: L, b, h => by
    rw [List.foldl_cons]
    refine fold_isSome n L _ ?_
    unfold upB
    cases hb : b.1 with
    | none => rw [hb] at h; cases h
    | some l =>
      simp only
      split
      · rfl
      · rw [hb]; rfl
theorem fold_some (n : Nat) : ∀ (L : List Nd) (b : Option (List Int) × Int), (∃ x, x ∈ L) → (L.foldl (upB n) b).1.isSome = true
  | [], _, ⟨_, h⟩ => by simp at h
  | x :: L, b, _ => by
    rw [List.foldl_cons]
    refine fold_isSome n L _ ?_
    unfold upB
    cases hb : b.1 with
    | none => rfl
    | some l =>
      simp only
      split
      · rfl
      · rw [hb]; rfl
def N0 : Nd := ⟨fun _ => 0, fun _ => 0, fun _ => 0, fun _ => 0, 0⟩
theorem lf_all (J : List (List S40)) : ∀ i, lfN J (fun _ => 0) i = baseN J i
  | 0 => rfl
  | i + 1 => by
    rw [lfN, lf_all J i]
    unfold baseN lenN
    rw [tasksN, List.length_append, jobT_len]
    rfl
theorem ok_N0 {J : List (List S40)} (hf : Fit J) : OkN J (baseN J J.length) N0 := by
  have := hf.nl
  refine ⟨fun j _ => Nat.zero_le _, lf_all J _, this, fun j _ => ?_, fun m _ => ?_, ?_⟩ <;>
  · unfold baseN
    simp only [N0]
    omega
def P0 (J : List (List S40)) : Pst := ⟨List.replicate J.length 0, List.replicate J.length 0, List.replicate 4 0, List.replicate (baseN J J.length) 0, 0⟩
theorem getD_rep (n i : Nat) : (List.replicate n (0 : Int)).getD i 0 = 0 := by
  rw [List.getD_eq_getElem?_getD, List.getElem?_replicate]
  split <;> rfl
theorem searches {J : List (List S40)} (hf : Fit J) : ∃ l m, (goF J (tasksN J J.length) (baseN J J.length) 0 (S0 J (baseN J J.length))).best = some l ∧ (goF J (tasksN J J.length) (baseN J J.length) 0 (S0 J (baseN J J.length))).least = m ∧ searchP J (baseN J J.length) (P0 J) ([], -1) = (l, m) ∧ l.length = baseN J J.length := by
  obtain ⟨_, h1⟩ := goF_fold hf (baseN J J.length) N0 (S0 J (baseN J J.length)) (ok_N0 hf) ⟨fun j _ => getD_rep _ _, fun j _ => getD_rep _ _, fun j _ => getD_rep _ _, fun j k _ _ => getD_rep _ _, by simp [S0]⟩
  obtain ⟨h2, h3⟩ := searchP_fold hf (baseN J J.length) N0 (P0 J) ([], -1) (ok_N0 hf) ⟨fun j _ => getD_rep _ _, fun j _ => getD_rep _ _, fun j _ => getD_rep _ _, fun j k _ _ => getD_rep _ _, by simp [P0], rfl⟩ (fun q => by simp at q)
  have h4 := fold_some (baseN J J.length) (lv J (baseN J J.length) N0) (none, 0) (lv_some hf _ _ (ok_N0 hf))
  have e : tb (([], -1) : List Int × Int) = (none, 0) := rfl
  rw [e] at h2
  rw [← h2] at h4
  have h1' : ((goF J (tasksN J J.length) (baseN J J.length) 0 (S0 J (baseN J J.length))).best, (goF J (tasksN J J.length) (baseN J J.length) 0 (S0 J (baseN J J.length))).least) = tb (searchP J (baseN J J.length) (P0 J) ([], -1)) := by
    rw [h2]
    exact h1
  generalize searchP J (baseN J J.length) (P0 J) ([], -1) = r at h1' h3 h4
  obtain ⟨l, m⟩ := r
  by_cases hm : m < 0
  · unfold tb at h4
    rw [if_pos hm] at h4
    cases h4
  · unfold tb at h1'
    rw [if_neg hm] at h1'
    obtain ⟨q1, q2⟩ := Prod.mk.inj h1'
    exact ⟨l, m, q1, q2, rfl, h3 (by simpa using hm)⟩
end Go.Proofs.Ytipkhaicjjeieaa.V
