/- The plain statement of the law LinePowers: whatever the lists and numbers, the printed law's function comes to true. No condition but that the numbers are of their kinds. -/
import Derived.Test.YthjmfbmffchicaaKPf4
import Derived.Test.YthjmfbmffchicaaKPRefD
import Derived.Test.YthjmfbmffchicaaKPAlive
import Derived.OpenShut
namespace Go.Proofs.Ythjmfbmffchicaa.Pure
open Go.RowKit Go.Proofs.Ythjmfbmffchicaa.V Go.Proofs.YthjmfbmffchicaaW.PrintWords Go.Proofs.YthjmfbmffchicaaW.PrintLast
open Go.Proofs.Ythjmfbmffchicaa.Mp
theorem alive_last : Ev (fun k => (l5alive.f k).bind fun t => some t) true := Ev.bind alive_ev (Ev.now true)
def Small (p : List (List Int)) : Prop := p.length ≤ 20 ∧ ∀ j, j < p.length → (p.getD j []).length ≤ 20
theorem Small.rows {p : List (List Int)} (h : Small p) : Rows p := fun i hi => by have := h.2 i hi; omega
theorem copied_l0 (A : List (List Int)) (h : Small A) : ∀ d i, i + d = A.length → Ev (fun k => l5copied.l0 k A (A.take i) (i : Int)) A := by
  intro d
  induction d with
  | zero =>
    intro i hi
    refine ev_now (fun k => ?_)
    simp only [l5copied.l0]
    rw [if_neg (by omega), List.take_of_length_le (by omega)]
  | succ d ih =>
    intro i hi
    refine Ev.step (fun k => ?_) (ih (i + 1) (by omega))
    simp only [l5copied.l0, Option.bind_some]
    have h2 := h.2 i (by omega)
    have h1 := h.1
    have hl : (A.take i).length = i := by rw [List.length_take]; omega
    rw [if_pos (by omega), if_pos (by omega), rdL, if_pos (by simp only [List.length_nil]; omega), if_pos (by omega), wr1 i (by omega), List.nil_append]
    have e : A.take i ++ [A.getD i []] = A.take (i + 1) := by
      rw [List.take_succ_eq_append_getElem (by omega : i < A.length), List.getD_eq_getElem?_getD, List.getElem?_eq_getElem (by omega : i < A.length)]
      rfl
    rw [e]
theorem copied_f (A : List (List Int)) (h : Small A) : Ev (fun k => l5copied.f k A) A := copied_l0 A h A.length 0 (by omega)
def Like (n : Nat) (L : Nat → Nat) (p : List (List Int)) : Prop := p.length = n ∧ ∀ j, j < n → (p.getD j []).length = L j
theorem Like.set {n : Nat} {L : Nat → Nat} {p : List (List Int)} (h : Like n L p) (i : Nat) (hi : i < n) (u : List Int) (hu : u.length = L i) : Like n L (p.set i u) := by
  refine ⟨by rw [List.length_set]; exact h.1, fun j hj => ?_⟩
  have hl := h.1
  by_cases e : j = i
  · subst e
    rw [List.getD_eq_getElem?_getD, List.getElem?_set_self (by omega)]
    exact hu
  · rw [List.getD_eq_getElem?_getD, List.getElem?_set_ne (fun e2 => e e2.symm), ← List.getD_eq_getElem?_getD]
    exact h.2 j hj
theorem spoil_l1 {n : Nat} {L : Nat → Nat} (hn : n ≤ 20) (hL : ∀ j, j < n → L j ≤ 20) (i : Nat) (hi : i < n)
    (hr : ∀ q, Like n L q → Ev (fun k => l5spoil.l0 k q ((i + 1 : Nat) : Int)) 0) : ∀ d j, j + d = L i → ∀ p, Like n L p → Ev (fun k => l5spoil.l1 k p (i : Int) (j : Int)) 0 := by
  have hLi := hL i hi
  intro d
  induction d with
  | zero =>
    intro j hj p hp
    have e1 := hp.1
    have e2 := hp.2 i hi
    refine Ev.step (fun k => ?_) (hr p hp)
    simp only [l5spoil.l1]
    rw [if_pos (by omega), if_pos (by omega), rdL, if_neg (by omega), wr1 i (by omega)]
  | succ d ih =>
    intro j hj p hp
    have e1 := hp.1
    have e2 := hp.2 i hi
    refine Ev.step (fun k => ?_) (ih (j + 1) (by omega) (p.set i ((p.getD i []).set j 5)) (hp.set i hi _ (by rw [List.length_set]; exact e2)))
    simp only [l5spoil.l1]
    rw [if_pos (by omega), if_pos (by omega), rdL, if_pos (by omega), if_pos (by omega), wr1 j (by omega), toN, toN]
theorem spoil_l0 {n : Nat} {L : Nat → Nat} (hn : n ≤ 20) (hL : ∀ j, j < n → L j ≤ 20) : ∀ d i, i + d = n → ∀ p, Like n L p → Ev (fun k => l5spoil.l0 k p (i : Int)) 0 := by
  intro d
  induction d with
  | zero =>
    intro i hi p hp
    have e1 := hp.1
    refine ev_now (fun k => ?_)
    simp only [l5spoil.l0]
    rw [if_neg (by omega)]
  | succ d ih =>
    intro i hi p hp
    have e1 := hp.1
    refine Ev.step (fun k => ?_) (spoil_l1 hn hL i (by omega) (ih (i + 1) (by omega)) (L i) 0 (by omega) p hp)
    simp only [l5spoil.l0]
    rw [if_pos (by omega)]
    rfl
theorem spoil_f (p : List (List Int)) (h : Small p) : Ev (fun k => l5spoil.f k p) 0 :=
  spoil_l0 (L := fun j => (p.getD j []).length) h.1 h.2 p.length 0 (by omega) p ⟨rfl, fun _ _ => rfl⟩
theorem small_mat (n : Nat) (hn : n ≤ 6) (f : Nat → Nat → Int) : Small (mat n f) := by
  refine ⟨by rw [mat_length]; omega, fun j hj => ?_⟩
  rw [mat_length] at hj
  rw [mat_get f hj, vec_length]
  omega
theorem small_nil : Small [] := ⟨by simp, fun j hj => absurd hj (by simp)⟩
theorem mult_both (A B : List (List Int)) (ra : Rows A) (rb : Rows B) : ∃ p e, Ev (fun k => line_Multiply.f k A B) (p, e) ∧ Ev (fun k => r5Multiply.f k A B) (p, e) ∧ Small p := by
  by_cases h : ∃ n, Arg n A ∧ Arg n B
  · obtain ⟨n, hA, hB⟩ := h
    exact ⟨_, _, Multiply_ok hA hB ra rb, RMultiply_ok hA hB, small_mat n hA.six _⟩
  · exact ⟨_, _, Multiply_no h ra rb, RMultiply_no h, small_nil⟩
theorem power_both (A : List (List Int)) (ra : Rows A) (m : Int) : ∃ p e, Ev (fun k => line_Power.f k A m) (p, e) ∧ Ev (fun k => r5Power.f k A m) (p, e) ∧ Small p := by
  by_cases h : (∃ n, Arg n A) ∧ 0 ≤ m ∧ m ≤ 1048576
  · obtain ⟨⟨n, hA⟩, h0, h1⟩ := h
    obtain ⟨M, rfl⟩ := Int.eq_ofNat_of_zero_le h0
    exact ⟨_, _, Power_ok hA ra M (by omega), RPower_ok hA M (by omega), small_mat n hA.six _⟩
  · have h' : (¬ ∃ n, Arg n A) ∨ m < 0 ∨ 1048576 < m := by
      by_cases e : ∃ n, Arg n A
      · have : ¬ (0 ≤ m ∧ m ≤ 1048576) := fun q => h ⟨e, q⟩
        omega
      · exact .inl e
    exact ⟨_, _, Power_no ra m h', RPower_no m h', small_nil⟩
theorem run_both (A : List (List Int)) (ra : Rows A) (x : List Int) (hx : x.length ≤ 9223372036854775807) (m : Int) : ∃ p e, Ev (fun k => line_Run.f k A x m) (p, e) ∧ Ev (fun k => r5Run.f k A x m) (p, e) ∧ p.length ≤ 20 := by
  by_cases h : (∃ n, Arg n A ∧ Start n x) ∧ 0 ≤ m ∧ m ≤ 1048576
  · obtain ⟨⟨n, hA, hs⟩, h0, h1⟩ := h
    obtain ⟨M, rfl⟩ := Int.eq_ofNat_of_zero_le h0
    have h6 := hA.six
    rcases Run_ok hA ra M (by omega) hs with ⟨g, e⟩ | ⟨g, e⟩
    · rcases RRun_ok hA M (by omega) hs with ⟨_, e'⟩ | ⟨g', _⟩
      · exact ⟨_, _, e, e', by show (vec n _).length ≤ 20; rw [vec_length]; omega⟩
      · exact absurd g g'
    · rcases RRun_ok hA M (by omega) hs with ⟨g', _⟩ | ⟨_, e'⟩
      · exact absurd g' g
      · exact ⟨_, _, e, e', by simp⟩
  · have h' : ¬ (∃ n, Arg n A ∧ Start n x) ∨ m < 0 ∨ 1048576 < m := by
      by_cases e : ∃ n, Arg n A ∧ Start n x
      · have : ¬ (0 ≤ m ∧ m ≤ 1048576) := fun q => h ⟨e, q⟩
        omega
      · exact .inl e
    exact ⟨_, _, Run_no ra m x hx h', RRun_no m x h', by simp⟩
theorem LinePowers : ∀ (l0 : List (List Int)) (l1 : List (List Int)) (l2 : List Int) (a3 : Int), l0.length ≤ 9223372036854775807 → (∀ r ∈ l0, r.length ≤ maxLen ∧ ∀ x ∈ r, (Lit.int .i64 x).wf = true) → l1.length ≤ 9223372036854775807 → (∀ r ∈ l1, r.length ≤ maxLen ∧ ∀ x ∈ r, (Lit.int .i64 x).wf = true) → l2.length ≤ 9223372036854775807 → (∀ x ∈ l2, (Lit.int .i64 x).wf = true) → (Lit.int .i64 a3).wf = true → ∃ k, l5LinePowers.f k l0 l1 l2 a3 = some true := by
  intro A B x m hA1 _ hB1 _ hx _ _
  apply Ev.rounds
  have out : Ev (fun k => l5LinePowers.j0 k A B x m true) true := by
    refine Ev.step (f := fun k => (l5alive.f k).bind fun t => some t) (fun k => ?_) alive_last
    simp only [l5LinePowers.j0]
    exact if_pos trivial
  unfold l5LinePowers.f
  obtain ⟨fa, ea, sa⟩ := few_f A
  refine Ev.bind ea ?_
  cases fa with
  | false => exact Ev.congr (fun k => if_neg (by decide)) out
  | true =>
  refine Ev.congr (fun k => if_pos rfl) ?_
  obtain ⟨fb, eb, sb⟩ := few_f B
  refine Ev.bind eb ?_
  cases fb with
  | false => exact Ev.congr (fun k => if_neg (by decide)) out
  | true =>
  refine Ev.congr (fun k => if_pos rfl) ?_
  have sa : Small A := sa rfl
  have sb : Small B := sb rfl
  by_cases hx20 : (x.length : Int) > 20
  · rw [decide_eq_true hx20]; exact out
  rw [decide_eq_false hx20]
  obtain ⟨p1, e1, a1, b1, c1⟩ := mult_both A B sa.rows sb.rows
  obtain ⟨p2, e2, a2, b2, c2⟩ := power_both A sa.rows m
  obtain ⟨p3, e3, a3, b3, c3⟩ := run_both A sa.rows x hx m
  have last : Ev (fun k => l5LinePowers.j2 k A B x m A B x p2 false) true := by
    refine Ev.step (f := fun k => (l5spoil.f k p2).bind fun t1079 => ((line_Run.f k A x m).bind fun bt1080 => ((r5Run.f k A x m).bind fun bt1084 => (if bt1080.2 = bt1084.2 then ((l5same.f k bt1080.1 bt1084.1).bind fun t1088 => (if t1088 = true then ((l5rows.f k A A).bind fun t1089 => (if t1089 = true then ((l5rows.f k B B).bind fun t1090 => (if t1090 = true then ((l5same.f k x x).bind fun t1091 => (if t1091 = true then ((l5alive.f k).bind fun t1092 => (some t1092)) else (some false))) else (some false))) else (some false))) else (some false))) else (some false))))) (fun k => ?_) (Ev.bind (spoil_f p2 c2) (Ev.bind a3 (Ev.bind b3 (Ev.congr (fun k => if_pos rfl) (Ev.bind (same_f p3 (by omega)) (Ev.congr (fun k => if_pos rfl) (Ev.bind (rows_f A hA1 sa.rows) (Ev.congr (fun k => if_pos rfl) (Ev.bind (rows_f B hB1 sb.rows) (Ev.congr (fun k => if_pos rfl) (Ev.bind (same_f x hx) (Ev.congr (fun k => if_pos rfl) alive_last))))))))))))
    simp only [l5LinePowers.j2]
    exact if_neg (by decide)
  have mid : Ev (fun k => l5LinePowers.j1 k A B x m A B x p1 false) true := by
    refine Ev.step (f := fun k => (l5spoil.f k p1).bind fun t1069 => ((line_Power.f k A m).bind fun bt1070 => ((r5Power.f k A m).bind fun bt1074 => (if bt1070.2 = bt1074.2 then ((l5rows.f k bt1070.1 bt1074.1).bind fun t1078 => (l5LinePowers.j2 k A B x m A B x bt1070.1 (!t1078))) else (l5LinePowers.j2 k A B x m A B x bt1070.1 true))))) (fun k => ?_) (Ev.bind (spoil_f p1 c1) (Ev.bind a2 (Ev.bind b2 (Ev.congr (fun k => if_pos rfl) (Ev.bind (rows_f p2 (by have := c2.1; omega) c2.rows) last)))))
    simp only [l5LinePowers.j1]
    exact if_neg (by decide)
  refine Ev.step (f := fun k => (l5copied.f k A).bind fun t1048 => ((l5copied.f k B).bind fun t1051 => ((line_Multiply.f k t1048 t1051).bind fun bt1060 => ((r5Multiply.f k A B).bind fun bt1064 => (if bt1060.2 = bt1064.2 then ((l5rows.f k bt1060.1 bt1064.1).bind fun t1068 => (l5LinePowers.j1 k A B x m t1048 t1051 x bt1060.1 (!t1068))) else (l5LinePowers.j1 k A B x m t1048 t1051 x bt1060.1 true)))))) (fun k => ?_) (Ev.bind (copied_f A sa) (Ev.bind (copied_f B sb) (Ev.bind a1 (Ev.bind b1 (Ev.congr (fun k => if_pos rfl) (Ev.bind (rows_f p1 (by have := c1.1; omega) c1.rows) mid))))))
  simp only [l5LinePowers.j0, Option.bind_some, List.nil_append]
  rw [if_neg (by decide)]
  simp only [if_pos (by simp only [List.length_nil]; omega : ([] : List Int).length + x.length < 17592186044416)]
end Go.Proofs.Ythjmfbmffchicaa.Pure
