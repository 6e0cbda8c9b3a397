/- The plain statement of the law LineRepeats: whatever the lists and numbers, the printed law's function comes to true. No condition but that the numbers are of their kinds. -/
import Derived.Test.YthjmfbmffchicaaKRf6
import Derived.Test.YthjmfbmffchicaaKRRefC
import Derived.Test.YthjmfbmffchicaaKRRefN
import Derived.Test.YthjmfbmffchicaaKRAlive
import Derived.OpenShut
namespace Go.Proofs.Ythjmfbmffchicaa.Pure
open Go.RowKit Go.Proofs.Ythjmfbmffchicaa.V Go.Proofs.YthjmfbmffchicaaW.PrintWords Go.Proofs.YthjmfbmffchicaaW.PrintLast
open Go.Proofs.Ythjmfbmffchicaa.Mp
theorem alive_repeats : Ev (fun k => (l5alive.f k).bind fun t => some t) true := Ev.bind alive_ev (Ev.now true)
theorem Connected_f {n : Nat} {A : List (List Int)} (hA : Arg n A) (ra : Rows A) : ∃ b, Ev (fun k => line_Connected.f k A) (b, 0) ∧ (b = true ↔ Conn n (ent A)) := by
  have eo := ((of_f A ra).resolve_right (fun h => h.1 ⟨n, hA⟩)).2
  obtain ⟨b, hb, hbi⟩ := connected_f hA
  rw [conn_iff hA.six] at hbi
  refine ⟨b, ?_, hbi⟩
  unfold line_Connected.f
  exact Ev.bind eo (Ev.congr (fun k => if_pos rfl) (Ev.bind hb (Ev.now _)))
theorem Connected_no {A : List (List Int)} (ra : Rows A) (h : ¬ ∃ n, Arg n A) : Ev (fun k => line_Connected.f k A) (false, 2) := by
  have eo := ((of_f A ra).resolve_left (fun h2 => h h2.1)).2
  unfold line_Connected.f
  exact Ev.bind eo (ev_some fun k => if_neg (by decide))
theorem Speed_f {n : Nat} {A : List (List Int)} (hA : Arg n A) (ra : Rows A) {x y : Int} {b : Bool} (ep : Ev (fun k => lgpace.f k A) (x, y, b)) : Ev (fun k => line_Speed.f k A) (if b = true then (x, y, 0) else (0, 0, 10)) := by
  have eo := ((of_f A ra).resolve_right (fun h => h.1 ⟨n, hA⟩)).2
  unfold line_Speed.f
  refine Ev.bind eo (Ev.congr (fun k => if_pos rfl) (Ev.bind ep (ev_some fun k => ?_)))
  cases b <;> rfl
section
variable {n : Nat} {A : List (List Int)} {num den : Int}
theorem repeats_l1 (hn : n ≤ 6) {f g : Nat → Nat → Int} {M : Int} (hg : BdM n n M g) (hM : 0 ≤ M) (hM2 : M ≤ 1000000000000000) (x2 add : Int) (h0 : den ≠ 0) (hadd : wrap64 (Int.tdiv (wrap64 (x2 * num)) den) = add) (ab : -360000 ≤ add ∧ add ≤ 360000) (i : Nat) (hi : i < n)
    (hr : ∃ b, Ev (fun k => l5repeats.l0 k x2 (mat n g) (mat n f) ((i + 1 : Nat) : Int) num den) b ∧ (b = true ↔ ∀ p q, i + 1 ≤ p → p < n → q < n → f p q = addf add (g p q))) : ∀ d j, j + d = n →
    ∃ b, Ev (fun k => l5repeats.l1 k x2 (mat n g) (mat n f) (i : Int) (j : Int) num den) b ∧ (b = true ↔ (∀ q, j ≤ q → q < n → f i q = addf add (g i q)) ∧ ∀ p q, i + 1 ≤ p → p < n → q < n → f p q = addf add (g p q)) := by
  intro d
  have l1 : (mat n f).length = n := mat_length _ _
  have l2 : (mat n g).length = n := mat_length _ _
  have l3 : ((mat n f).getD i []).length = n := by rw [mat_get _ hi, vec_length]
  have l4 : ((mat n g).getD i []).length = n := by rw [mat_get _ hi, vec_length]
  induction d with
  | zero =>
    intro j hj
    obtain ⟨b, hb, hbi⟩ := hr
    refine ⟨b, Ev.step (fun k => ?_) hb, ?_⟩
    · simp only [l5repeats.l1]
      rw [if_neg (by omega), wr1 i (by omega)]
    · rw [hbi]
      exact ⟨fun h => ⟨fun q h1 h2 => by omega, h⟩, fun h => h.2⟩
  | succ d ih =>
    intro j hj
    have hj' : j < n := by omega
    have v1 : ((mat n f).getD i []).getD j 0 = f i j := ent_mat _ hi hj'
    have v2 : ((mat n g).getD i []).getD j 0 = g i j := ent_mat _ hi hj'
    have ep : l5plus.f (g i j) add = some (addf add (g i j)) := by
      rw [plus_f (M := M) (N := 360000) (hg i j hi hj') (.inr ab) (by omega) hM (by omega)]
      unfold addf pl NEV
      by_cases e : g i j = -1152921504606846976
      · rw [if_pos e, if_pos e]
      · rw [if_neg e, if_neg e, if_neg (by omega)]
    obtain ⟨b, hb, hbi⟩ := ih (j + 1) (by omega)
    have step : ∀ k, l5repeats.l1 (k + 1) x2 (mat n g) (mat n f) (i : Int) (j : Int) num den = if f i j = addf add (g i j) then l5repeats.l1 k x2 (mat n g) (mat n f) (i : Int) ((j + 1 : Nat) : Int) num den else some false := fun k => by
      simp only [l5repeats.l1]
      rw [if_pos (by omega), if_pos (by omega), if_pos (by omega), if_pos (by omega), rdL, if_pos (by omega), if_pos (by omega), rdL, if_pos (by omega), if_neg h0, rdI, rdI, v1, v2, hadd, ep, wr1 j (by omega)]
      rfl
    by_cases e : f i j = addf add (g i j)
    · refine ⟨b, Ev.step (fun k => (step k).trans (if_pos e)) hb, ?_⟩
      rw [hbi]
      constructor
      · rintro ⟨h1, h2⟩
        refine ⟨fun q h3 h4 => ?_, h2⟩
        by_cases e2 : q = j
        · subst e2; exact e
        · exact h1 q (by omega) h4
      · rintro ⟨h1, h2⟩
        exact ⟨fun q h3 h4 => h1 q (by omega) h4, h2⟩
    · exact ⟨false, ev_now fun k => (step k).trans (if_neg e), fun h => absurd h (by decide), fun h => absurd (h.1 j (by omega) hj') e⟩
theorem repeats_l0 (hn : n ≤ 6) {f g : Nat → Nat → Int} {M : Int} (hg : BdM n n M g) (hM : 0 ≤ M) (hM2 : M ≤ 1000000000000000) (x2 add : Int) (h0 : den ≠ 0) (hadd : wrap64 (Int.tdiv (wrap64 (x2 * num)) den) = add) (ab : -360000 ≤ add ∧ add ≤ 360000) : ∀ d i, i + d = n →
    ∃ b, Ev (fun k => l5repeats.l0 k x2 (mat n g) (mat n f) (i : Int) num den) b ∧ (b = true ↔ ∀ p q, i ≤ p → p < n → q < n → f p q = addf add (g p q)) := by
  have l2 : (mat n g).length = n := mat_length _ _
  intro d
  induction d with
  | zero =>
    intro i hi
    refine ⟨true, ev_now fun k => ?_, fun _ p q h1 h2 => by omega, fun _ => rfl⟩
    simp only [l5repeats.l0]
    rw [if_neg (by omega)]
  | succ d ih =>
    intro i hi
    obtain ⟨b, hb, hbi⟩ := repeats_l1 hn hg hM hM2 x2 add h0 hadd ab i (by omega) (ih (i + 1) (by omega)) n 0 (by omega)
    refine ⟨b, Ev.step (fun k => ?_) hb, ?_⟩
    · simp only [l5repeats.l0]
      rw [if_pos (by omega)]
      rfl
    · rw [hbi]
      constructor
      · rintro ⟨h1, h2⟩ p q h3 h4 h5
        by_cases e : p = i
        · subst e; exact h1 q (by omega) h5
        · exact h2 p q (by omega) h4 h5
      · intro h
        exact ⟨fun q _ h2 => h i q (by omega) (by omega) h2, fun p q h1 h2 h3 => h p q (by omega) h2 h3⟩
theorem repeats_f (hA : Arg n A) (ra : Rows A) {B : Nat → Nat → Prop} (ht : Top n (ent A) B num den) (m x : Nat) (hm : m ≤ 100000) (hx : x ≤ 60) :
    ∃ b, Ev (fun k => l5repeats.f k A (m : Int) (x : Int) num den) b ∧ (b = true ↔ den ∣ num * (x : Nat) ∧ Rep n (slackf num den (ent A)) m x) := by
  have h6 := hA.six
  have d0 := ht.den0
  have nb : -360000 ≤ num * (x : Nat) ∧ num * (x : Nat) ≤ 360000 := by
    have m1 := Int.mul_le_mul_of_nonneg_right ht.lo (by omega : (0 : Int) ≤ (x : Nat))
    have m2 := Int.mul_le_mul_of_nonneg_right ht.hi (by omega : (0 : Int) ≤ (x : Nat))
    omega
  have ew : wrap64 ((x : Int) * num) = num * (x : Nat) := by rw [Int.mul_comm, wr (by omega) (by omega)]
  have e1 := Power_ok hA ra m (by omega)
  have e2 := Power_ok hA ra (m + x) (by omega)
  have body : ∀ {b : Bool}, Ev (fun k => l5repeats.j0 k (x : Int) (mat n (powf n (ent A) m)) (mat n (powf n (ent A) (m + x))) ((Int.tmod (num * (x : Nat)) den) != 0) num den) b → Ev (fun k => l5repeats.f k A (m : Int) (x : Int) num den) b := by
    intro b hb
    unfold l5repeats.f
    refine Ev.bind e1 (Ev.congr (f := fun k => (line_Power.f k A ((m + x : Nat) : Int)).bind fun bt => if (0 : Int) = 0 then (if bt.2 = 0 then ((l5square.f k (mat n (powf n (ent A) m)) (n : Int)).bind fun t => if t = true then ((l5square.f k bt.1 (n : Int)).bind fun t => if t = true then (if den = 0 then none else l5repeats.j0 k (x : Int) (mat n (powf n (ent A) m)) bt.1 ((Int.tmod (num * (x : Nat)) den) != 0) num den) else l5repeats.j0 k (x : Int) (mat n (powf n (ent A) m)) bt.1 true num den) else l5repeats.j0 k (x : Int) (mat n (powf n (ent A) m)) bt.1 true num den) else l5repeats.j0 k (x : Int) (mat n (powf n (ent A) m)) bt.1 true num den) else l5repeats.j0 k (x : Int) (mat n (powf n (ent A) m)) bt.1 true num den) (fun k => ?_) ?_)
    · rw [ew, show wrap64 ((m : Int) + (x : Int)) = ((m + x : Nat) : Int) by rw [wr (by omega) (by omega)]; omega, hA.is.1]
    · exact Ev.bind e2 (Ev.congr (fun k => if_pos rfl) (Ev.congr (fun k => if_pos rfl) (Ev.bind (square_f (by omega) (isMat_mat n _)) (Ev.congr (fun k => if_pos rfl) (Ev.bind (square_f (by omega) (isMat_mat n _)) (Ev.congr (fun k => if_pos rfl) (Ev.congr (fun k => if_neg (by omega)) hb)))))))
  by_cases hd : den ∣ num * (x : Nat)
  · obtain ⟨w, hw⟩ := hd
    have nw : -360000 ≤ w ∧ w ≤ 360000 := by
      have d6 := ht.den6
      have : den = 1 ∨ den = 2 ∨ den = 3 ∨ den = 4 ∨ den = 5 ∨ den = 6 := by omega
      rcases this with rfl | rfl | rfl | rfl | rfl | rfl <;> omega
    have eadd : wrap64 (Int.tdiv (wrap64 ((x : Int) * num)) den) = w := by
      rw [ew, hw, Int.mul_tdiv_cancel_left _ (by omega : den ≠ 0), wr (by omega) (by omega)]
    obtain ⟨b, hb, hbi⟩ := repeats_l0 (f := powf n (ent A) (m + x)) h6 (BdM.pow hA.bd m) (by omega) (by omega) (x : Int) w (by omega) eadd nw n 0 (by omega)
    refine ⟨b, body (Ev.step (fun k => ?_) hb), ?_⟩
    · simp only [l5repeats.j0]
      rw [hw, Int.mul_tmod_right, if_neg (by decide)]
      rfl
    · rw [hbi, rep_iff hA.bd ht (by omega) hw.symm]
      exact ⟨fun h => ⟨⟨w, hw⟩, fun i j hi hj => h i j (by omega) hi hj⟩, fun h p q _ hp hq => h.2 p q hp hq⟩
  · refine ⟨false, body (ev_now fun k => ?_), fun h => absurd h (by decide), fun h => absurd h.1 hd⟩
    simp only [l5repeats.j0]
    rw [if_pos]
    rw [bne_iff_ne]
    exact fun h => hd (Int.dvd_of_tmod_eq_zero h)
theorem LineRepeats_l0 (hA : Arg n A) (ra : Rows A) {c m : Nat} (h : RegIs n (ent A) num den c m) (hc : c ≤ 60) (hm : m ≤ 20000) : ∀ d x, x + d = c → 1 ≤ x → Ev (fun k => l5LineRepeats.l0 k A (c : Int) (m : Int) (x : Int) num den) true := by
  intro d
  induction d with
  | zero =>
    intro x hx h1
    refine Ev.step (fun k => ?_) alive_repeats
    simp only [l5LineRepeats.l0]
    rw [if_neg (by omega)]
  | succ d ih =>
    intro x hx h1
    obtain ⟨b, hb, hbi⟩ := repeats_f hA ra h.top m x (by omega) (by omega)
    have hf : ¬ b = true := fun e => by
      have := rep_div hA.six (slack_bd hA.bd h.top) (slack_nopos hA.six hA.bd h.top) h.per (by omega) (by omega) (hbi.1 e).2
      have := Nat.le_of_dvd (by omega) this
      omega
    refine Ev.step (f := fun k => (l5repeats.f k A (m : Int) (x : Int) num den).bind fun t => if t = true then some false else l5LineRepeats.l0 k A (c : Int) (m : Int) ((x + 1 : Nat) : Int) num den) (fun k => ?_) (Ev.bind hb (Ev.congr (fun k => if_neg hf) (ih (x + 1) (by omega) (by omega))))
    simp only [l5LineRepeats.l0]
    rw [if_pos (by omega), wr1 x (by omega)]
end
theorem LineRepeats : ∀ (l0 : List (List Int)) (a1 : Int), l0.length ≤ 9223372036854775807 → (∀ r ∈ l0, r.length ≤ maxLen ∧ ∀ x ∈ r, (Lit.int .i64 x).wf = true) → (Lit.int .u8 a1).wf = true → ∃ k, l5LineRepeats.f k l0 a1 = some true := by
  intro A a1 hA1 hA2 w1
  have b1 : 0 ≤ a1 ∧ a1 ≤ 255 := bounds_u8 w1
  have ra : Rows A := by
    intro i hi
    have e : A.getD i [] = A[i] := by simp [List.getD_eq_getElem?_getD, List.getElem?_eq_getElem hi]
    rw [e]
    have := (hA2 A[i] (List.getElem_mem hi)).1
    unfold maxLen at this
    omega
  apply Ev.rounds
  unfold l5LineRepeats.f
  obtain ⟨fa, ea, _⟩ := few_f A
  refine Ev.bind ea ?_
  cases fa with
  | false => exact Ev.congr (fun k => if_neg (by decide)) alive_repeats
  | true =>
  refine Ev.congr (fun k => if_pos rfl) ?_
  by_cases hA : ∃ n, Arg n A
  · obtain ⟨n, hA⟩ := hA
    have h6 := hA.six
    obtain ⟨b, eb, hbi⟩ := Connected_f hA ra
    rcases Regime_f hA ra with ⟨hno, er⟩ | ⟨num, den, ht, ep, ⟨hnc, er⟩ | ⟨c, m, h, er⟩⟩
    · have es : Ev (fun k => line_Speed.f k A) (0, 0, 10) := by
        rcases Eigen_f hA ra with ⟨_, _, e2⟩ | ⟨num, den, ht, _⟩
        · exact e2
        · obtain ⟨k, i, hS, hne, _⟩ := ht.att
          exact absurd (hno k i hS) hne
      refine Ev.bind er (Ev.bind es (Ev.bind eb ?_))
      exact Ev.congr (fun k => if_neg (show ¬ (10 : Int) = 0 by decide)) (Ev.congr (fun k => if_neg (show ¬ (10 : Int) = 2 by decide)) (Ev.congr (fun k => if_pos rfl) (Ev.congr (fun k => if_pos rfl) alive_repeats)))
    · have es := Speed_f hA ra ep
      rw [if_pos rfl] at es
      have hb : b = false := Bool.eq_false_iff.2 fun e => hnc (hbi.1 e)
      subst hb
      refine Ev.bind er (Ev.bind es (Ev.bind eb ?_))
      exact Ev.congr (fun k => if_neg (show ¬ (10 : Int) = 0 by decide)) (Ev.congr (fun k => if_neg (show ¬ (10 : Int) = 2 by decide)) (Ev.congr (fun k => if_pos rfl) (Ev.congr (fun k => if_neg (show ¬ (0 : Int) = 10 by decide)) (Ev.congr (fun k => if_pos rfl) (Ev.congr (fun k => if_neg (show ¬ false = true by decide)) alive_repeats)))))
    · have es := Speed_f hA ra ep
      rw [if_pos rfl] at es
      have hb : b = true := hbi.2 h.conn
      subst hb
      have ok := slack_ok hA.one h6 hA.bd ht
      have ht' := h.top
      have d0 := ht'.den0
      have hc60 := Nat.le_of_dvd (by omega) (per_60 ok h.per)
      have hc1 := h.per.pos
      obtain ⟨w, hw⟩ := per_den hA.bd ht' h.per
      have ew : wrap64 ((c : Int) * num) = den * (num * w) := by
        have m1 := Int.mul_le_mul_of_nonneg_right ht'.lo (by omega : (0 : Int) ≤ (c : Nat))
        have m2 := Int.mul_le_mul_of_nonneg_right ht'.hi (by omega : (0 : Int) ≤ (c : Nat))
        rw [Int.mul_comm (c : Int) num, wr (x := num * (c : Nat)) (by omega) (by omega), hw, Int.mul_left_comm]
      have dv : den ∣ num * (c : Nat) := ⟨num * w, by rw [hw, Int.mul_left_comm]⟩
      have main : Ev (fun k => l5LineRepeats.j0 k A a1 (c : Int) (m : Int) false num den) true := by
        by_cases hm : m > 20000
        · refine Ev.step (fun k => ?_) alive_repeats
          simp only [l5LineRepeats.j0]
          rw [if_neg (by decide), if_pos (by omega)]
        · obtain ⟨t, rfl⟩ : ∃ t : Nat, a1 = (t : Int) := ⟨a1.toNat, by omega⟩
          obtain ⟨b1', r1, i1⟩ := repeats_f hA ra ht' (m + t) c (by omega) hc60
          obtain ⟨b2', r2, i2⟩ := repeats_f hA ra ht' m c (by omega) hc60
          have t1 := i1.2 ⟨dv, h.rep.later t⟩
          have t2 := i2.2 ⟨dv, h.rep⟩
          have last : Ev (fun k => l5LineRepeats.j1 k A (c : Int) (m : Int) false num den) true := by
            refine Ev.step (fun k => ?_) (LineRepeats_l0 hA ra h hc60 (by omega) (c - 1) 1 (by omega) (by omega))
            simp only [l5LineRepeats.j1]
            rw [if_neg (by decide)]
            rfl
          refine Ev.step (f := fun k => (l5repeats.f k A ((m + t : Nat) : Int) (c : Int) num den).bind fun u => if u = true then ((l5repeats.f k A (m : Int) (c : Int) num den).bind fun u => if u = true then (if (m : Int) > 0 then ((l5repeats.f k A (wrap64 ((m : Int) - 1)) (c : Int) num den).bind fun u => l5LineRepeats.j1 k A (c : Int) (m : Int) u num den) else l5LineRepeats.j1 k A (c : Int) (m : Int) false num den) else l5LineRepeats.j1 k A (c : Int) (m : Int) true num den) else l5LineRepeats.j1 k A (c : Int) (m : Int) true num den) (fun k => ?_) (Ev.bind r1 (Ev.congr (fun k => if_pos t1) (Ev.bind r2 (Ev.congr (fun k => if_pos t2) ?_))))
          · simp only [l5LineRepeats.j0]
            rw [if_neg (by decide), if_neg (by omega), wr (x := (t : Int)) (by omega) (by omega), show wrap64 ((m : Int) + (t : Int)) = ((m + t : Nat) : Int) by rw [wr (by omega) (by omega)]; omega]
          · by_cases m0 : m = 0
            · subst m0
              exact Ev.congr (fun k => if_neg (by decide)) last
            · obtain ⟨b3, r3, i3⟩ := repeats_f hA ra ht' (m - 1) c (by omega) hc60
              have f3 : b3 = false := Bool.eq_false_iff.2 fun e => h.min (m - 1) (by omega) (i3.1 e).2
              subst f3
              have em : wrap64 ((m : Int) - 1) = ((m - 1 : Nat) : Int) := by rw [wr (by omega) (by omega)]; omega
              refine Ev.congr (f := fun k => (l5repeats.f k A ((m - 1 : Nat) : Int) (c : Int) num den).bind fun u => l5LineRepeats.j1 k A (c : Int) (m : Int) u num den) (fun k => ?_) (Ev.bind r3 last)
              rw [if_pos (by omega), em]
      refine Ev.bind er (Ev.bind es (Ev.bind eb ?_))
      refine Ev.congr (fun k => if_pos rfl) (Ev.congr (fun k => if_pos rfl) (Ev.congr (fun k => if_pos rfl) (Ev.congr (fun k => if_pos rfl) (Ev.congr (fun k => if_neg (show ¬ (c : Int) < 1 by omega)) (Ev.congr (fun k => if_neg (show ¬ (m : Int) < 0 by omega)) (Ev.congr (fun k => if_neg (show ¬ (c : Int) > 60 by omega)) (Ev.congr (fun k => if_neg (show ¬ den < 1 by omega)) (Ev.congr (fun k => if_neg (show ¬ den = 0 by omega)) (Ev.congr (fun k => ?_) main)))))))))
      show l5LineRepeats.j0 k A a1 (c : Int) (m : Int) ((Int.tmod (wrap64 ((c : Int) * num)) den) != 0) num den = _
      rw [ew, Int.mul_tmod_right]
      rfl
  · have er := Regime_no ra hA
    have es := (Eigen_no ra hA).2
    have eb := Connected_no ra hA
    refine Ev.bind er (Ev.bind es (Ev.bind eb ?_))
    exact Ev.congr (fun k => if_neg (show ¬ (2 : Int) = 0 by decide)) (Ev.congr (fun k => if_pos rfl) (Ev.congr (fun k => if_pos rfl) (Ev.congr (fun k => if_pos rfl) alive_repeats)))
end Go.Proofs.Ythjmfbmffchicaa.Pure
