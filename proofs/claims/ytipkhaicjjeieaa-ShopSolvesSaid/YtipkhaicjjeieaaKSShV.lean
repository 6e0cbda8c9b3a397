/- Walks of the shop's functions, twenty-second text: the search for the best schedule as a function of its lists; what its blocks hold. -/
import Derived.Test.YtipkhaicjjeieaaKSShU
import Derived.Test.YtipkhaicjjeieaaKSf0
namespace Go.Proofs.Ytipkhaicjjeieaa.V
set_option linter.unusedSimpArgs false
set_option linter.unusedVariables false
open Go.RowKit Go.Proofs.YtipkhaicjjeieaaW.PrintWords Go.Proofs.YtipkhaicjjeieaaW.PrintLast Go.Proofs.YtipkhaicjjeieaaW.PrintMore
def cmpI : List Int → List Int → Int
  | [], [] => 0
  | [], _ :: _ => -1
  | _ :: _, [] => 1
  | x :: xs, y :: ys => if x < y then -1 else if y < x then 1 else cmpI xs ys
theorem cmp1_f (x y : Int) : cmp_Compare_int.f x y = some (if x < y then -1 else if y < x then 1 else 0) := by
  unfold cmp_Compare_int.f cmp_isNaN_int.f
  by_cases h : x < y
  · simp [h]
  · by_cases h2 : y < x
    · simp [h, h2]
    · simp [h, h2]
theorem compare_l0 (a b : List Int) (ha : a.length ≤ 1000) (hb : b.length ≤ 1000) : ∀ (k i : Nat), i + k = a.length → slices_Compare_int_int.l0 (k + 1) a b a a.length i = some (cmpI (a.drop i) (b.drop i)) := by
  intro k
  induction k with
  | zero =>
    intro i hi
    rw [slices_Compare_int_int.l0, if_neg (by omega), List.drop_eq_nil_of_le (by omega : a.length ≤ i)]
    by_cases h : (a.length : Int) < b.length
    · rw [if_pos h, List.drop_eq_getElem_cons (by omega : i < b.length)]
      rfl
    · rw [if_neg h, List.drop_eq_nil_of_le (by omega : b.length ≤ i)]
      rfl
  | succ k ih =>
    intro i hi
    rw [slices_Compare_int_int.l0, if_pos (by omega), if_pos (by omega), if_pos (by omega), List.drop_eq_getElem_cons (by omega : i < a.length)]
    by_cases h : (i : Int) ≥ b.length
    · rw [if_pos h, List.drop_eq_nil_of_le (by omega : b.length ≤ i)]
      rfl
    · have hib : i < b.length := by omega
      rw [if_neg h, if_pos (by omega), List.drop_eq_getElem_cons hib, cmp1_f]
      have e1 : rd a (i : Int) = a[i] := by simp [rd, show i < a.length by omega]
      have e2 : rd b (i : Int) = b[i] := by simp [rd, hib]
      rw [e1, e2, Option.bind_some]
      by_cases c1 : a[i] < b[i]
      · rw [if_pos c1, if_neg (by decide)]
        simp [cmpI, c1]
      · by_cases c2 : b[i] < a[i]
        · rw [if_neg c1, if_pos c2, if_neg (by decide)]
          simp [cmpI, c1, c2]
        · rw [if_neg c1, if_neg c2, if_pos rfl, wr64_in _ (by omega)]
          have := ih (i + 1) (by omega)
          rw [show ((i : Int) + 1) = ((i + 1 : Nat) : Int) by omega, this]
          simp [cmpI, c1, c2]
theorem compare_f (a b : List Int) (ha : a.length ≤ 1000) (hb : b.length ≤ 1000) : slices_Compare_int_int.f (a.length + 1) a b = some (cmpI a b) := by
  have := compare_l0 a b ha hb a.length 0 (by omega)
  simpa [slices_Compare_int_int.f] using this
structure Sst where
  nx : List Int
  je : List Int
  fre : List Int
  st : List Int
  best : Option (List Int)
  least : Int
def leafF (en : Int) (S : Sst) : Sst :=
  match S.best with
  | none => { S with best := some S.st, least := en }
  | some b => if en < S.least ∨ (en = S.least ∧ cmpI S.st b < 0) then { S with best := some S.st, least := en } else S
def restF (l : List S40) (a : Int) : Nat → Int
  | 0 => a
  | k + 1 => wrap64 (restF l a k + (l.getD k z40).f1)
def putF (x : S89) (j : Nat) (a : Int) (S : Sst) : Sst :=
  { S with st := S.st.set x.f1.toNat a, je := S.je.set j (wrap64 (a + x.f0.f1)), fre := S.fre.set x.f0.f0.toNat (wrap64 (a + x.f0.f1)), nx := S.nx.set j (S.nx.getD j 0 + 1) }
def takeF (S S2 : Sst) (j : Nat) : Sst :=
  { S2 with nx := S2.nx.set j (S2.nx.getD j 0 - 1), je := S2.je.set j (S.je.getD j 0), fre := S.fre }
def stepG (J : List (List S40)) (T : List S89) (V : Int → Sst → Sst) (en : Int) (j : Nat) (S : Sst) : Sst :=
  if S.nx.getD j 0 = ((J.getD j []).length : Int) then S
  else
    let x := T.getD ((firstsN J J.length).getD j 0 + S.nx.getD j 0).toNat z89
    let a := mx (S.je.getD j 0) (S.fre.getD x.f0.f0.toNat 0)
    if S.best.isSome = true ∧ restF ((J.getD j []).drop (S.nx.getD j 0).toNat) a ((J.getD j []).drop (S.nx.getD j 0).toNat).length > S.least then S
    else takeF S (V (mx en (wrap64 (a + x.f0.f1))) (putF x j a S)) j
def loopG (J : List (List S40)) (T : List S89) (V : Int → Sst → Sst) (en : Int) (S : Sst) : Nat → Sst
  | 0 => S
  | k + 1 => stepG J T V en k (loopG J T V en S k)
def goF (J : List (List S40)) (T : List S89) : Nat → Int → Sst → Sst
  | 0, en, S => leafF en S
  | f + 1, en, S => loopG J T (goF J T f) en S J.length
def cellsS (g gn gj gt nj n : Nat) (fre : List Int) (vb : Value) (least : Int) : Array Value :=
  #[.pointer (some ⟨g, 0, none⟩), .slice (some ⟨gn, 0, none⟩) nj nj, .slice (some ⟨gj, 0, none⟩) nj nj, .int .i64 (fre.getD 0 0), .int .i64 (fre.getD 1 0), .int .i64 (fre.getD 2 0), .int .i64 (fre.getD 3 0), .slice (some ⟨gt, 0, none⟩) n n, vb, .int .i64 least]
def BestR (w0 W : World) (gs gn gj gt : Nat) (vb : Value) : Option (List Int) → Prop
  | none => vb = .slice none 0 0
  | some l => Kd.R (Kd.int .i64) 3 W w0.heap.size (fun k => k ≠ gs ∧ k ≠ gn ∧ k ≠ gj ∧ k ≠ gt) vb l
structure Srch (w0 : World) (gs gn gj gt g nj n : Nat) (W : World) (S : Sst) : Prop where
  below : Below w0.heap.size w0 W
  lo : w0.heap.size ≤ gs ∧ w0.heap.size ≤ gn ∧ w0.heap.size ≤ gj ∧ w0.heap.size ≤ gt
  ne : gs ≠ gn ∧ gs ≠ gj ∧ gs ≠ gt ∧ gn ≠ gj ∧ gn ≠ gt ∧ gj ≠ gt
  lens : S.nx.length = nj ∧ S.je.length = nj ∧ S.fre.length = 4 ∧ S.st.length = n
  bs : ∃ vb, W.heap[gs]? = some (.cells (cellsS g gn gj gt nj n S.fre vb S.least) 107 (0, 0)) ∧ BestR w0 W gs gn gj gt vb S.best
  rn : W.heap[gn]? = some (.cells (rowI S.nx) 3 (0, 0))
  rj : W.heap[gj]? = some (.cells (rowI S.je) 3 (0, 0))
  rt : W.heap[gt]? = some (.cells (rowI S.st) 3 (0, 0))
section
variable {w0 W : World} {gs gn gj gt g nj n : Nat} {S : Sst}
theorem BestR.far {vb : Value} {b : Option (List Int)} (h : BestR w0 W gs gn gj gt vb b) {p : Addr} (hp : p.block = gs ∨ p.block = gn ∨ p.block = gj ∨ p.block = gt) (u : Value) : BestR w0 (W.setCell p u) gs gn gj gt vb b := by
  cases b with
  | none => exact h
  | some l => exact Kd.R_far h (fun k hk => by omega) u
theorem BestR.below {W1 : World} {vb : Value} {b : Option (List Int)} (h : BestR w0 W gs gn gj gt vb b) (hb : Below W.heap.size W W1) : BestR w0 W1 gs gn gj gt vb b := by
  cases b with
  | none => exact h
  | some l => exact Kd.R_below h hb
theorem BestR.oneCell {vb : Value} {b : Option (List Int)} (h : BestR w0 W gs gn gj gt vb b) : ∃ A m c, vb = .slice A m c := by
  cases b with
  | none => exact ⟨none, 0, 0, h⟩
  | some l =>
    obtain ⟨A, c, e⟩ := Kd.R_slice h
    exact ⟨A, _, c, e⟩
theorem Srch.below_ {W1 : World} (h : Srch w0 gs gn gj gt g nj n W S) (hb : Below W.heap.size W W1) : Srch w0 gs gn gj gt g nj n W1 S := by
  obtain ⟨vb, b1, b2⟩ := h.bs
  exact ⟨below_step h.below hb, h.lo, h.ne, h.lens, ⟨vb, blk_below b1 hb, b2.below hb⟩, blk_below h.rn hb, blk_below h.rj hb, blk_below h.rt hb⟩
theorem Srch.alloc (h : Srch w0 gs gn gj gt g nj n W S) (o : Obj) : Srch w0 gs gn gj gt g nj n (W.alloc o) S := h.below_ (below_alloc (Below.refl _ _) o)
theorem Srch.drew (h : Srch w0 gs gn gj gt g nj n W S) : Srch w0 gs gn gj gt g nj n W.drew S := h.below_ (below_drew1 (Below.refl _ _))
theorem Srch.setNx (h : Srch w0 gs gn gj gt g nj n W S) (j : Nat) (x : Int) : Srch w0 gs gn gj gt g nj n (W.setCell ⟨gn, j, none⟩ (.int .i64 x)) { S with nx := S.nx.set j x } := by
  obtain ⟨vb, b1, b2⟩ := h.bs
  have ne := h.ne
  refine ⟨h.below.setCell h.lo.2.1 _, h.lo, h.ne, by simpa using h.lens, ⟨vb, blk_far b1 (by simp; omega) _, b2.far (by simp) _⟩, ?_, blk_far h.rj (by simp; omega) _, blk_far h.rt (by simp; omega) _⟩
  rw [← rowI_set]
  exact blk_set h.rn _ _
theorem Srch.setJe (h : Srch w0 gs gn gj gt g nj n W S) (j : Nat) (x : Int) : Srch w0 gs gn gj gt g nj n (W.setCell ⟨gj, j, none⟩ (.int .i64 x)) { S with je := S.je.set j x } := by
  obtain ⟨vb, b1, b2⟩ := h.bs
  have ne := h.ne
  refine ⟨h.below.setCell h.lo.2.2.1 _, h.lo, h.ne, by simpa using h.lens, ⟨vb, blk_far b1 (by simp; omega) _, b2.far (by simp) _⟩, blk_far h.rn (by simp; omega) _, ?_, blk_far h.rt (by simp; omega) _⟩
  rw [← rowI_set]
  exact blk_set h.rj _ _
theorem Srch.setSt (h : Srch w0 gs gn gj gt g nj n W S) (j : Nat) (x : Int) : Srch w0 gs gn gj gt g nj n (W.setCell ⟨gt, j, none⟩ (.int .i64 x)) { S with st := S.st.set j x } := by
  obtain ⟨vb, b1, b2⟩ := h.bs
  have ne := h.ne
  refine ⟨h.below.setCell h.lo.2.2.2 _, h.lo, h.ne, by simpa using h.lens, ⟨vb, blk_far b1 (by simp; omega) _, b2.far (by simp) _⟩, blk_far h.rn (by simp; omega) _, blk_far h.rj (by simp; omega) _, ?_⟩
  rw [← rowI_set]
  exact blk_set h.rt _ _
theorem getD_set4 (l : List Int) (m : Nat) (x : Int) (hl : l.length = 4) : ∀ i, i < 4 → (l.set m x).getD i 0 = if m = i then x else l.getD i 0 := by
  intro i hi
  rw [getD_set]
  by_cases h : m = i
  · rw [if_pos ⟨h, by omega⟩, if_pos h]
  · rw [if_neg (fun q => h q.1), if_neg h]
theorem Srch.setFre (h : Srch w0 gs gn gj gt g nj n W S) (m : Nat) (hm : m < 4) (x : Int) : Srch w0 gs gn gj gt g nj n (W.setCell ⟨gs, 3 + m, none⟩ (.int .i64 x)) { S with fre := S.fre.set m x } := by
  obtain ⟨vb, b1, b2⟩ := h.bs
  have ne := h.ne
  refine ⟨h.below.setCell h.lo.1 _, h.lo, h.ne, by simpa using h.lens, ⟨vb, ?_, b2.far (by simp) _⟩, blk_far h.rn (by simp; omega) _, blk_far h.rj (by simp; omega) _, blk_far h.rt (by simp; omega) _⟩
  refine blk_put b1 (3 + m) _ ?_
  have h4 := getD_set4 S.fre m x h.lens.2.2.1
  unfold cellsS
  simp only [h4 0 (by omega), h4 1 (by omega), h4 2 (by omega), h4 3 (by omega)]
  have : m = 0 ∨ m = 1 ∨ m = 2 ∨ m = 3 := by omega
  rcases this with rfl | rfl | rfl | rfl <;> rfl
theorem Srch.fre (h : Srch w0 gs gn gj gt g nj n W S) (m : Nat) (hm : m < 4) : W.cell? ⟨gs, 3 + m, none⟩ = some (.int .i64 (S.fre.getD m 0)) := by
  obtain ⟨vb, b1, b2⟩ := h.bs
  have : m = 0 ∨ m = 1 ∨ m = 2 ∨ m = 3 := by omega
  rcases this with rfl | rfl | rfl | rfl
  · exact (blk_cell b1 3).trans rfl
  · exact (blk_cell b1 4).trans rfl
  · exact (blk_cell b1 5).trans rfl
  · exact (blk_cell b1 6).trans rfl
theorem Srch.cells (h : Srch w0 gs gn gj gt g nj n W S) : W.cell? ⟨gs, 0, none⟩ = some (.pointer (some ⟨g, 0, none⟩)) ∧ W.cell? ⟨gs, 1, none⟩ = some (.slice (some ⟨gn, 0, none⟩) nj nj) ∧ W.cell? ⟨gs, 2, none⟩ = some (.slice (some ⟨gj, 0, none⟩) nj nj) ∧ W.cell? ⟨gs, 7, none⟩ = some (.slice (some ⟨gt, 0, none⟩) n n) ∧ W.cell? ⟨gs, 9, none⟩ = some (.int .i64 S.least) := by
  obtain ⟨vb, b1, b2⟩ := h.bs
  exact ⟨(blk_cell b1 0).trans rfl, (blk_cell b1 1).trans rfl, (blk_cell b1 2).trans rfl, (blk_cell b1 7).trans rfl, (blk_cell b1 9).trans rfl⟩
theorem Srch.frozen (h : Srch w0 gs gn gj gt g nj n W S) (i : Nat) : W.frozen? ⟨gs, i, none⟩ = false := by
  obtain ⟨vb, b1, b2⟩ := h.bs
  exact blk_frozen b1 i
theorem Srch.nx_ (h : Srch w0 gs gn gj gt g nj n W S) {j : Nat} (hj : j < nj) : W.cell? ⟨gn, j, none⟩ = some (.int .i64 (S.nx.getD j 0)) := (blk_cell h.rn j).trans (rowI_get S.nx j (by rw [h.lens.1]; exact hj))
theorem Srch.je_ (h : Srch w0 gs gn gj gt g nj n W S) {j : Nat} (hj : j < nj) : W.cell? ⟨gj, j, none⟩ = some (.int .i64 (S.je.getD j 0)) := (blk_cell h.rj j).trans (rowI_get S.je j (by rw [h.lens.2.1]; exact hj))
theorem Srch.st_ (h : Srch w0 gs gn gj gt g nj n W S) {j : Nat} (hj : j < n) : W.cell? ⟨gt, j, none⟩ = some (.int .i64 (S.st.getD j 0)) := (blk_cell h.rt j).trans (rowI_get S.st j (by rw [h.lens.2.2.2]; exact hj))
end
end Go.Proofs.Ytipkhaicjjeieaa.V
