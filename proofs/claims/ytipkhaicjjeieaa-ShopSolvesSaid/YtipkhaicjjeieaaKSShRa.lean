/- The reference's search: its small functions in plain words, and what its cells hold. -/
import Derived.Test.YtipkhaicjjeieaaKSShPB
import Derived.Test.YtipkhaicjjeieaaKSf0
namespace Go.Proofs.Ytipkhaicjjeieaa.V
set_option linter.unusedSimpArgs false
set_option linter.unusedVariables false
open Go.RowKit Go.Proofs.YtipkhaicjjeieaaW.PrintWords Go.Proofs.YtipkhaicjjeieaaW.PrintLast Go.Proofs.YtipkhaicjjeieaaW.PrintMore
theorem less_l0 (a b : List Int) (hl : a.length = b.length) (ha : a.length ≤ 1000) : ∀ (k i : Nat), i + k = a.length → tinplateref06_less.l0 (k + 1) a b i = some (lessF (a.drop i) (b.drop i)) := by
  intro k
  induction k with
  | zero =>
    intro i hi
    rw [tinplateref06_less.l0, if_neg (by omega), List.drop_eq_nil_of_le (by omega : a.length ≤ i)]
    rfl
  | succ k ih =>
    intro i hi
    have hia : i < a.length := by omega
    have hib : i < b.length := by omega
    rw [tinplateref06_less.l0, if_pos (by omega), if_pos (by omega), if_pos (by omega), List.drop_eq_getElem_cons hia, List.drop_eq_getElem_cons hib]
    have e1 : rd a (i : Int) = a[i] := by simp [rd, hia]
    have e2 : rd b (i : Int) = b[i] := by simp [rd, hib]
    have e : lessF (a[i] :: a.drop (i + 1)) (b[i] :: b.drop (i + 1)) = if a[i] = b[i] then lessF (a.drop (i + 1)) (b.drop (i + 1)) else decide (a[i] < b[i]) := rfl
    rw [e1, e2, e]
    by_cases c : a[i] = b[i]
    · rw [if_pos c, if_pos c, wr64_in _ (by omega)]
      have := ih (i + 1) (by omega)
      rw [show ((i : Int) + 1) = ((i + 1 : Nat) : Int) by omega, this]
    · rw [if_neg c, if_neg c]
theorem less_f (a b : List Int) (hl : a.length = b.length) (ha : a.length ≤ 1000) : tinplateref06_less.f (a.length + 1) a b = some (lessF a b) := by
  have := less_l0 a b hl ha a.length 0 (by omega)
  simpa [tinplateref06_less.f] using this
theorem with_f (l : List Int) (i : Nat) (x : Int) (hi : i < l.length) (hl : l.length ≤ 1000) : tinplateref06_with.f l i x = some (l.set i x) := by
  unfold tinplateref06_with.f
  rw [if_pos (by simp; omega)]
  simp only [List.nil_append, Option.bind_some]
  rw [if_pos (by omega), if_pos (by omega), Int.toNat_natCast]
def RowV (w : World) (v : Value) (l : List Int) : Prop := ∃ A c, v = .slice A l.length c ∧ l.length ≤ c ∧ Kd.C (Kd.int .i64) w A l.length l
theorem RowV.below {w w1 : World} {v : Value} {l : List Int} (h : RowV w v l) (hb : Below w.heap.size w w1) : RowV w1 v l := by
  obtain ⟨A, c, e, h1, h2⟩ := h
  exact ⟨A, c, e, h1, Kd.C_below h2 hb⟩
theorem RowV.of_R {w : World} {e B : Nat} {ok : Nat → Prop} {v : Value} {l : List Int} (h : Kd.R (Kd.int .i64) e w B ok v l) : RowV w v l := Kd.R_reads h
theorem RowV.at_ {w : World} {v : Value} {l : List Int} (h : RowV w v l) {i : Nat} (hi : i < l.length) : ∃ ad c, v = .slice (some ad) l.length c ∧ l.length ≤ c ∧ Kd.C (Kd.int .i64) w (some ad) l.length l ∧ w.cell? (ad.add i) = some (.int .i64 (l.getD i 0)) := by
  obtain ⟨A, c, rfl, h1, h2⟩ := h
  obtain ⟨ad, e, h3⟩ := at_NInt h2 i hi
  subst e
  exact ⟨ad, c, rfl, h1, h2, h3⟩
theorem RowV.with_ {w : World} {v : Value} {l : List Int} (h : RowV w v l) {i : Nat} (hi : i < l.length) (hl : l.length ≤ 1000) (x : Int) {w1 : World} (hb : Below w.heap.size w w1) :
    Calls Try.prog 54 #[v, .int .i64 (i : Int), .int .i64 x] w1 fun e w' => ∃ v0 : Value, e = .returned v0 ∧ RowV w' v0 (l.set i x) ∧ Below w1.heap.size w1 w' := by
  obtain ⟨A, c, rfl, h1, h2⟩ := h
  refine (tinplateref06_with.calls A c l (i : Int) x (l.set i x) w1 (Kd.C_below h2 hb) h1 (with_f l i x hi hl)).mono ?_
  rintro e w' ⟨v0, rfl, hr, hb'⟩
  exact ⟨v0, rfl, RowV.of_R hr, hb'⟩
end Go.Proofs.Ytipkhaicjjeieaa.V
