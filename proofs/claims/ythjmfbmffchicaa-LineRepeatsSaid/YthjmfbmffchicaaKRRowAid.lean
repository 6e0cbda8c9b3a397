/- From the row's reading of an argument to what the walks ask: a list of rows of ints reads as a list of lists. -/
import Derived.Deep.Matrix
import Derived.ProofKit
import Derived.Test.YthjmfbmffchicaaKRWWords
namespace Go.Proofs.YthjmfbmffchicaaW.PrintWords
open Go.RowKit Go.Deep
section
variable {H : Type} {enc : TypeId × Value → H} {P : Program} {W : World} {base : Nat} {held : Bool}
theorem reads_int_rows {t e q : TypeId} (ht : P.underlying t = some (.slice e)) (he : P.underlying e = some (.slice q)) (hq : P.underlying q = some (.int .i64))
    (ce : P.cellsOf e = 1) (cq : P.cellsOf q = 1) {a : Option Addr} {len cap : Nat} {d : DataW H} {ps : List MemPlace}
    (h : DataW.Trod enc P W base (fun _ => true) held t (.slice a len cap) d ps) :
    ∃ l : List (List Int), len = l.length ∧ Kd.C (Kd.slice q (Kd.int .i64)) W a l.length l ∧ l.length ≤ cap ∧ ∀ r ∈ l, r.length ≤ maxLen ∧ ∀ x ∈ r, (Lit.int .i64 x).wf = true := by
  obtain ⟨fuel, hf⟩ := h
  rcases open_int_rows ht he hq ce cq hf with ⟨hcs, _⟩ | ⟨b, n, c, A, L, C, Z, hcs, _, hl, hm, _, hr⟩
  · simp [Value.cells] at hcs
    obtain ⟨rfl, rfl, rfl⟩ := hcs
    exact ⟨[], rfl, ⟨rfl, Nat.zero_le _, fun hn => absurd hn (by simp)⟩, Nat.zero_le _, fun r hr => by cases hr⟩
  · simp [Value.cells] at hcs
    obtain ⟨rfl, rfl, rfl⟩ := hcs
    have hlen : ((List.range len).map fun r => (Z r).take (L r)).length = len := by simp
    refine ⟨(List.range len).map fun r => (Z r).take (L r), hlen.symm, ?_, by omega, ?_⟩
    · rw [hlen]
      refine ⟨hlen, by unfold maxLen at hm; omega, fun hn => ⟨b, rfl, fun j p hj => ?_⟩⟩
      have hj2 : j < len := by
        have := (List.getElem?_eq_some_iff.1 hj).1
        simpa using this
      obtain ⟨h1, h2, h3, h4, h5, h6, h7⟩ := hr j (by omega)
      have hp : p = (Z j).take (L j) := by
        rw [List.getElem?_map, List.getElem?_range hj2] at hj
        simpa using hj.symm
      have hpl : p.length = L j := by rw [hp, List.length_take, h4]; omega
      refine ⟨[.slice (A j) (L j) (C j)], rfl, ⟨A j, C j, by rw [hpl], by omega, ?_⟩, fun i u hu => ?_⟩
      · refine ⟨rfl, by unfold maxLen at h3; omega, fun hn' => ?_⟩
        have hA : A j ≠ none := fun e => by have := h6 e; omega
        obtain ⟨a', ha'⟩ := Option.ne_none_iff_exists'.1 hA
        refine ⟨a', ha', fun i x hx => ⟨[.int .i64 x], rfl, rfl, fun i' u hu => ?_⟩⟩
        obtain ⟨hi, hx'⟩ := List.getElem?_eq_some_iff.1 hx
        cases i' with
        | zero =>
          simp at hu
          subst hu
          have hc := (h7 a' ha').2 i (by omega)
          show W.cell? (a'.add (i * (Kd.int .i64).sz + 0)) = _
          rw [show i * (Kd.int .i64).sz + 0 = i from by show i * 1 + 0 = i; omega, hc]
          congr 2
          subst hp
          rw [List.getElem_take] at hx'
          rw [← hx', List.getD_eq_getElem?_getD, List.getElem?_eq_getElem (by omega)]
          rfl
        | succ i' => simp at hu
      · cases i with
        | zero =>
          simp at hu
          subst hu
          show W.cell? (b.add (j * (Kd.slice q (Kd.int .i64)).sz + 0)) = _
          rw [show j * (Kd.slice q (Kd.int .i64)).sz + 0 = j from by show j * 1 + 0 = j; omega]
          exact h1
        | succ i => simp at hu
    · intro r hr'
      obtain ⟨j, hj, rfl⟩ := List.mem_map.1 hr'
      have hj2 : j < len := by simpa using hj
      obtain ⟨h1, h2, h3, h4, h5, h6, h7⟩ := hr j (by omega)
      exact ⟨by rw [List.length_take, h4]; omega, fun x hx => h5 x (List.mem_of_mem_take hx)⟩
end
end Go.Proofs.YthjmfbmffchicaaW.PrintWords
