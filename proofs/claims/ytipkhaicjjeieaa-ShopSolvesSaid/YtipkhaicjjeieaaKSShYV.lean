/- The search's round in plain words. -/
import Derived.Test.YtipkhaicjjeieaaKSShYU
namespace Go.Proofs.Ytipkhaicjjeieaa.V
set_option linter.unusedSimpArgs false
set_option linter.unusedVariables false
open Go.RowKit Go.Proofs.YtipkhaicjjeieaaW.PrintWords Go.Proofs.YtipkhaicjjeieaaW.PrintLast Go.Proofs.YtipkhaicjjeieaaW.PrintMore
theorem step_eq {J : List (List S40)} {V : Int → Sst → Sst} {en : Int} {j k p mc m i fi : Nat} {Q : Sst} {r : List S40} {x : S89} {at_ : Int} (hj : j < J.length) (hk : Q.nx.getD j 0 = (k : Int)) (hr : r = J.getD j []) (hm : m = r.length) (hkm : k < m) (hi : i = m - k) (hfi : fi = (tasksN J j).length) (hp : p = (tasksN J j).length + k) (hx : x = (tasksN J J.length).getD p z89) (hmc : x.f0.f0 = (mc : Int)) (ha : at_ = mx (Q.je.getD j 0) (Q.fre.getD mc 0)) :
    stepG J (tasksN J J.length) V en j Q = if Q.best.isSome = true ∧ restF (r.drop k) at_ i > Q.least then Q else takeF Q (V (mx en (wrap64 (at_ + x.f0.f1))) (putF x j at_ Q)) j := by
  unfold stepG
  rw [hk, if_neg (by rw [← hr]; omega), firstsN_get J J.length j hj]
  have e1 : (((tasksN J j).length : Int) + (k : Int)).toNat = p := by omega
  have e2 : (k : Int).toNat = k := Int.toNat_natCast k
  have e3 : x.f0.f0.toNat = mc := by rw [hmc]; exact Int.toNat_natCast mc
  have e4 : (r.drop k).length = i := by rw [List.length_drop]; omega
  simp only
  rw [e1, ← hx, e2, e3, ← ha, ← hr, e4]
theorem gi_put {J : List (List S40)} {Q : Sst} {x : S89} {at_ : Int} {j k n : Nat} (hn : n = (tasksN J J.length).length) (hn0 : 0 < n) (hq : ∀ i, i < J.length → ∃ k : Nat, Q.nx.getD i 0 = (k : Int) ∧ k ≤ (J.getD i []).length) (hb : ∀ b, Q.best = some b → b.length = n) (hk : Q.nx.getD j 0 = (k : Int)) (hkm : k < (J.getD j []).length) : Gi J (putF x j at_ Q) := by
  refine ⟨fun i hi => ?_, fun b h => ⟨by rw [← hn]; exact hb b h, by rw [← hn]; exact hn0⟩⟩
  show ∃ k : Nat, (Q.nx.set j (Q.nx.getD j 0 + 1)).getD i 0 = (k : Int) ∧ k ≤ (J.getD i []).length
  rw [getD_set]
  by_cases h : j = i ∧ i < Q.nx.length
  · rw [if_pos h, hk]
    obtain ⟨rfl, _⟩ := h
    exact ⟨k + 1, by omega, hkm⟩
  · rw [if_neg h]
    exact hq i hi
end Go.Proofs.Ytipkhaicjjeieaa.V
