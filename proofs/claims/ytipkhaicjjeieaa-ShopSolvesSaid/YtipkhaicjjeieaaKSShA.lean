/- Walks of the shop's functions, first text: what is wrong with a task, and whether one of a list is. -/
import Derived.Test.YtipkhaicjjeieaaKSf0
namespace Go.Proofs.Ytipkhaicjjeieaa.V
open Go.RowKit Go.Proofs.YtipkhaicjjeieaaW.PrintWords Go.Proofs.YtipkhaicjjeieaaW.PrintLast Go.Proofs.YtipkhaicjjeieaaW.PrintMore
theorem at_N89 {w : World} {A : Option Addr} {n : Nat} {xs : List S89} (h : Kd.C k89 w A n xs) (j : Nat) (h1 : j < n) : ∃ ad x, A = some ad ∧ x = xs.getD j z89 ∧ w.cell? (ad.add (j * 5)) = some (.int .i64 x.f0.f0) ∧ w.cell? ⟨(ad.add (j * 5)).block, (ad.add (j * 5)).off + 1, none⟩ = some (.int .i64 x.f0.f1) ∧
    w.cell? ⟨(ad.add (j * 5)).block, (ad.add (j * 5)).off + 2, none⟩ = some (.int .i64 x.f1) ∧ w.cell? ⟨(ad.add (j * 5)).block, (ad.add (j * 5)).off + 3, none⟩ = some (.int .i64 x.f2) ∧ w.cell? ⟨(ad.add (j * 5)).block, (ad.add (j * 5)).off + 4, none⟩ = some (.int .i64 x.f3) := by
  obtain ⟨ad, e, h⟩ := at_T89 h (j : Int) (by omega) (by omega)
  exact ⟨ad, _, e, rfl, h⟩
def badT (m t : Int) : Bool := decide (m < 0) || (decide (m > 3) || (decide (t < 1) || decide (t > 50)))
def S89.bad (x : S89) : Bool := badT x.f0.f0 x.f0.f1
set_option maxRecDepth 100000 in
theorem shop_of_1.calls (x : S89) (w : World) : Calls Try.prog 52 #[.agg #[.int .i64 x.f0.f0, .int .i64 x.f0.f1, .int .i64 x.f1, .int .i64 x.f2, .int .i64 x.f3]] w fun e w' => e = .returned (.bool x.bad) ∧ Below w.heap.size w w' := by
  obtain ⟨⟨m, t⟩, no, job, at_⟩ := x
  cases d1 : decide (m < 0) <;> cases d2 : decide (m > 3) <;> cases d3 : decide (t < 1) <;> cases d4 : decide (t > 50) <;>
  (go_enter Try.func52, Try.ntmps52
   go_wp2
   go_ret
   exact ⟨by simp only [S89.bad, badT, d1, d2, d3, d4]; rfl, by repeat (first | exact Below.refl _ _ | apply below_alloc)⟩)
set_option maxRecDepth 100000 in
theorem IndexFunc_of_1.calls (A : Option Addr) (c : Nat) (l : List S89) (w : World) (hr : Kd.C k89 w A l.length l) (hc : l.length ≤ c) (hm : l.length ≤ 1000) :
    Calls Try.prog 67 #[.slice A l.length c, .func (.func 52) #[] #[]] w fun e w' => (∃ r : Int, e = .returned (.int .i64 r) ∧ (0 ≤ r ↔ l.any S89.bad = true)) ∧ Below w.heap.size w w' := by
  have HR := Aside0.mk hr
  have HC := Aside0.mk hc
  clear hr hc
  obtain ⟨n, hn⟩ : ∃ n, n = l.length := ⟨_, rfl⟩
  rw [← hn] at HR HC ⊢
  have HN := Aside0.mk hn
  rw [← hn] at hm
  clear hn
  go_enter Try.func67, Try.ntmps67
  go_wp2
  go_loopw [8] (fun i wr => ∃ k : Nat, k ≤ n ∧ i = .int .i64 k ∧ Aside0 (∀ j, j < k → (l.getD j z89).bad = false) ∧ Aside0 (Below w.heap.size w wr)) (fun i _ => n - (intOf i).toNat)
  case atStart => exact ⟨0, Nat.zero_le _, rfl, ⟨fun j hj => absurd hj (by omega)⟩, ⟨Below.refl _ _⟩⟩
  case round =>
    obtain ⟨k, hk, rfl, HF, HB⟩ := hrel
    by_cases hlt : k < n
    · obtain ⟨ad, x, e1, hx, h0, h1, h2, h3, h4⟩ := at_N89 (Kd.C_below HR.out HB.out) k hlt
      cases e1
      have HX := Aside0.mk hx
      clear hx
      cases hb : x.bad
      · have HBD := Aside0.mk hb
        go_wp2_with (first | ((with_reducible refine (shop_of_1.calls x _).mono ?_); rw [HBD.out]; rintro e w1 ⟨rfl, hb1⟩; have HB1 := Aside0.mk hb1; clear hb1))
        refine ⟨⟨k + 1, by omega, rfl, ⟨fun j hj => ?_⟩, ⟨below_then HB.out (below_size HB.out) HB1.out⟩⟩, by simp [intOf]; omega⟩
        by_cases e : j = k
        · rw [e, ← HX.out]; exact HBD.out
        · exact HF.out j (by omega)
      · have HBD := Aside0.mk hb
        go_wp2_with (first | ((with_reducible refine (shop_of_1.calls x _).mono ?_); rw [HBD.out]; rintro e w1 ⟨rfl, hb1⟩; have HB1 := Aside0.mk hb1; clear hb1))
        go_ret
        refine ⟨⟨(k : Int), rfl, fun _ => ?_, fun _ => by omega⟩, below_then HB.out (below_size HB.out) HB1.out⟩
        rw [List.any_eq_true]
        refine ⟨x, ?_, HBD.out⟩
        have hl := HN.out
        rw [HX.out, List.getD_eq_getElem?_getD, List.getElem?_eq_getElem (by omega)]
        exact List.getElem_mem _
    · go_wp2
      go_ret
      refine ⟨⟨-1, rfl, fun h => absurd h (by decide), fun h => ?_⟩, HB.out⟩
      rw [List.any_eq_true] at h
      obtain ⟨x, hx, hb⟩ := h
      obtain ⟨j, hj, rfl⟩ := List.getElem_of_mem hx
      have hl := HN.out
      have := HF.out j (by omega)
      rw [List.getD_eq_getElem?_getD, List.getElem?_eq_getElem hj] at this
      have this : l[j].bad = false := this
      rw [this] at hb
      cases hb
set_option maxRecDepth 100000 in
theorem ContainsFunc_of_1.calls (A : Option Addr) (c : Nat) (l : List S89) (w : World) (hr : Kd.C k89 w A l.length l) (hc : l.length ≤ c) (hm : l.length ≤ 1000) :
    Calls Try.prog 51 #[.slice A l.length c, .func (.func 52) #[] #[]] w fun e w' => e = .returned (.bool (l.any S89.bad)) ∧ Below w.heap.size w w' := by
  have HR := Aside0.mk hr
  clear hr
  go_enter Try.func51, Try.ntmps51
  go_wp2_with (first | ((with_reducible refine (IndexFunc_of_1.calls A c l _ HR.out hc hm).mono ?_); rintro e w1 ⟨⟨r, rfl, hi⟩, hb1⟩; have HB1 := Aside0.mk hb1; have HI := Aside0.mk hi; clear hb1 hi))
  go_ret
  refine ⟨?_, HB1.out⟩
  have h := HI.out
  cases hb : l.any S89.bad with
  | true => simp [h.2 hb]
  | false =>
    have : ¬ 0 ≤ r := fun h0 => by have := h.1 h0; rw [hb] at this; cases this
    simp [this]
end Go.Proofs.Ytipkhaicjjeieaa.V
