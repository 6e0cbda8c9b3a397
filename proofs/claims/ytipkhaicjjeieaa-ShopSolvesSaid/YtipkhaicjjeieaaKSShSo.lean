/- Walks of the shop's functions: Solve. -/
import Derived.Test.YtipkhaicjjeieaaKSShOp
import Derived.Test.YtipkhaicjjeieaaKSShU
import Derived.Test.YtipkhaicjjeieaaKSShZ
namespace Go.Proofs.Ytipkhaicjjeieaa.V
set_option linter.unusedSimpArgs false
set_option linter.unusedVariables false
open Go.RowKit Go.Proofs.YtipkhaicjjeieaaW.PrintWords Go.Proofs.YtipkhaicjjeieaaW.PrintLast Go.Proofs.YtipkhaicjjeieaaW.PrintMore
def bestF (J : List (List S40)) : Sst := goF J (tasksN J J.length) (tasksN J J.length).length 0 (S0 J (tasksN J J.length).length)
def SolvePost (w : World) (J : List (List S40)) (e : Ending) (w' : World) : Prop :=
  Below w.heap.size w w' ∧ (ofErr J ≠ 0 → e = .returned (.tuple #[.slice none 0 0, .int .i64 0, .int .i64 (ofErr J)])) ∧
    (ofErr J = 0 → ∃ v, e = .returned (.tuple #[v, .int .i64 (bestF J).least, .int .i64 0]) ∧ match (bestF J).best with
      | none => v = .slice none 0 0
      | some l => Kd.R (Kd.int .i64) 3 w' w.heap.size (fun _ => True) v l)
set_option maxHeartbeats 2000000 in
set_option maxRecDepth 100000 in
theorem shop_Solve.calls (A0 : Option Addr) (c0 : Nat) (J : List (List S40)) (w : World) (hr : Kd.C (Kd.slice 40 k40) w A0 J.length J) (hc : J.length ≤ c0) (hm : J.length ≤ 1000) :
    Calls Try.prog 15 #[.slice A0 J.length c0] w (SolvePost w J) := by
  have HR := Aside0.mk hr
  have HC := Aside0.mk hc
  clear hr hc
  by_cases he : ofErr J = 0
  · have HF := Aside0.mk (ofErr_fit he)
    have HE := Aside0.mk he
    obtain ⟨R, eR⟩ : ∃ R, R = bestF J := ⟨_, rfl⟩
    have ER := Aside0.mk eR
    clear he eR
    go_enter Try.func15, Try.ntmps15
    go_wp2_with (first
      | ((with_reducible refine (shop_of.calls A0 c0 J w HR.out HC.out hm).mono ?_); rw [HE.out]; rintro e w1 ⟨⟨p, rfl, h1, _⟩, hb1⟩; obtain ⟨g, rfl, hs⟩ := h1 rfl; have HB1 := Aside0.mk hb1; have HS1 := Aside0.mk hs; clear hb1 hs h1)
      | ((with_reducible refine (shop_optimum.calls g J w1 _ HS1.out rfl HF.out.nl HF.out.jl (fun gs gn gj gt => go_ok w1 gs gn gj gt g J _ HS1.out HF.out rfl _)).mono ?_); rw [show goF J (tasksN J J.length) (tasksN J J.length).length 0 (S0 J (tasksN J J.length).length) = R from ER.out.symm]; rintro e w2 ⟨hb2, v, rfl, hv⟩; have HB2 := Aside0.mk hb2; have HV := Aside0.mk hv; clear hb2 hv))
    go_ret3
    refine ⟨below_step HB1.out HB2.out, fun h => absurd HE.out h, fun _ => ⟨v, by rw [← ER.out]; rfl, ?_⟩⟩
    rw [← ER.out]
    have hv := HV.out
    cases hb : R.best with
    | none => rw [hb] at hv; exact hv
    | some l =>
      rw [hb] at hv
      exact Kd.R_lower hv HB1.out.size
  · obtain ⟨x, ex⟩ : ∃ x, x = ofErr J := ⟨_, rfl⟩
    rw [← ex] at he
    have d1 : (x != 0) = true := bne_iff_ne.2 he
    have EX := Aside0.mk ex
    have HE := Aside0.mk he
    clear ex he
    go_enter Try.func15, Try.ntmps15
    go_wp2_with (first
      | ((with_reducible refine (shop_of.calls A0 c0 J w HR.out HC.out hm).mono ?_); rw [← EX.out]; rintro e w1 ⟨⟨p, rfl, _, _⟩, hb1⟩; have HB1 := Aside0.mk hb1; clear hb1))
    go_ret3
    refine ⟨HB1.out, fun _ => by rw [← EX.out]; rfl, fun h => absurd (EX.out.trans h) HE.out⟩
end Go.Proofs.Ytipkhaicjjeieaa.V
