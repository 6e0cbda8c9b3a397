/- Walks of the shop's functions, twenty-first text: Check. -/
import Derived.Test.YtipkhaicjjeieaaKSShT
import Derived.Test.YtipkhaicjjeieaaKSf0
namespace Go.Proofs.Ytipkhaicjjeieaa.V
set_option linter.unusedSimpArgs false
set_option linter.unusedVariables false
open Go.RowKit Go.Proofs.YtipkhaicjjeieaaW.PrintWords Go.Proofs.YtipkhaicjjeieaaW.PrintLast Go.Proofs.YtipkhaicjjeieaaW.PrintMore
def limB (n : Int) : Bool := decide (0 ≤ n ∧ n ≤ 10000)
def checkF (J : List (List S40)) (lim : Int) (l : List S38) : Option (Bool × Int) :=
  if ofErr J ≠ 0 then some (false, ofErr J) else if limB lim = false then some (false, 2) else if l.length > 65535 then some (false, 3)
  else match readF (tasksN J J.length) lim (l.length + 1) (natN (tasksN J J.length) (tasksN J J.length).length) l with
    | none => none
    | some (b, l') => some (b && l'.isEmpty, 0)
theorem limited_f (n : Int) : shop_limited.f n = some (limB n) := by
  unfold shop_limited.f limB
  by_cases h : n ≥ 0
  · rw [if_pos h]
    congr 1
    exact decide_eq_decide.2 ⟨fun h1 => ⟨h, h1⟩, fun h1 => h1.2⟩
  · rw [if_neg h]
    congr 1
    exact (decide_eq_false (fun h1 => h h1.1)).symm
theorem ofErr_ok {J : List (List S40)} (h : ofErr J = 0) : (tasksN J J.length).length ≤ 10 ∧ ∀ x, 0 ≤ timeT (tasksN J J.length) x ∧ timeT (tasksN J J.length) x ≤ 1000 := by
  unfold ofErr at h
  split at h
  · cases h
  split at h
  · cases h
  split at h
  · cases h
  rename_i h3
  split at h
  · cases h
  rename_i h4
  refine ⟨by omega, fun x => ?_⟩
  unfold timeT
  by_cases hx : x < (tasksN J J.length).length
  · have hb : ((tasksN J J.length)[x]).bad = false := by
      have := List.any_eq_false.1 (Bool.eq_false_iff.2 h4) _ (List.getElem_mem hx)
      simpa using this
    rw [List.getD_eq_getElem?_getD, List.getElem?_eq_getElem hx, Option.getD_some]
    unfold S89.bad badT at hb
    simp only [Bool.or_eq_false_iff, decide_eq_false_iff_not] at hb
    omega
  · rw [List.getD_eq_getElem?_getD, List.getElem?_eq_none (by omega)]
    decide
set_option maxHeartbeats 2000000 in
set_option maxRecDepth 100000 in
theorem shop_Check.calls (A0 : Option Addr) (c0 : Nat) (J : List (List S40)) (lim : Int) (A1 : Option Addr) (c1 : Nat) (l : List S38) (r : Bool × Int) (w : World) (hr : Kd.C (Kd.slice 40 k40) w A0 J.length J) (hc : J.length ≤ c0) (hm : J.length ≤ 1000)
    (hr1 : Kd.C k38 w A1 l.length l) (hc1 : l.length ≤ c1) (hsz : ∀ nd ∈ l, nd.f3.length ≤ 1000) (hf : checkF J lim l = some r) :
    Calls Try.prog 20 #[.slice A0 J.length c0, .int .i64 lim, .slice A1 l.length c1] w fun e w' => e = .returned (.tuple #[.bool r.1, .int .i64 r.2]) ∧ Below w.heap.size w w' := by
  have HR := Aside0.mk hr
  have HC := Aside0.mk hc
  have HR1 := Aside0.mk hr1
  have HC1 := Aside0.mk hc1
  have HSZ := Aside0.mk hsz
  have HF := Aside0.mk hf
  obtain ⟨m, em⟩ : ∃ m, m = l.length := ⟨_, rfl⟩
  have EM := Aside0.mk em
  rw [← em] at HR1 HC1 ⊢
  clear hr hc hr1 hc1 hsz hf em
  by_cases he : ofErr J = 0
  · obtain ⟨hn, ht⟩ := ofErr_ok he
    have HT := Aside0.mk ht
    have HE := Aside0.mk he
    clear ht he
    cases hl : limB lim
    · have HL := Aside0.mk hl
      obtain rfl : (false, (2 : Int)) = r := by
        have h := HF.out
        unfold checkF at h
        rw [if_neg (fun h2 => h2 HE.out), if_pos hl] at h
        exact Option.some.inj h
      have hlim := fun V => shop_limited.calls lim false V (by rw [limited_f, hl])
      have HLM := Aside0.mk hlim
      clear hl hlim
      go_enter Try.func20, Try.ntmps20
      go_wp2_with (first
        | ((with_reducible refine (shop_of.calls A0 c0 J w HR.out HC.out hm).mono ?_); rw [HE.out]; rintro e w1 ⟨⟨p, rfl, h1, _⟩, hb1⟩; obtain ⟨g, rfl, hs⟩ := h1 rfl; have HB1 := Aside0.mk hb1; have HS1 := Aside0.mk hs; clear hb1 hs h1)
        | ((with_reducible refine (HLM.out w1).mono ?_); rintro e w2 ⟨rfl, hb2⟩; have HB2 := Aside0.mk hb2; clear hb2))
      go_ret2
      exact ⟨rfl, below_step HB1.out HB2.out.below⟩
    · have HL := Aside0.mk hl
      have hlim := fun V => shop_limited.calls lim true V (by rw [limited_f, hl])
      have HLM := Aside0.mk hlim
      clear hlim
      by_cases hx : m > 65535
      · obtain rfl : (false, (3 : Int)) = r := by
          have h := HF.out
          unfold checkF at h
          rw [if_neg (fun h2 => h2 HE.out), if_neg (by rw [hl]; simp), if_pos (by rw [← EM.out]; exact hx)] at h
          exact Option.some.inj h
        have d1 : decide ((m : Int) > 65535) = true := decide_eq_true (by omega)
        clear hl hx
        go_enter Try.func20, Try.ntmps20
        go_wp2_with (first
          | ((with_reducible refine (shop_of.calls A0 c0 J w HR.out HC.out hm).mono ?_); rw [HE.out]; rintro e w1 ⟨⟨p, rfl, h1, _⟩, hb1⟩; obtain ⟨g, rfl, hs⟩ := h1 rfl; have HB1 := Aside0.mk hb1; have HS1 := Aside0.mk hs; clear hb1 hs h1)
          | ((with_reducible refine (HLM.out w1).mono ?_); rintro e w2 ⟨rfl, hb2⟩; have HB2 := Aside0.mk hb2; clear hb2))
        go_ret2
        exact ⟨rfl, below_step HB1.out HB2.out.below⟩
      · obtain ⟨b, l', hrd, rfl⟩ : ∃ b l', readF (tasksN J J.length) lim (l.length + 1) (natN (tasksN J J.length) (tasksN J J.length).length) l = some (b, l') ∧ (b && l'.isEmpty, (0 : Int)) = r := by
          have h := HF.out
          unfold checkF at h
          rw [if_neg (fun h2 => h2 HE.out), if_neg (by rw [hl]; simp), if_neg (by rw [← EM.out]; exact hx)] at h
          cases e : readF (tasksN J J.length) lim (l.length + 1) (natN (tasksN J J.length) (tasksN J J.length).length) l with
          | none => rw [e] at h; cases h
          | some q => rw [e] at h; exact ⟨q.1, q.2, rfl, Option.some.inj h⟩
        have HRD := Aside0.mk hrd
        have d1 : decide ((m : Int) > 65535) = false := decide_eq_false (by omega)
        clear hl hx hrd
        cases b with
        | false =>
          go_enter Try.func20, Try.ntmps20
          go_wp2_with (first
            | ((with_reducible refine (shop_of.calls A0 c0 J w HR.out HC.out hm).mono ?_); rw [HE.out]; rintro e w1 ⟨⟨p, rfl, h1, _⟩, hb1⟩; obtain ⟨g, rfl, hs⟩ := h1 rfl; have HB1 := Aside0.mk hb1; have HS1 := Aside0.mk hs; clear hb1 hs h1)
            | ((with_reducible refine (HLM.out w1).mono ?_); rintro e w2 ⟨rfl, hb2⟩; have HB2 := Aside0.mk hb2; have HS2 := Aside0.mk (IsShop.below HS1.out hb2.below); clear hb2)
            | ((with_reducible refine (shop_natural.calls g J _ (IsShop.below HS2.out (below_alloc (Below.refl _ _) _)) hn).mono ?_); rintro e w3 ⟨⟨o, rfl, ho⟩, hb3⟩; have HO := Aside0.mk ho; have HB3 := Aside0.mk hb3; have hrd := read_ok w2 w2.heap.size g lim J HS2.out (Nat.le_refl _) hn HT.out (l.length + 1) (natN (tasksN J J.length) (tasksN J J.length).length) o l l' false w3 HO.out (below_step (below_alloc (Below.refl _ _) _) hb3) ⟨A1, c1, (by rw [← EM.out]; exact blk_below (blk_new w2 _) hb3), (by rw [← EM.out]; exact Kd.C_below HR1.out (below_step HB1.out HB2.out.below)), (by rw [← EM.out]; exact HC1.out)⟩ HSZ.out HRD.out; have HRC := Aside0.mk hrd; clear ho hb3 hrd)
            | ((with_reducible refine HRC.out.mono ?_); rintro e w4 ⟨rfl, hb4, _, hl4⟩; have HB4 := Aside0.mk hb4; clear hb4 hl4))
          go_ret2
          exact ⟨rfl, below_step (below_step HB1.out HB2.out.below) HB4.out⟩
        | true =>
          go_enter Try.func20, Try.ntmps20
          go_wp2_with (first
            | ((with_reducible refine (shop_of.calls A0 c0 J w HR.out HC.out hm).mono ?_); rw [HE.out]; rintro e w1 ⟨⟨p, rfl, h1, _⟩, hb1⟩; obtain ⟨g, rfl, hs⟩ := h1 rfl; have HB1 := Aside0.mk hb1; have HS1 := Aside0.mk hs; clear hb1 hs h1)
            | ((with_reducible refine (HLM.out w1).mono ?_); rintro e w2 ⟨rfl, hb2⟩; have HB2 := Aside0.mk hb2; have HS2 := Aside0.mk (IsShop.below HS1.out hb2.below); clear hb2)
            | ((with_reducible refine (shop_natural.calls g J _ (IsShop.below HS2.out (below_alloc (Below.refl _ _) _)) hn).mono ?_); rintro e w3 ⟨⟨o, rfl, ho⟩, hb3⟩; have HO := Aside0.mk ho; have HB3 := Aside0.mk hb3; have hrd := read_ok w2 w2.heap.size g lim J HS2.out (Nat.le_refl _) hn HT.out (l.length + 1) (natN (tasksN J J.length) (tasksN J J.length).length) o l l' true w3 HO.out (below_step (below_alloc (Below.refl _ _) _) hb3) ⟨A1, c1, (by rw [← EM.out]; exact blk_below (blk_new w2 _) hb3), (by rw [← EM.out]; exact Kd.C_below HR1.out (below_step HB1.out HB2.out.below)), (by rw [← EM.out]; exact HC1.out)⟩ HSZ.out HRD.out; have HRC := Aside0.mk hrd; clear ho hb3 hrd)
            | ((with_reducible refine HRC.out.mono ?_); rintro e w4 ⟨rfl, hb4, _, A4, c4, hl4, _, _⟩; have HB4 := Aside0.mk hb4; have q4 := (blk_cell hl4 1).trans rfl; clear hb4 hl4))
          go_ret2
          refine ⟨?_, below_step (below_step HB1.out HB2.out.below) HB4.out⟩
          cases l' with
          | nil => rfl
          | cons x y =>
            have e0 : (((x :: y).length : Int) == 0) = false := beq_eq_false_iff_ne.2 (by simp only [List.length_cons]; omega)
            first | rw [e0]; rfl | rfl
  · obtain rfl : (false, ofErr J) = r := by
      have h := HF.out
      unfold checkF at h
      rw [if_pos he] at h
      exact Option.some.inj h
    obtain ⟨x, ex⟩ : ∃ x, x = ofErr J := ⟨_, rfl⟩
    rw [← ex] at he ⊢
    have d1 : (x != 0) = true := bne_iff_ne.2 he
    have EX := Aside0.mk ex
    clear ex he
    go_enter Try.func20, Try.ntmps20
    go_wp2_with (first
      | ((with_reducible refine (shop_of.calls A0 c0 J w HR.out HC.out hm).mono ?_); rw [← EX.out]; rintro e w1 ⟨⟨p, rfl, _, _⟩, hb1⟩; have HB1 := Aside0.mk hb1; clear hb1))
    go_ret2
    exact ⟨rfl, HB1.out⟩
end Go.Proofs.Ytipkhaicjjeieaa.V
