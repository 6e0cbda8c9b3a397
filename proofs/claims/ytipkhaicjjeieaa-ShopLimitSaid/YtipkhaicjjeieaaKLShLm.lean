/- Walks of the shop's functions: the statement on the number of a proof's nodes (ShopLimit). -/
import Derived.Test.YtipkhaicjjeieaaKLShAl
import Derived.Deep.MidRow
namespace Go.Proofs.Ytipkhaicjjeieaa.V
set_option linter.unusedSimpArgs false
set_option linter.unusedVariables false
open Go.RowKit Go.Proofs.YtipkhaicjjeieaaW.PrintWords Go.Proofs.YtipkhaicjjeieaaW.PrintLast Go.Proofs.YtipkhaicjjeieaaW.PrintMore
def nd1 : S38 := ⟨1, 0, 0, [0]⟩
def J1 : List (List S40) := [[⟨1, 5⟩]]
theorem err_J1 : ofErr J1 = 0 := by decide +kernel
theorem read_nd1 (lim : Int) (f : Nat) (rest : List S38) : readF (tasksN J1 J1.length) lim (f + 1) (natN (tasksN J1 J1.length) (tasksN J1 J1.length).length) (nd1 :: rest) = some (decide (5 > lim), rest) := by
  have e : chainB (tasksN J1 J1.length) (natN (tasksN J1 J1.length) (tasksN J1 J1.length).length) lim [0] = decide (5 > lim) := by
    have h1 : okN (tasksN J1 J1.length) (natN (tasksN J1 J1.length) (tasksN J1 J1.length).length) [0] 1 = true := by decide +kernel
    have h2 : twN [0] 1 = false := by decide +kernel
    have h3 : smN (tasksN J1 J1.length) [0] 1 = 5 := by decide +kernel
    unfold chainB
    show (okN _ _ [0] 1 && (decide (0 < 1) && (twN [0] 1 || decide (smN _ [0] 1 > lim)))) = _
    rw [h1, h2, h3]
    simp
  rw [readF, if_neg (by decide), if_pos (by rfl)]
  show some (chainB _ _ lim [0], rest) = _
  rw [e]
theorem check_arg {lim : Int} (h : limB lim = false) (l : List S38) : checkF J1 lim l = some (false, 2) := by
  unfold checkF
  rw [if_neg (fun q => q err_J1), if_pos h]
theorem check_many {lim : Int} (h : limB lim = true) {l : List S38} (hl : l.length > 65535) : checkF J1 lim l = some (false, 3) := by
  unfold checkF
  rw [if_neg (fun q => q err_J1), if_neg (by rw [h]; decide), if_pos hl]
theorem check_all {lim : Int} (h : limB lim = true) {n : Nat} (hn : n + 2 ≤ 65535) : checkF J1 lim (List.replicate (n + 2) nd1) = some (false, 0) := by
  unfold checkF
  rw [if_neg (fun q => q err_J1), if_neg (by rw [h]; decide), if_neg (by simp; omega), List.replicate_succ, read_nd1]
  simp [List.replicate_succ]
theorem check_one {lim : Int} (h : limB lim = true) : checkF J1 lim [nd1] = some (decide (lim < 5), 0) := by
  unfold checkF
  rw [if_neg (fun q => q err_J1), if_neg (by rw [h]; decide), if_neg (by simp), read_nd1]
  simp
structure Pf (w0 w : World) (P n i : Nat) : Prop where
  below : Below w0.heap.size w0 w
  lo : w0.heap.size ≤ P
  blk : ∃ cs, w.heap[P]? = some (.cells cs 38 (0, 0)) ∧ cs.size = n * 4 ∧ ∀ t, t < i → ∃ b, b ≠ P ∧ w.heap[b]? = some (.cells (rowI [0]) 3 (0, 0)) ∧ cs[t * 4]? = some (.int .i64 1) ∧ cs[t * 4 + 1]? = some (.int .i64 0) ∧ cs[t * 4 + 2]? = some (.int .i64 0) ∧ cs[t * 4 + 3]? = some (.slice (some ⟨b, 0, none⟩) 1 1)
section
variable {w0 w : World} {P n i : Nat}
theorem Pf.below_ {w1 : World} (h : Pf w0 w P n i) (hb : Below w.heap.size w w1) : Pf w0 w1 P n i := by
  obtain ⟨cs, h1, h2, h3⟩ := h.blk
  refine ⟨below_step h.below hb, h.lo, cs, blk_below h1 hb, h2, fun t ht => ?_⟩
  obtain ⟨b, q1, q2, q3⟩ := h3 t ht
  exact ⟨b, q1, blk_below q2 hb, q3⟩
theorem Pf.there (h : Pf w0 w P n i) (hi : i < n) : w.there P (i * 4) 4 := by
  obtain ⟨cs, h1, h2, _⟩ := h.blk
  intro j hj
  refine ⟨?_, blk_frozen h1 _⟩
  have := blk_cell h1 (i * 4 + j)
  rw [this, Array.getElem?_eq_getElem (by omega)]
  rfl
theorem Pf.put (h : Pf w0 w P n i) (hi : i < n) {b : Nat} (hb : b ≠ P) (hr : w.heap[b]? = some (.cells (rowI [0]) 3 (0, 0))) : Pf w0 (w.setCells P (i * 4) [.int .i64 1, .int .i64 0, .int .i64 0, .slice (some ⟨b, 0, none⟩) 1 1]) P n (i + 1) := by
  obtain ⟨cs, h1, h2, h3⟩ := h.blk
  have e : w.setCells P (i * 4) [.int .i64 1, .int .i64 0, .int .i64 0, .slice (some ⟨b, 0, none⟩) 1 1] = (((w.setCell ⟨P, i * 4, none⟩ (.int .i64 1)).setCell ⟨P, i * 4 + 1, none⟩ (.int .i64 0)).setCell ⟨P, i * 4 + 1 + 1, none⟩ (.int .i64 0)).setCell ⟨P, i * 4 + 1 + 1 + 1, none⟩ (.slice (some ⟨b, 0, none⟩) 1 1) := rfl
  rw [e]
  have far : ∀ k, k ≠ P → w.heap[k]? = some (.cells (rowI [0]) 3 (0, 0)) → ((((w.setCell ⟨P, i * 4, none⟩ (.int .i64 1)).setCell ⟨P, i * 4 + 1, none⟩ (.int .i64 0)).setCell ⟨P, i * 4 + 1 + 1, none⟩ (.int .i64 0)).setCell ⟨P, i * 4 + 1 + 1 + 1, none⟩ (.slice (some ⟨b, 0, none⟩) 1 1)).heap[k]? = some (.cells (rowI [0]) 3 (0, 0)) := fun k hk hq => blk_far (blk_far (blk_far (blk_far hq hk _) hk _) hk _) hk _
  refine ⟨(((h.below.setCell h.lo _).setCell h.lo _).setCell h.lo _).setCell h.lo _, h.lo, _, blk_set (blk_set (blk_set (blk_set h1 _ _) _ _) _ _) _ _, by simp [h2], fun t ht => ?_⟩
  by_cases ht2 : t = i
  · subst ht2
    refine ⟨b, hb, far b hb hr, ?_, ?_, ?_, ?_⟩
    · rw [Array.getElem?_setIfInBounds_ne (by omega), Array.getElem?_setIfInBounds_ne (by omega), Array.getElem?_setIfInBounds_ne (by omega), Array.getElem?_setIfInBounds_self_of_lt (by omega)]
    · rw [Array.getElem?_setIfInBounds_ne (by omega), Array.getElem?_setIfInBounds_ne (by omega), Array.getElem?_setIfInBounds_self_of_lt (by simp only [Array.size_setIfInBounds]; omega)]
    · rw [Array.getElem?_setIfInBounds_ne (by omega), Array.getElem?_setIfInBounds_self_of_lt (by simp only [Array.size_setIfInBounds]; omega)]
    · rw [Array.getElem?_setIfInBounds_self_of_lt (by simp only [Array.size_setIfInBounds]; omega)]
  · obtain ⟨b2, q1, q2, q3, q4, q5, q6⟩ := h3 t (by omega)
    refine ⟨b2, q1, far b2 q1 q2, ?_, ?_, ?_, ?_⟩
    · rw [Array.getElem?_setIfInBounds_ne (by omega), Array.getElem?_setIfInBounds_ne (by omega), Array.getElem?_setIfInBounds_ne (by omega), Array.getElem?_setIfInBounds_ne (by omega)]
      exact q3
    · rw [Array.getElem?_setIfInBounds_ne (by omega), Array.getElem?_setIfInBounds_ne (by omega), Array.getElem?_setIfInBounds_ne (by omega), Array.getElem?_setIfInBounds_ne (by omega)]
      exact q4
    · rw [Array.getElem?_setIfInBounds_ne (by omega), Array.getElem?_setIfInBounds_ne (by omega), Array.getElem?_setIfInBounds_ne (by omega), Array.getElem?_setIfInBounds_ne (by omega)]
      exact q5
    · rw [Array.getElem?_setIfInBounds_ne (by omega), Array.getElem?_setIfInBounds_ne (by omega), Array.getElem?_setIfInBounds_ne (by omega), Array.getElem?_setIfInBounds_ne (by omega)]
      exact q6
theorem Pf.C (h : Pf w0 w P n n) (hn : n ≤ 70000) (m : Nat) (hm : m ≤ n) : Kd.C k38 w (some ⟨P, 0, none⟩) (List.replicate m nd1).length (List.replicate m nd1) := by
  obtain ⟨cs, h1, h2, h3⟩ := h.blk
  rw [List.length_replicate]
  refine ⟨List.length_replicate, by omega, fun _ => ⟨_, rfl, fun j p hp => ?_⟩⟩
  rw [List.getElem?_replicate] at hp
  split at hp
  · cases hp
    rename_i hj
    obtain ⟨b, q1, q2, q3, q4, q5, q6⟩ := h3 j (by omega)
    refine ⟨_, rfl, k38_mk w nd1 (A3 := some ⟨b, 0, none⟩) (c3 := 1) (by decide) (C_row q2 (by decide)), fun i u hu => ?_⟩
    rw [add_plain]
    refine (blk_cell h1 _).trans ?_
    match i, hu with
    | 0, hu => exact q3.trans hu
    | 1, hu => exact q4.trans hu
    | 2, hu => exact q5.trans hu
    | 3, hu => exact q6.trans hu
  · cases hp
end
theorem info38z : (Try.prog.info? 38).map (fun i => (i.zero, i.size, i.bytes)) = some (some (.agg #[.int .i64 0, .int .i64 0, .int .i64 0, .slice none 0 0]), 4, 48) := by kernel_rfl
theorem info38s : (Try.prog.info? 38).map (·.size) = some 4 := by kernel_rfl
theorem run_makeP (W : World) (n : Nat) (hn : n ≤ 70000) (ev : Operand → Value) (o : Oper) (x y : Operand) (ho : o.op = .makeSlice 32 x y) (hx : ev x = .int .i64 n) (hy : ev y = .int .i64 n) :
    (execOp ev o).run Try.prog W = .ok (.value (.slice (some ⟨W.heap.size, 0, none⟩) n n)) (W.alloc (.cells (madeCells #[.int .i64 0, .int .i64 0, .int .i64 0, .slice none 0 0] (n * 4)) 38)) := by
  obtain ⟨i0, hi, hzz⟩ := Option.map_eq_some_iff.1 info38z
  simp only [Prod.mk.injEq] at hzz
  obtain ⟨hz0, hz1, hz2⟩ := hzz
  have hr := run_make (P := Try.prog) W 32 38 i0 _ Try.underlying32 hi hz0 .i64 .i64 (n : Int) (n : Int) (by omega) (by omega) (by rw [hz2]; omega) (by omega)
  rw [hz1, Int.toNat_natCast] at hr
  simp only [execOp, ho, hx, hy]
  simp [hr, Value.cells]
theorem Pf.start {w0 w : World} (h : Below w0.heap.size w0 w) (n : Nat) : Pf w0 (w.alloc (.cells (madeCells #[.int .i64 0, .int .i64 0, .int .i64 0, .slice none 0 0] (n * 4)) 38)) w.heap.size n 0 :=
  ⟨below_alloc h _, h.size, _, blk_new w _, by simp [madeCells], fun t ht => by omega⟩
def wK (w : World) : World := (w.alloc (Obj.cells #[.int .i64 1, .int .i64 5] 40)).alloc (Obj.cells #[.slice (some ⟨w.heap.size, 0, none⟩) 1 1] 41)
theorem wK_below (w : World) : Below w.heap.size w (wK w) := below_alloc (below_alloc (Below.refl _ _) _) _
theorem wK_C (w : World) : Kd.C (Kd.slice 40 k40) (wK w) (some ⟨w.heap.size + 1, 0, none⟩) J1.length J1 := by
  have b0 : (wK w).heap[w.heap.size]? = some (.cells #[.int .i64 1, .int .i64 5] 40 (0, 0)) := blk_alloc (blk_new w _) _
  have b1 : (wK w).heap[w.heap.size + 1]? = some (.cells #[.slice (some ⟨w.heap.size, 0, none⟩) 1 1] 41 (0, 0)) := by
    have h := blk_new (w.alloc (Obj.cells #[.int .i64 1, .int .i64 5] 40)) (Obj.cells #[.slice (some ⟨w.heap.size, 0, none⟩) 1 1] 41)
    rw [show (w.alloc (Obj.cells #[.int .i64 1, .int .i64 5] 40)).heap.size = w.heap.size + 1 by simp] at h
    exact h
  have r0 : k40.C (wK w) (some ⟨w.heap.size, 0, none⟩) 1 [⟨1, 5⟩] := C_lit (xs := [⟨1, 5⟩]) k40 b0 (fun j p hp => by
    match j, hp with
    | 0, hp =>
      cases hp
      refine ⟨_, k40_mk (wK w) _, fun i u hu => ?_⟩
      match i, hu with
      | 0, hu => exact hu
      | 1, hu => exact hu) (by simp)
  refine C_lit (Kd.slice 40 k40) b1 (fun j p hp => ?_) (by decide)
  match j, hp with
  | 0, hp =>
    cases hp
    refine ⟨_, ⟨some ⟨w.heap.size, 0, none⟩, 1, rfl, by decide, r0⟩, fun i u hu => ?_⟩
    match i, hu with
    | 0, hu => exact hu
theorem Pf.check {w0 w : World} {P n : Nat} (h : Pf w0 w P n n) (hn : n ≤ 70000) (m : Nat) (hm : m ≤ n) (lim : Int) (r : Bool × Int) (hr : checkF J1 lim (List.replicate m nd1) = some r) (w1 : World) (hb : Below w.heap.size w w1) (A : Option Addr) (hA : Kd.C (Kd.slice 40 k40) w1 A J1.length J1) :
    Calls Try.prog 20 #[.slice A 1 1, .int .i64 lim, .slice (some ⟨P, 0, none⟩) m n] w1 fun e w' => e = .returned (.tuple #[.bool r.1, .int .i64 r.2]) ∧ Below w1.heap.size w1 w' := by
  have hc := (h.below_ hb).C hn m hm
  have h2 := shop_Check.calls A 1 J1 lim (some ⟨P, 0, none⟩) n (List.replicate m nd1) r w1 hA (by decide) (by decide) hc (by rw [List.length_replicate]; exact hm) (fun nd hd => by rw [List.eq_of_mem_replicate hd]; decide) hr
  rw [List.length_replicate] at h2
  exact h2
set_option maxHeartbeats 2000000 in
set_option maxRecDepth 100000 in
theorem limit_rest (more : Bool) (lim : Int) (n : Nat) (v14 v15 : Value) (w : World) (hn : 2 ≤ n ∧ n ≤ 65536) (hm : more = decide (n > 65535)) :
    (cF Try.f5 4).wp Try.prog (bodyPost Try.prog Try.f5 (fun e w' => e = .returned (.bool true) ∧ Below w.heap.size w w')) { tmps := #[.bool more, .int .i64 lim, undef, undef, .bool false, .int .i64 (n : Int), undef, undef, undef, undef, undef, undef, undef, .bool more, v14, v15, undef, undef, undef, undef, undef, undef, undef, undef, undef, undef, undef, undef, undef, undef, undef, undef, undef, undef, undef, undef, undef, undef, undef, undef, undef, undef, undef, undef, undef, undef, undef, undef, undef, undef, undef, undef, undef, undef, undef, undef, undef, undef, undef, undef, undef, undef, undef, undef, undef, undef, undef, undef, undef, undef, undef, undef, undef, undef, undef, undef, undef, undef, undef, undef, undef, undef, undef, undef, undef, undef, undef, undef, undef, undef], defers := [] } w := by
  conv => arg 2; whnf
  have HM := Aside0.mk hm
  clear hm
  go_wp2_with (first | ((with_reducible refine gate_dst (N := 17) rfl ?_); refine Kd.event_run rfl (run_makeP _ n (by omega) _ _ (.tmp 16) (.tmp 16) rfl rfl rfl) ?_))
  have HPF := Aside0.mk (Pf.start (Below.refl w.heap.size w) n)
  obtain ⟨P, hP⟩ : ∃ P, P = w.heap.size := ⟨_, rfl⟩
  rw [← hP] at HPF ⊢
  clear hP
  generalize w.alloc (Obj.cells (madeCells #[.int .i64 0, .int .i64 0, .int .i64 0, .slice none 0 0] (n * 4)) 38) = w1 at HPF ⊢
  go_loopw [7] (fun v w' => ∃ i : Nat, i ≤ n ∧ v = .int .i64 i ∧ Aside0 (Pf w w' P n i)) (fun v _ => n - (intOf v).toNat)
  case atStart => exact ⟨0, Nat.zero_le _, rfl, HPF⟩
  case round =>
    clear HPF
    obtain ⟨i, hi, rfl, HPF⟩ := hrel
    have hP2 : P < wr.heap.size := by
      obtain ⟨cs, h1, _⟩ := HPF.out.blk
      exact blk_lt h1
    by_cases hin : i < n
    · have HP2 := Aside0.mk (Pf.below_ HPF.out (below_alloc (Below.refl wr.heap.size wr) (Obj.cells #[.int .i64 0] 3)))
      have HNB := Aside0.mk (blk_new wr (Obj.cells #[.int .i64 0] 3))
      have hii : (i : Int) < (n : Int) := by omega
      have hwi : wrap64 ((i : Int) + 1) = (i : Int) + 1 := wr64_in _ (by omega)
      go_wp2_with (first | (refine wpList_store_mid rfl 38 (.tmp 27) (.tmp 26) rfl P (i * 4) #[.int .i64 1, .int .i64 0, .int .i64 0, .slice (some ⟨wr.heap.size, 0, none⟩) 1 1] rfl rfl ?ht ?hi ?h1 ?hk; (case ht => exact HP2.out.there hin); (case hi => exact info38s); (case h1 => simp [Value.oneCell'])))
      go_roundw
      case rel => exact ⟨i + 1, hin, rfl, ⟨HP2.out.put hin (by omega) HNB.out⟩⟩
      case measure =>
        simp only [intOf, Int.toNat_natCast]
        omega
    · obtain rfl : i = n := Nat.le_antisymm hi (Nat.le_of_not_lt hin)
      have HC1 := Aside0.mk (wK_C wr)
      have HB1 := Aside0.mk (wK_below wr)
      cases hl : limB lim
      · have hlim : lim < 0 ∨ ¬ lim < 0 ∧ lim > 10000 := by
          unfold limB at hl
          simp only [decide_eq_false_iff_not] at hl
          omega
        have HCK : Aside0 (Calls Try.prog 20 #[.slice (some ⟨wr.heap.size + 1, 0, none⟩) 1 1, .int .i64 lim, .slice (some ⟨P, 0, none⟩) i i] (wK wr) (fun e w' => e = .returned (.tuple #[.bool false, .int .i64 2]) ∧ Below (wK wr).heap.size (wK wr) w')) := ⟨Pf.check HPF.out (by omega) i (Nat.le_refl _) lim (false, 2) (check_arg hl _) (wK wr) HB1.out _ HC1.out⟩
        unfold wK at HCK HC1 HB1
        clear hl
        rcases hlim with hlo | ⟨hlo, hhi⟩
        · have D1 : decide (lim < 0) = true := decide_eq_true hlo
          go_wp2_with (first
            | ((with_reducible refine HCK.out.mono ?_); rintro e w2 ⟨rfl, hb2⟩; have HB2 := Aside0.mk hb2; clear hb2)
            | ((with_reducible refine (law06_alive.calls _).mono ?_); rintro e w3 ⟨rfl, hb3⟩; have HB3 := Aside0.mk hb3; clear hb3))
          go_ret
          exact ⟨rfl, below_step (below_step (below_step HPF.out.below HB1.out) HB2.out) HB3.out⟩
        · have D1 : decide (lim < 0) = false := decide_eq_false hlo
          have D2 : decide (lim > 10000) = true := decide_eq_true hhi
          go_wp2_with (first
            | ((with_reducible refine HCK.out.mono ?_); rintro e w2 ⟨rfl, hb2⟩; have HB2 := Aside0.mk hb2; clear hb2)
            | ((with_reducible refine (law06_alive.calls _).mono ?_); rintro e w3 ⟨rfl, hb3⟩; have HB3 := Aside0.mk hb3; clear hb3))
          go_ret
          exact ⟨rfl, below_step (below_step (below_step HPF.out.below HB1.out) HB2.out) HB3.out⟩
      · have hlim : ¬ lim < 0 ∧ ¬ lim > 10000 := by
          unfold limB at hl
          simp only [decide_eq_true_eq] at hl
          omega
        have HL := Aside0.mk hl
        clear hl
        have D1 : decide (lim < 0) = false := decide_eq_false hlim.1
        have D2 : decide (lim > 10000) = false := decide_eq_false hlim.2
        cases more with
        | true =>
          have hbig : i > 65535 := of_decide_eq_true HM.out.symm
          have HCK : Aside0 (Calls Try.prog 20 #[.slice (some ⟨wr.heap.size + 1, 0, none⟩) 1 1, .int .i64 lim, .slice (some ⟨P, 0, none⟩) i i] (wK wr) (fun e w' => e = .returned (.tuple #[.bool false, .int .i64 3]) ∧ Below (wK wr).heap.size (wK wr) w')) := ⟨Pf.check HPF.out (by omega) i (Nat.le_refl _) lim (false, 3) (check_many HL.out (by rw [List.length_replicate]; exact hbig)) (wK wr) HB1.out _ HC1.out⟩
          unfold wK at HCK HC1 HB1
          go_wp2_with (first
            | ((with_reducible refine HCK.out.mono ?_); rintro e w2 ⟨rfl, hb2⟩; have HB2 := Aside0.mk hb2; clear hb2)
            | ((with_reducible refine (law06_alive.calls _).mono ?_); rintro e w3 ⟨rfl, hb3⟩; have HB3 := Aside0.mk hb3; clear hb3))
          go_ret
          exact ⟨rfl, below_step (below_step (below_step HPF.out.below HB1.out) HB2.out) HB3.out⟩
        | false =>
          have hsm : ¬ i > 65535 := of_decide_eq_false HM.out.symm
          have HCK : Aside0 (Calls Try.prog 20 #[.slice (some ⟨wr.heap.size + 1, 0, none⟩) 1 1, .int .i64 lim, .slice (some ⟨P, 0, none⟩) i i] (wK wr) (fun e w' => e = .returned (.tuple #[.bool false, .int .i64 0]) ∧ Below (wK wr).heap.size (wK wr) w')) := ⟨Pf.check HPF.out (by omega) i (Nat.le_refl _) lim (false, 0) (by
            obtain ⟨k, rfl⟩ : ∃ k, i = k + 2 := ⟨i - 2, by omega⟩
            exact check_all HL.out (by omega)) (wK wr) HB1.out _ HC1.out⟩
          unfold wK at HCK HC1 HB1
          have hi1 : (1 : Int) ≤ (i : Int) := by omega
          go_wp2_with (first
            | ((with_reducible refine HCK.out.mono ?_); rintro e w2 ⟨rfl, hb2⟩; have HB2 := Aside0.mk hb2; clear hb2; have HCK2 := Aside0.mk (Pf.check HPF.out (by omega) 1 (by omega) lim (decide (lim < 5), 0) (check_one HL.out) w2 (below_step HB1.out HB2.out) _ (Kd.C_below HC1.out HB2.out)))
            | ((with_reducible refine HCK2.out.mono ?_); rintro e w4 ⟨rfl, hb4⟩; have HB4 := Aside0.mk hb4; clear hb4)
            | ((with_reducible refine (law06_alive.calls _).mono ?_); rintro e w3 ⟨rfl, hb3⟩; have HB3 := Aside0.mk hb3; clear hb3))
          go_ret
          exact ⟨rfl, below_step (below_step (below_step (below_step HPF.out.below HB1.out) HB2.out) HB4.out) HB3.out⟩
set_option maxHeartbeats 2000000 in
set_option maxRecDepth 100000 in
theorem law_ShopLimit.calls (more : Bool) (lim : Int) (w : World) : Calls Try.prog 5 #[.bool more, .int .i64 lim] w fun e w' => e = .returned (.bool true) ∧ Below w.heap.size w w' := by
  cases more with
  | false =>
    go_enter Try.func5, Try.ntmps5
    refine wp_seq ?_
    refine wp_region_list ?_
    iterate 1 (refine wpList_step fun K hK => ?_; go_simp; (refine hK _ _ ?_; clear hK K))
    refine wpList_nil ?_
    refine wp_seq ?_
    refine wp_region_list ?_
    iterate 1 (refine wpList_step fun K hK => ?_; go_simp; (refine hK _ _ ?_; clear hK K))
    refine wpList_nil ?_
    refine wp_seq_k fun K hK => ?_
    have HK := Aside0.mk (fun v14 v15 => hK _ w (limit_rest false lim 65535 v14 v15 w (by decide) (by decide)))
    clear hK
    go_wp2
    exact HK.out _ _
  | true =>
    go_enter Try.func5, Try.ntmps5
    refine wp_seq ?_
    refine wp_region_list ?_
    iterate 1 (refine wpList_step fun K hK => ?_; go_simp; (refine hK _ _ ?_; clear hK K))
    refine wpList_nil ?_
    refine wp_seq ?_
    refine wp_region_list ?_
    iterate 1 (refine wpList_step fun K hK => ?_; go_simp; (refine hK _ _ ?_; clear hK K))
    refine wpList_nil ?_
    refine wp_seq_k fun K hK => ?_
    have HK := Aside0.mk (fun v14 v15 => hK _ w (limit_rest true lim 65536 v14 v15 w (by decide) (by decide)))
    clear hK
    go_wp2
    exact HK.out _ _
end Go.Proofs.Ytipkhaicjjeieaa.V
