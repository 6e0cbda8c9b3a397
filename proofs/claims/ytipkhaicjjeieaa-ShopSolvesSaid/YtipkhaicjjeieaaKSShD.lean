/- Walks of the shop's functions, fourth text: orders as they are laid in memory; has, alike, with, natural. -/
import Derived.Test.YtipkhaicjjeieaaKSShC
namespace Go.Proofs.Ytipkhaicjjeieaa.V
set_option linter.unusedSimpArgs false
set_option linter.unusedVariables false
open Go.RowKit Go.Proofs.YtipkhaicjjeieaaW.PrintWords Go.Proofs.YtipkhaicjjeieaaW.PrintLast Go.Proofs.YtipkhaicjjeieaaW.PrintMore
structure IsOrd (o : Array Value) (g : Nat) (nx : Nat → Nat → Bool) : Prop where
  size : o.size = 101
  ptr : o[0]? = some (.pointer (some ⟨g, 0, none⟩))
  bit : ∀ a b, a < 10 → b < 10 → o[1 + (a * 10 + b)]? = some (.bool (nx a b))
theorem IsOrd.one {o : Array Value} {g : Nat} {nx : Nat → Nat → Bool} (h : IsOrd o g nx) : ∀ v ∈ o.toList, v.oneCell' = true := by
  intro v hv
  obtain ⟨i, hi, rfl⟩ := List.getElem_of_mem hv
  have hi' : i < o.size := by simpa using hi
  have hs := h.size
  have e : o[i]? = some o.toList[i] := by simp [hi']
  by_cases h0 : i = 0
  · subst h0
    rw [h.ptr] at e
    rw [← Option.some.inj e]
    rfl
  · have hb := h.bit ((i - 1) / 10) ((i - 1) % 10) (by omega) (Nat.mod_lt _ (by omega))
    rw [show 1 + ((i - 1) / 10 * 10 + (i - 1) % 10) = i by omega, e] at hb
    rw [Option.some.inj hb]
    rfl
theorem IsOrd.all {o : Array Value} {g : Nat} {nx : Nat → Nat → Bool} (h : IsOrd o g nx) : o.all (·.oneCell') = true := Array.all_eq_true_iff_forall_mem.2 fun v hv => h.one v (by simpa using hv)
theorem info77s : (Try.prog.info? 77).map (·.size) = some 101 := by kernel_rfl
theorem zero77s : Try.zeroCells77.size = 101 := by kernel_rfl
theorem below_setRow {B : Nat} {w W : World} (h : Below B w W) {g : Nat} (hg : B ≤ g) (cs : Array Value) : Below B w (W.setRow g cs) :=
  ⟨h.os, h.tape, h.output, by rw [setRow_size]; exact h.size, fun i hi => (setRow_other W g i cs (by omega)).trans (h.block i hi)⟩
def hasB (n : Nat) (t : Int) : Bool := decide (0 ≤ t) && decide (t < (n : Int))
set_option maxHeartbeats 8000000 in
set_option maxRecDepth 100000 in
theorem order_has.calls (o : Array Value) (g : Nat) (nx : Nat → Nat → Bool) (J : List (List S40)) (t : Int) (w : World) (ho : IsOrd o g nx) (hs : IsShop w g J) :
    Calls Try.prog 69 #[.agg o, .int .i64 t] w fun e w' => e = .returned (.bool (hasB (tasksN J J.length).length t)) ∧ Below w.heap.size w w' := by
  obtain ⟨A0, c0, At, ct, Af, cf, hb, _, _, hT, hct, _, _⟩ := hs
  have h0 := ho.ptr
  have hz := (blk_cell (blk_alloc hb (.cells o 77)) 1).trans rfl
  clear hb hT ho
  by_cases h : 0 ≤ t
  · have d1 : decide (t ≥ 0) = true := decide_eq_true h
    have HE := Aside0.mk (show hasB (tasksN J J.length).length t = decide (t < ((tasksN J J.length).length : Int)) by unfold hasB; rw [decide_eq_true h, Bool.true_and])
    clear h
    go_enter Try.func69, Try.ntmps69
    go_wp2
    go_ret
    rw [HE.out]
    exact ⟨rfl, below_alloc (Below.refl _ _) _⟩
  · have d1 : decide (t ≥ 0) = false := decide_eq_false h
    have HE := Aside0.mk (show hasB (tasksN J J.length).length t = false by unfold hasB; rw [decide_eq_false h, Bool.false_and])
    clear h
    go_enter Try.func69, Try.ntmps69
    go_wp2
    go_ret
    rw [HE.out]
    exact ⟨rfl, below_alloc (Below.refl _ _) _⟩
def addN (nx : Nat → Nat → Bool) (a b : Nat) (x y : Nat) : Bool := if x = a ∧ y = b then true else nx x y
theorem IsOrd.set {o : Array Value} {g : Nat} {nx : Nat → Nat → Bool} (h : IsOrd o g nx) (a b : Nat) (ha : a < 10) (hb : b < 10) : IsOrd (o.setIfInBounds (1 + (a * 10 + b)) (.bool true)) g (addN nx a b) := by
  refine ⟨by rw [Array.size_setIfInBounds]; exact h.size, ?_, fun x y hx hy => ?_⟩
  · rw [Array.getElem?_setIfInBounds_ne (by omega)]; exact h.ptr
  · unfold addN
    by_cases e : x = a ∧ y = b
    · obtain ⟨rfl, rfl⟩ := e
      rw [if_pos ⟨rfl, rfl⟩, Array.getElem?_setIfInBounds_self_of_lt (by have := h.size; omega)]
    · rw [if_neg e, Array.getElem?_setIfInBounds_ne (by omega)]
      exact h.bit x y hx hy
set_option maxHeartbeats 8000000 in
set_option maxRecDepth 100000 in
theorem order_with.calls (o : Array Value) (g : Nat) (nx : Nat → Nat → Bool) (a b : Nat) (w : World) (ho : IsOrd o g nx) (ha : a < 10) (hb : b < 10) :
    Calls Try.prog 56 #[.agg o, .int .i64 a, .int .i64 b] w fun e w' => (∃ o', e = .returned (.agg o') ∧ IsOrd o' g (addN nx a b)) ∧ Below w.heap.size w w' := by
  have HO := Aside0.mk ho
  have hbit : o[1 + a * 10 + b]? = some (.bool (nx a b)) := by have := ho.bit a b ha hb; rwa [← Nat.add_assoc] at this
  have hs := ho.size
  have hO' := ho.set a b ha hb
  rw [← Nat.add_assoc] at hO'
  have HO' := Aside0.mk hO'
  have hsz : (w.alloc (Obj.cells (o.setIfInBounds (1 + a * 10 + b) (.bool true)) 77)).heap.size = w.heap.size + 1 := by simp
  have HG1 := Aside0.mk (blk_alloc (blk_new w (Obj.cells (o.setIfInBounds (1 + a * 10 + b) (.bool true)) 77)) (Obj.cells Try.zeroCells77 77))
  have hg2 := blk_new (w.alloc (Obj.cells (o.setIfInBounds (1 + a * 10 + b) (.bool true)) 77)) (Obj.cells Try.zeroCells77 77)
  rw [hsz] at hg2
  have HG2 := Aside0.mk hg2
  have hsz' := hO'.size
  have HI := Aside0.mk (show (Try.prog.info? 77).map (·.size) = some (o.setIfInBounds (1 + a * 10 + b) (.bool true)).size by rw [hsz', info77s])
  have HZ := Aside0.mk (show Try.zeroCells77.size = (o.setIfInBounds (1 + a * 10 + b) (.bool true)).size by rw [hsz']; exact zero77s)
  have H1 := Aside0.mk hO'.all
  clear ho hs hO' hg2 hsz hsz'
  go_enter Try.func56, Try.ntmps56
  go_wp2_with (first
    | (refine wpList_load_row rfl 77 (.tmp 3) rfl w.heap.size rfl 77 (o.setIfInBounds (1 + a * 10 + b) (.bool true)) (0, 0) _ HG1.out Try.underlying77 rfl HI.out ?_)
    | (refine wpList_store_row rfl 77 (.tmp 6) (.tmp 12) rfl (w.heap.size + 1) (o.setIfInBounds (1 + a * 10 + b) (.bool true)) rfl rfl 77 Try.zeroCells77 HG2.out HI.out HZ.out H1.out ?_))
  refine bodyPost_ret (v := .agg (o.setIfInBounds (1 + a * 10 + b) (.bool true))) (results_cell_row rfl _ _ (w.heap.size + 1) 77 (o.setIfInBounds (1 + a * 10 + b) (.bool true)) (0, 0) _ rfl (setRow_heap _ _ _ _ _ _ HG2.out) Try.underlying77 rfl HI.out) rfl ⟨⟨_, rfl, HO'.out⟩, ?_⟩
  exact below_setRow (below_alloc (below_alloc (Below.refl _ _) _) _) (by omega) _
theorem zero77 : Try.zeroCells77 = #[Value.pointer none] ++ Array.replicate 100 (Value.bool false) := by kernel_rfl
def natN (T : List S89) (i : Nat) (x y : Nat) : Bool := decide (y < i ∧ y = x + 1 ∧ (T.getD y z89).f3 > 0)
theorem ord_nat (g : Nat) (T : List S89) : IsOrd (Try.zeroCells77.setIfInBounds 0 (.pointer (some ⟨g, 0, none⟩))) g (natN T 0) := by
  have hz := zero77s
  refine ⟨by rw [Array.size_setIfInBounds]; exact hz, ?_, fun a b ha hb => ?_⟩
  · rw [Array.getElem?_setIfInBounds_self_of_lt (by omega)]
  · rw [Array.getElem?_setIfInBounds_ne (by omega), zero77, Array.getElem?_append_right (by simp <;> omega)]
    have e : natN T 0 a b = false := decide_eq_false (by omega)
    rw [e, Array.getElem?_replicate, if_pos (by simp <;> omega)]
theorem natN_yes {T : List S89} {j : Nat} (h : (T.getD (j + 1) z89).f3 > 0) : natN T (j + 1 + 1) = addN (natN T (j + 1)) j (j + 1) := by
  funext x y
  unfold natN addN
  by_cases e : x = j ∧ y = j + 1
  · rw [if_pos e]
    exact decide_eq_true ⟨by omega, by omega, by rw [e.2]; exact h⟩
  · rw [if_neg e]
    exact decide_eq_decide.2 ⟨fun ⟨a, b, c⟩ => ⟨by omega, b, c⟩, fun ⟨a, b, c⟩ => ⟨by omega, b, c⟩⟩
theorem natN_no {T : List S89} {i : Nat} (h : ¬ (T.getD i z89).f3 > 0) : natN T (i + 1) = natN T i := by
  funext x y
  unfold natN
  refine decide_eq_decide.2 ⟨fun ⟨a, b, c⟩ => ⟨?_, b, c⟩, fun ⟨a, b, c⟩ => ⟨by omega, b, c⟩⟩
  by_cases e : y = i
  · rw [e] at c; exact absurd c h
  · omega
theorem tasksN_at0 (l : List (List S40)) : ∀ i, ((tasksN l i).getD 0 z89).f3 = 0
  | 0 => rfl
  | i + 1 => by
    have ih := tasksN_at0 l i
    simp only [tasksN]
    cases h : tasksN l i with
    | nil =>
      cases h2 : l.getD i [] with
      | nil => rfl
      | cons x r => simp [jobT, List.mapIdx_cons]
    | cons x r => rw [h] at ih; exact ih
set_option maxHeartbeats 8000000 in
set_option maxRecDepth 100000 in
theorem shop_natural.calls (g : Nat) (J : List (List S40)) (w : World) (hs : IsShop w g J) (hn : (tasksN J J.length).length ≤ 10) :
    Calls Try.prog 37 #[.pointer (some ⟨g, 0, none⟩)] w fun e w' => (∃ o', e = .returned (.agg o') ∧ IsOrd o' g (natN (tasksN J J.length) (tasksN J J.length).length)) ∧ Below w.heap.size w w' := by
  obtain ⟨A0, c0, At, ct, Af, cf, hb, _, _, hT, hct, _, _⟩ := hs
  have ST := Aside0.mk hT
  have SB := Aside0.mk hb
  have hat := Aside0.mk (tasksN_at0 J J.length)
  obtain ⟨n, en⟩ : ∃ n, n = (tasksN J J.length).length := ⟨_, rfl⟩
  rw [← en] at ST SB hct hn ⊢
  have EN := Aside0.mk en
  clear hT hb en
  have hO := ord_nat g (tasksN J J.length)
  have hsz : (w.alloc (Obj.cells Try.zeroCells77 77)).heap.size = w.heap.size + 1 := by simp
  have hg2 := blk_new (w.alloc (Obj.cells Try.zeroCells77 77)) (Obj.cells Try.zeroCells77 77)
  rw [hsz] at hg2
  have HG2 := Aside0.mk hg2
  have HO := Aside0.mk hO
  have HI := Aside0.mk (show (Try.prog.info? 77).map (·.size) = some (Try.zeroCells77.setIfInBounds 0 (.pointer (some ⟨g, 0, none⟩))).size by rw [hO.size, info77s])
  have HZ := Aside0.mk (show Try.zeroCells77.size = (Try.zeroCells77.setIfInBounds 0 (.pointer (some ⟨g, 0, none⟩))).size by rw [hO.size]; exact zero77s)
  have H1 := Aside0.mk hO.all
  obtain ⟨w1, hw1, f1, f2, f3, f4⟩ : ∃ w1, ((w.alloc (Obj.cells Try.zeroCells77 77)).alloc (Obj.cells Try.zeroCells77 77)).setRow (w.heap.size + 1) (Try.zeroCells77.setIfInBounds 0 (.pointer (some ⟨g, 0, none⟩))) = w1 ∧
      w1.heap[g]? = some (.cells #[.slice A0 J.length c0, .slice At n ct, .slice Af (firstsN J J.length).length cf] 86 (0, 0)) ∧ w1.heap[w.heap.size + 1]? = some (.cells (Try.zeroCells77.setIfInBounds 0 (.pointer (some ⟨g, 0, none⟩))) 77 (0, 0)) ∧ w1.heap[w.heap.size]? = some (.cells Try.zeroCells77 77 (0, 0)) ∧ Below w.heap.size w w1 := by
    have hlt := blk_lt SB.out
    refine ⟨_, rfl, ?_, setRow_heap _ _ _ _ _ _ hg2, ?_, below_setRow (below_alloc (below_alloc (Below.refl _ _) _) _) (by omega) _⟩
    · rw [setRow_other _ _ _ _ (by omega)]
      exact blk_alloc (blk_alloc SB.out _) _
    · rw [setRow_other _ _ _ _ (by omega)]
      exact blk_alloc (blk_new w _) _
  have hz1 := (blk_cell f1 1).trans rfl
  have HW1 := Aside0.mk hw1
  have F1 := Aside0.mk f1
  have F2 := Aside0.mk f2
  have F3 := Aside0.mk f3
  have F4 := Aside0.mk f4
  clear hO hsz hg2 hw1 f1 f2 f3 f4
  go_enter Try.func37, Try.ntmps37
  go_wp2_with (first | (refine wpList_store_row rfl 77 (.tmp 3) (.tmp 7) rfl (w.heap.size + 1) (Try.zeroCells77.setIfInBounds 0 (.pointer (some ⟨g, 0, none⟩))) rfl rfl 77 Try.zeroCells77 HG2.out HI.out HZ.out H1.out ?_; rw [HW1.out]))
  clear hz1
  go_loopw [13] (fun v w' => ∃ i : Nat, i ≤ n ∧ v = .int .i64 i ∧ ∃ o, Aside0 (IsOrd o g (natN (tasksN J J.length) i)) ∧ Aside0 (w'.heap[w.heap.size + 1]? = some (.cells o 77 (0, 0))) ∧ Aside0 (w'.heap[w.heap.size]? = some (.cells Try.zeroCells77 77 (0, 0))) ∧ Aside0 (Below w.heap.size w w')) (fun v _ => n - (intOf v).toNat)
  case atStart => exact ⟨0, Nat.zero_le _, rfl, _, HO, F2, F3, F4⟩
  case round =>
    clear F1 F2 F3 F4 HO HI HZ H1 HG2
    obtain ⟨i, hi, rfl, o, HO, F2, F3, HB⟩ := hrel
    by_cases hlt : i < n
    · obtain ⟨ad, x, e1, hx, r1, r2, r3, r4, r5⟩ := at_N89 (Kd.C_below ST.out HB.out) i hlt
      cases e1
      have HX := Aside0.mk hx
      clear hx
      by_cases hp : x.f3 > 0
      · have d1 : decide (x.f3 > 0) = true := decide_eq_true hp
        obtain ⟨j, rfl⟩ : ∃ j, i = j + 1 := by
          cases i with
          | zero => rw [HX.out] at hp; rw [hat.out] at hp; exact absurd hp (by decide)
          | succ j => exact ⟨j, rfl⟩
        have HP := Aside0.mk hp
        clear hp
        have F2' := blk_alloc F2.out (Obj.cells #[Value.int IntKind.i64 x.f0.f0, Value.int IntKind.i64 x.f0.f1, Value.int IntKind.i64 x.f1, Value.int IntKind.i64 x.f2, Value.int IntKind.i64 x.f3] 89)
        have F3' := blk_alloc F3.out (Obj.cells #[Value.int IntKind.i64 x.f0.f0, Value.int IntKind.i64 x.f0.f1, Value.int IntKind.i64 x.f1, Value.int IntKind.i64 x.f2, Value.int IntKind.i64 x.f3] 89)
        have hbit : o[1 + j * 10 + (j + 1)]? = some (.bool (natN (tasksN J J.length) (j + 1) j (j + 1))) := by have := HO.out.bit j (j + 1) (by omega) (by omega); rwa [← Nat.add_assoc] at this
        have hcz := (blk_cell F2' (1 + j * 10 + (j + 1))).trans hbit
        clear hbit
        have hfz := blk_frozen F2' (1 + j * 10 + (j + 1))
        have F2' := Aside0.mk F2'
        have F3' := Aside0.mk F3'
        go_wp2
        have hne : natN (tasksN J J.length) (j + 1 + 1) = addN (natN (tasksN J J.length) (j + 1)) j (j + 1) := natN_yes (by rw [← HX.out]; exact HP.out)
        have ho := HO.out.set j (j + 1) (by omega) (by omega)
        rw [← Nat.add_assoc, ← hne] at ho
        exact ⟨⟨j + 1 + 1, by omega, rfl, _, ⟨ho⟩, ⟨blk_set F2'.out _ _⟩, ⟨blk_far F3'.out (by simp) _⟩, ⟨(below_alloc HB.out _).setCell (by simp) _⟩⟩, by simp [intOf]; omega⟩
      · have d1 : decide (x.f3 > 0) = false := decide_eq_false hp
        have HP := Aside0.mk hp
        clear hp
        go_wp2
        have hne : natN (tasksN J J.length) (i + 1) = natN (tasksN J J.length) i := natN_no (by rw [← HX.out]; exact HP.out)
        exact ⟨⟨i + 1, by omega, rfl, o, ⟨by rw [hne]; exact HO.out⟩, ⟨blk_alloc F2.out _⟩, ⟨blk_alloc F3.out _⟩, ⟨below_alloc HB.out _⟩⟩, by simp [intOf]; omega⟩
    · obtain rfl : i = n := by omega
      have HI := Aside0.mk (show (Try.prog.info? 77).map (·.size) = some o.size by rw [HO.out.size, info77s])
      have HZ := Aside0.mk (show Try.zeroCells77.size = o.size by rw [HO.out.size]; exact zero77s)
      have H1 := Aside0.mk HO.out.all
      go_wp2_with (first
        | (refine wpList_load_row rfl 77 (.tmp 3) rfl (w.heap.size + 1) rfl 77 o (0, 0) _ F2.out Try.underlying77 rfl HI.out ?_)
        | (refine wpList_store_row rfl 77 (.tmp 2) (.tmp 28) rfl w.heap.size o rfl rfl 77 Try.zeroCells77 F3.out HI.out HZ.out H1.out ?_))
      refine bodyPost_ret (v := .agg o) (results_cell_row rfl _ _ w.heap.size 77 o (0, 0) _ rfl (setRow_heap _ _ _ _ _ _ F3.out) Try.underlying77 rfl HI.out) rfl ⟨⟨_, rfl, HO.out⟩, ?_⟩
      exact below_setRow HB.out (Nat.le_refl _) _
end Go.Proofs.Ytipkhaicjjeieaa.V
