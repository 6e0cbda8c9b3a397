/- Walks of the shop's functions, eighth text: an order turned around. -/
import Derived.Test.YtipkhaicjjeieaaKLShG
namespace Go.Proofs.Ytipkhaicjjeieaa.V
set_option linter.unusedSimpArgs false
set_option linter.unusedVariables false
open Go.RowKit Go.Proofs.YtipkhaicjjeieaaW.PrintWords Go.Proofs.YtipkhaicjjeieaaW.PrintLast Go.Proofs.YtipkhaicjjeieaaW.PrintMore
def backN (nx : Nat → Nat → Bool) (n i k x y : Nat) : Bool := decide ((x < i ∨ (x = i ∧ y < k)) ∧ x < n ∧ y < n) && nx y x
def putN (nx : Nat → Nat → Bool) (a b : Nat) (v : Bool) (x y : Nat) : Bool := if x = a ∧ y = b then v else nx x y
theorem IsOrd.put {o : Array Value} {g : Nat} {nx : Nat → Nat → Bool} (h : IsOrd o g nx) (a b : Nat) (v : Bool) (ha : a < 10) (hb : b < 10) : IsOrd (o.setIfInBounds (1 + (a * 10 + b)) (.bool v)) g (putN nx a b v) := by
  refine ⟨by rw [Array.size_setIfInBounds]; exact h.size, ?_, fun x y hx hy => ?_⟩
  · rw [Array.getElem?_setIfInBounds_ne (by omega)]; exact h.ptr
  · unfold putN
    by_cases e : x = a ∧ y = b
    · obtain ⟨rfl, rfl⟩ := e
      rw [if_pos ⟨rfl, rfl⟩, Array.getElem?_setIfInBounds_self_of_lt (by have := h.size; omega)]
    · rw [if_neg e, Array.getElem?_setIfInBounds_ne (by omega)]
      exact h.bit x y hx hy
theorem backN_put (nx : Nat → Nat → Bool) (n i k : Nat) (hi : i < n) (hk : k < n) : backN nx n i (k + 1) = putN (backN nx n i k) i k (nx k i) := by
  funext x y
  unfold backN putN
  by_cases e : x = i ∧ y = k
  · obtain ⟨rfl, rfl⟩ := e
    rw [if_pos ⟨rfl, rfl⟩, decide_eq_true ⟨.inr ⟨rfl, by omega⟩, hi, hk⟩, Bool.true_and]
  · rw [if_neg e]
    congr 1
    exact decide_eq_decide.2 ⟨fun ⟨a, b⟩ => ⟨by omega, b⟩, fun ⟨a, b⟩ => ⟨by omega, b⟩⟩
theorem backN_next (nx : Nat → Nat → Bool) (n i : Nat) : backN nx n i n = backN nx n (i + 1) 0 := by
  funext x y
  unfold backN
  congr 1
  exact decide_eq_decide.2 ⟨fun ⟨a, b, c⟩ => ⟨by omega, b, c⟩, fun ⟨a, b, c⟩ => ⟨by omega, b, c⟩⟩
theorem ord_back (g : Nat) (nx : Nat → Nat → Bool) (n : Nat) : IsOrd (Try.zeroCells77.setIfInBounds 0 (.pointer (some ⟨g, 0, none⟩))) g (backN nx n 0 0) := by
  have h := ord_nat g []
  refine ⟨h.size, h.ptr, fun a b ha hb => ?_⟩
  have e : backN nx n 0 0 a b = natN [] 0 a b := by
    have e1 : natN [] 0 a b = false := decide_eq_false (by omega)
    rw [e1]
    unfold backN
    rw [decide_eq_false (by omega), Bool.false_and]
  rw [e]
  exact h.bit a b ha hb
def ba8T : Bool × List (List Nat × List Nat) := (true, [([], []), ([], []), ([], []), ([], []), ([], []), ([4, 2], [2, 4]), ([5, 3], [3, 5]), ([6], [6]), ([], []), ([8, 0], [0, 8]), ([9, 1, 0, 1, 2, 3, 4, 5, 6, 7], [1, 9]), ([10, 7, 0, 1, 2, 3, 4, 5, 6, 7], [7, 10])])
def ba8B : List Nat := [0, 0, 0, 0, 0, 20, 60, 124, 0, 257, 1023, 2047]
theorem ba8tab : rtab .any (opsOf Try.f75 8) = ba8T := by kernel_rfl
theorem ba8bits : waitsOk ba8T.2 ba8B = true := by kernel_rfl
set_option maxHeartbeats 8000000 in
set_option maxRecDepth 100000 in
theorem order_back.calls (o : Array Value) (g : Nat) (nx : Nat → Nat → Bool) (J : List (List S40)) (w : World) (ho : IsOrd o g nx) (hs : IsShop w g J) (hn : (tasksN J J.length).length ≤ 10) :
    Calls Try.prog 75 #[.agg o] w fun e w' => (∃ o', e = .returned (.agg o') ∧ IsOrd o' g (backN nx (tasksN J J.length).length (tasksN J J.length).length 0)) ∧ Below w.heap.size w w' := by
  have HO := Aside0.mk ho
  have h0 := ho.ptr
  obtain ⟨A0, c0, At, ct, Af, cf, hb, _, _, hT, hct, _, _⟩ := hs
  have SB := Aside0.mk hb
  obtain ⟨n, en⟩ : ∃ n, n = (tasksN J J.length).length := ⟨_, rfl⟩
  rw [← en] at SB hct hn ⊢
  have EN := Aside0.mk en
  clear hT hb en ho
  have hO := ord_back g nx n
  have hsz1 : (w.alloc (Obj.cells o 77)).heap.size = w.heap.size + 1 := by simp
  have hsz2 : ((w.alloc (Obj.cells o 77)).alloc (Obj.cells Try.zeroCells77 77)).heap.size = w.heap.size + 1 + 1 := by simp
  have hg2 := blk_new ((w.alloc (Obj.cells o 77)).alloc (Obj.cells Try.zeroCells77 77)) (Obj.cells Try.zeroCells77 77)
  rw [hsz2] at hg2
  have hg1 := blk_alloc (blk_new (w.alloc (Obj.cells o 77)) (Obj.cells Try.zeroCells77 77)) (Obj.cells Try.zeroCells77 77)
  rw [hsz1] at hg1
  have hg0 := blk_alloc (blk_alloc (blk_new w (Obj.cells o 77)) (Obj.cells Try.zeroCells77 77)) (Obj.cells Try.zeroCells77 77)
  have HG2 := Aside0.mk hg2
  have HO2 := Aside0.mk hO
  have HI := Aside0.mk (show (Try.prog.info? 77).map (·.size) = some (Try.zeroCells77.setIfInBounds 0 (.pointer (some ⟨g, 0, none⟩))).size by rw [hO.size, info77s])
  have HZ := Aside0.mk (show Try.zeroCells77.size = (Try.zeroCells77.setIfInBounds 0 (.pointer (some ⟨g, 0, none⟩))).size by rw [hO.size]; exact zero77s)
  have H1 := Aside0.mk hO.all
  obtain ⟨w1, hw1, f0, f1, f2, f3, f4⟩ : ∃ w1, (((w.alloc (Obj.cells o 77)).alloc (Obj.cells Try.zeroCells77 77)).alloc (Obj.cells Try.zeroCells77 77)).setRow (w.heap.size + 1 + 1) (Try.zeroCells77.setIfInBounds 0 (.pointer (some ⟨g, 0, none⟩))) = w1 ∧ w1.heap[w.heap.size]? = some (.cells o 77 (0, 0)) ∧
      w1.heap[g]? = some (.cells #[.slice A0 J.length c0, .slice At n ct, .slice Af (firstsN J J.length).length cf] 86 (0, 0)) ∧ w1.heap[w.heap.size + 1 + 1]? = some (.cells (Try.zeroCells77.setIfInBounds 0 (.pointer (some ⟨g, 0, none⟩))) 77 (0, 0)) ∧ w1.heap[w.heap.size + 1]? = some (.cells Try.zeroCells77 77 (0, 0)) ∧ Below w.heap.size w w1 := by
    have hlt := blk_lt SB.out
    refine ⟨_, rfl, ?_, ?_, setRow_heap _ _ _ _ _ _ hg2, ?_, below_setRow (below_alloc (below_alloc (below_alloc (Below.refl _ _) _) _) _) (by omega) _⟩
    · rw [setRow_other _ _ _ _ (by omega)]
      exact hg0
    · rw [setRow_other _ _ _ _ (by omega)]
      exact blk_alloc (blk_alloc (blk_alloc SB.out _) _) _
    · rw [setRow_other _ _ _ _ (by omega)]
      exact hg1
  have hz0 := (blk_cell f0 0).trans h0
  have hz1 := (blk_cell f1 1).trans rfl
  have HW1 := Aside0.mk hw1
  have F0 := Aside0.mk f0
  have F2 := Aside0.mk f2
  have F3 := Aside0.mk f3
  have F4 := Aside0.mk f4
  clear hO hsz1 hsz2 hg2 hg1 hg0 hw1 f0 f1 f2 f3 f4
  go_enter Try.func75, Try.ntmps75
  go_wp2_with (first | (refine wpList_store_row rfl 77 (.tmp 3) (.tmp 8) rfl (w.heap.size + 1 + 1) (Try.zeroCells77.setIfInBounds 0 (.pointer (some ⟨g, 0, none⟩))) rfl rfl 77 Try.zeroCells77 HG2.out HI.out HZ.out H1.out ?_; rw [HW1.out]))
  clear hz0 hz1
  go_loopw [15] (fun v w' => ∃ i : Nat, i ≤ n ∧ v = .int .i64 i ∧ ∃ o', Aside0 (IsOrd o' g (backN nx n i 0)) ∧ Aside0 (w'.heap[w.heap.size]? = some (.cells o 77 (0, 0))) ∧ Aside0 (w'.heap[w.heap.size + 1 + 1]? = some (.cells o' 77 (0, 0))) ∧ Aside0 (w'.heap[w.heap.size + 1]? = some (.cells Try.zeroCells77 77 (0, 0))) ∧ Aside0 (Below w.heap.size w w')) (fun v _ => n - (intOf v).toNat)
  case atStart => exact ⟨0, Nat.zero_le _, rfl, _, HO2, F0, F2, F3, F4⟩
  case round =>
    clear F0 F2 F3 F4 HO2 HI HZ H1 HG2 h0
    obtain ⟨i, hi, rfl, o', HO2, F0, F2, F3, HB⟩ := hrel
    by_cases hlt : i < n
    · have h0 := (blk_cell F0.out 0).trans HO.out.ptr
      have h1 := (blk_cell (blk_below SB.out HB.out) 1).trans rfl
      go_wp2
      clear h0 h1
      go_loopw [24] (fun v w' => ∃ k : Nat, k ≤ n ∧ v = .int .i64 k ∧ ∃ o', Aside0 (IsOrd o' g (backN nx n i k)) ∧ Aside0 (w'.heap[w.heap.size]? = some (.cells o 77 (0, 0))) ∧ Aside0 (w'.heap[w.heap.size + 1 + 1]? = some (.cells o' 77 (0, 0))) ∧ Aside0 (w'.heap[w.heap.size + 1]? = some (.cells Try.zeroCells77 77 (0, 0))) ∧ Aside0 (Below w.heap.size w w')) (fun v _ => n - (intOf v).toNat)
      case atStart => exact ⟨0, Nat.zero_le _, rfl, _, HO2, F0, F2, F3, HB⟩
      case round =>
        clear F0 F2 F3 HB HO2
        obtain ⟨k, hk, rfl, o', HO2, F0, F2, F3, HB⟩ := hrel
        by_cases hlt2 : k < n
        · have hbit : o[1 + k * 10 + i]? = some (.bool (nx k i)) := by have := HO.out.bit k i (by omega) (by omega); rwa [← Nat.add_assoc] at this
          have hbit2 : o'[1 + i * 10 + k]? = some (.bool (backN nx n i k i k)) := by have := HO2.out.bit i k (by omega) (by omega); rwa [← Nat.add_assoc] at this
          have hk10 : (k : Int) < 10 := by omega
          have hi10 : (i : Int) < 10 := by omega
          obtain ⟨b, eb⟩ : ∃ b, b = nx k i := ⟨_, rfl⟩
          rw [← eb] at hbit
          have EB := Aside0.mk eb
          have HBIT := Aside0.mk hbit
          have HBIT2 := Aside0.mk hbit2
          clear hbit hbit2 eb
          go_wp2
          have G0 := Aside0.mk (blk_drew F0.out)
          have G2 := Aside0.mk (blk_drew F2.out)
          have G3 := Aside0.mk (blk_drew F3.out)
          have GB := Aside0.mk (below_drew1 HB.out)
          refine start_ (n := 12) (S := fun w' => w'.cell? ⟨w.heap.size, 1 + k * 10 + i, none⟩ = some (.bool b)) (ds := [11]) #[false, false, false, false, false, false, false, false, false, false, false, false] (by kernel_rfl) rfl rfl ((blk_cell G0.out (1 + k * 10 + i)).trans HBIT.out) (fun hHeld => ?_)
          refine with_tabW ba8tab ba8bits (fun HT_ HW_ => ?_)
          generalize wr.drew = w2 at G0 G2 G3 GB hHeld ⊢
          refine pure_ (i := 0) (N := some 27) (v := ?_) (a' := ?_) (qd 12 1) rfl rfl (any_of HT_.out (by kernel_rfl)) (fun _ _ _ h => h) (Or.inl ⟨by rfl, ?_⟩) ?_ ?_
          rotate_left
          · intro w'
            go_simp
            with_reducible rfl
          rotate_left
          · simp only [Act.put, qa, qb, qc, i64_w, i32_w]
            rfl
          refine pure_ (i := 1) (N := some 28) (v := ?_) (a' := ?_) (qd 12 3) rfl rfl (any_of HT_.out (by kernel_rfl)) (fun _ _ _ h => h) (Or.inl ⟨by rfl, ?_⟩) ?_ ?_
          rotate_left
          · intro w'
            go_simp
            with_reducible rfl
          rotate_left
          · simp only [Act.put, qa, qb, qc, i64_w, i32_w]
            rfl
          refine pure_ (i := 2) (N := some 29) (v := ?_) (a' := ?_) (qd 12 7) rfl rfl (any_of HT_.out (by kernel_rfl)) (fun _ _ _ h => h) (Or.inl ⟨by rfl, ?_⟩) ?_ ?_
          rotate_left
          · intro w'
            go_simp
            with_reducible rfl
          rotate_left
          · simp only [Act.put, qa, qb, qc, i64_w, i32_w]
            rfl
          refine pure_ (i := 3) (N := some 30) (v := ?_) (a' := ?_) (qd 12 15) rfl rfl (any_of HT_.out (by kernel_rfl)) (fun _ _ _ h => h) (Or.inl ⟨by rfl, ?_⟩) ?_ ?_
          rotate_left
          · intro w'
            go_simp
            with_reducible rfl
          rotate_left
          · simp only [Act.put, qa, qb, qc, i64_w, i32_w]
            rfl
          refine pure_ (i := 4) (N := some 31) (v := ?_) (a' := ?_) (qd 12 31) rfl rfl (any_of HT_.out (by kernel_rfl)) (fun _ _ _ h => h) (Or.inl ⟨by rfl, ?_⟩) ?_ ?_
          rotate_left
          · intro w'
            go_simp
            with_reducible rfl
          rotate_left
          · simp only [Act.put, qa, qb, qc, i64_w, i32_w]
            rfl
          refine pure_ (i := 5) (N := some 32) (v := ?_) (a' := ?_) (qd 12 63) rfl rfl (any_of HT_.out (by kernel_rfl)) (fun _ _ _ h => h) (Or.inl ⟨by rfl, ?_⟩) ?_ ?_
          rotate_left
          · intro w'
            go_simp
            with_reducible rfl
          rotate_left
          · simp only [Act.put, qa, qb, qc, i64_w, i32_w]
            rfl
          refine pure_ (i := 6) (N := some 33) (v := ?_) (a' := ?_) (qd 12 127) rfl rfl (any_of HT_.out (by kernel_rfl)) (fun _ _ _ h => h) (Or.inl ⟨by rfl, ?_⟩) ?_ ?_
          rotate_left
          · intro w'
            go_simp
            with_reducible rfl
          rotate_left
          · simp only [Act.put, qa, qb, qc, i64_w, i32_w]
            rfl
          refine pure_ (i := 8) (N := some 35) (v := ?_) (a' := ?_) (qd 12 383) rfl rfl (any_of HT_.out (by kernel_rfl)) (fun _ _ _ h => h) (Or.inl ⟨by rfl, ?_⟩) ?_ ?_
          rotate_left
          · intro w'
            go_simp
            with_reducible rfl
          rotate_left
          · simp only [Act.put, qa, qb, qc, i64_w, i32_w]
            rfl
          refine pure_ (i := 9) (N := some 36) (v := ?_) (a' := ?_) (qd 12 895) rfl rfl (any_of HT_.out (by kernel_rfl)) (fun _ _ _ h => h) (Or.inl ⟨by rfl, ?_⟩) ?_ ?_
          rotate_left
          · intro w'
            go_simp
            with_reducible rfl
          rotate_left
          · simp only [Act.put, qa, qb, qc, i64_w, i32_w]
            rfl
          refine take_ (i := 7) (N := some 34) (v := ?_) (a' := ?_) (qd 12 1023) rfl rfl (take_ofW HT_.out HW_.out (by kernel_rfl)) (fun _ _ _ h => h) (Or.inl ⟨by rfl, ?_⟩) hHeld ?_ ?_
          rotate_left
          · rintro w' s0
            go_simp
            with_reducible rfl
          rotate_left
          · simp only [Act.put, qa, qb, qc, i64_w, i32_w]
            rfl
          refine pure_ (i := 10) (N := some 37) (v := ?_) (a' := ?_) (qd 12 2047) rfl rfl (any_of HT_.out (by kernel_rfl)) (fun _ _ _ h => h) (Or.inl ⟨by rfl, ?_⟩) ?_ ?_
          rotate_left
          · intro w'
            go_simp
            with_reducible rfl
          rotate_left
          · simp only [Act.put, qa, qb, qc, i64_w, i32_w]
            rfl
          refine last_ (i := 11) (N := none) (qd 12 4095) rfl rfl (one_of HT_.out (by kernel_rfl)) (by decide) (fun K hK => ?_)
          have hcz := (blk_cell G2.out (1 + i * 10 + k)).trans HBIT2.out
          have hfz := blk_frozen G2.out (1 + i * 10 + k)
          refine skip_ (w1 := ?_) (by rfl) rfl ?_ ?_
          rotate_left
          · go_simp
            rfl
          refine hK.out _ _ ?_
          clear hK K hcz hfz
          refine done_ (done_of HT_.out (by kernel_rfl)) ?_
          have hp := HO2.out.put i k (nx k i) (by omega) (by omega)
          rw [← backN_put nx n i k hlt hlt2, ← Nat.add_assoc, ← EB.out] at hp
          have HP := Aside0.mk hp
          clear hp
          go_wp2
          exact ⟨⟨k + 1, by omega, rfl, _, HP, ⟨blk_far G0.out (by simp <;> omega) _⟩, ⟨blk_set G2.out _ _⟩, ⟨blk_far G3.out (by simp <;> omega) _⟩, ⟨GB.out.setCell (by simp <;> omega) _⟩⟩, by simp [intOf]; omega⟩
        · obtain rfl : k = n := by omega
          go_wp2
          exact ⟨⟨i + 1, by omega, rfl, _, ⟨by rw [← backN_next]; exact HO2.out⟩, F0, F2, F3, HB⟩, by simp [intOf]; omega⟩
    · obtain rfl : i = n := by omega
      have HI := Aside0.mk (show (Try.prog.info? 77).map (·.size) = some o'.size by rw [HO2.out.size, info77s])
      have HZ := Aside0.mk (show Try.zeroCells77.size = o'.size by rw [HO2.out.size]; exact zero77s)
      have H1 := Aside0.mk HO2.out.all
      go_wp2_with (first
        | (refine wpList_load_row rfl 77 (.tmp 3) rfl (w.heap.size + 1 + 1) rfl 77 o' (0, 0) _ F2.out Try.underlying77 rfl HI.out ?_)
        | (refine wpList_store_row rfl 77 (.tmp 2) (.tmp 40) rfl (w.heap.size + 1) o' rfl rfl 77 Try.zeroCells77 F3.out HI.out HZ.out H1.out ?_))
      refine bodyPost_ret (v := .agg o') (results_cell_row rfl _ _ (w.heap.size + 1) 77 o' (0, 0) _ rfl (setRow_heap _ _ _ _ _ _ F3.out) Try.underlying77 rfl HI.out) rfl ⟨⟨_, rfl, HO2.out⟩, ?_⟩
      exact below_setRow HB.out (by omega) _
end Go.Proofs.Ytipkhaicjjeieaa.V
