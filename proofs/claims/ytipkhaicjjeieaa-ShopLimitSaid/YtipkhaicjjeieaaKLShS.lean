/- Walks of the shop's functions, nineteenth text: is a list of tasks a set that a machine cannot finish in time? -/
import Derived.Test.YtipkhaicjjeieaaKLShR
namespace Go.Proofs.Ytipkhaicjjeieaa.V
set_option linter.unusedSimpArgs false
set_option linter.unusedVariables false
open Go.RowKit Go.Proofs.YtipkhaicjjeieaaW.PrintWords Go.Proofs.YtipkhaicjjeieaaW.PrintLast Go.Proofs.YtipkhaicjjeieaaW.PrintMore
@[go_sem] theorem run_eql26 (w : World) (A : Option Addr) (n c : Nat) : (binOp .eql 26 (.slice A n c) (.slice none 0 0)).run Try.prog w = .ok (.bool A.isNone) w := Lib.run_eql_slice_nil (P := Try.prog) w 26 3 A n c 0 0 Try.underlying26
@[go_sem] theorem run_neq26 (w : World) (A : Option Addr) (n c : Nat) : (binOp .neq 26 (.slice A n c) (.slice none 0 0)).run Try.prog w = .ok (.bool A.isSome) w := by
  have := run_neq_slice_nil_any (P := Try.prog) w 26 3 A n c 0 0 Try.underlying26
  rw [this]
  cases A <;> rfl
def setAt (T : List S89) (l : List Int) (i : Nat) : Bool := hasB T.length (l.getD i 0) && ((decide (i = 0) || alikeB T (l.getD 0 0) (l.getD i 0)) && !hasN l (l.getD i 0) i)
def setN (T : List S89) (l : List Int) : Nat → Bool
  | 0 => true
  | k + 1 => setN T l k && setAt T l k
def bddI (h : List Int) : Bool := h.all (fun x => decide (0 ≤ x ∧ x ≤ 1000000))
def setF (T : List S89) (nx : Nat → Nat → Bool) (lim : Int) (l : List Int) : Option Bool :=
  if setN T l l.length = false then some false else if l.length = 0 then some false else match lookF nx (timeT T) T.length with
    | none => none
    | some (.cyc _) => some false
    | some (.ok h t _ _) => if (bddI h && bddI t) = true then some (decide (boundF T h t (l.map Int.toNat) > lim)) else none
theorem setN_false {T : List S89} {l : List Int} {k : Nat} (h : setAt T l k = false) : ∀ d, setN T l (k + 1 + d) = false
  | 0 => by simp only [Nat.add_zero, setN, h, Bool.and_false]
  | d + 1 => by
    have := setN_false h d
    show (setN T l (k + 1 + d) && _) = false
    rw [this, Bool.false_and]
theorem setN_at {T : List S89} {l : List Int} : ∀ {k : Nat}, setN T l k = true → ∀ j, j < k → setAt T l j = true
  | 0, _, j, hj => by omega
  | k + 1, h, j, hj => by
    simp only [setN, Bool.and_eq_true] at h
    by_cases e : j = k
    · rw [e]; exact h.2
    · exact setN_at h.1 j (by omega)
theorem bddI_getD {h : List Int} (hb : bddI h = true) (x : Nat) : 0 ≤ h.getD x 0 ∧ h.getD x 0 ≤ 1000000 := by
  by_cases hx : x < h.length
  · have := List.all_eq_true.1 hb h[x] (List.getElem_mem hx)
    rw [decide_eq_true_eq] at this
    simpa [hx] using this
  · simp [List.getElem?_eq_none (by omega : h.length ≤ x)]
theorem lookF_len {nx : Nat → Nat → Bool} {tm : Nat → Int} {n : Nat} {h t c : List Int} {s : Int} (hl : lookF nx tm n = some (.ok h t c s)) : h.length = n ∧ t.length = n := by
  unfold lookF at hl
  split at hl
  · cases hl
  · cases hl
  · split at hl
    · cases hl
    · cases hl
    · split at hl
      · cases hl
      · cases hl
        exact ⟨subF_len _ _ _, subF_len _ _ _⟩
theorem lookF_cyc {nx : Nat → Nat → Bool} {tm : Nat → Int} {n : Nat} {l : List Int} (hl : lookF nx tm n = some (.cyc l)) : l ≠ [] := by
  unfold lookF at hl
  split at hl
  · cases hl
  · rename_i l' h1
    obtain rfl : l'.reverse = l := by cases hl; rfl
    simpa using (allF_cyc _ h1).1
  · split at hl
    · cases hl
    · rename_i l' h1
      obtain rfl : l'.reverse = l := by cases hl; rfl
      simpa using (allF_cyc _ h1).1
    · split at hl <;> cases hl
theorem up_toNat : ∀ (l : List Int), (∀ x ∈ l, 0 ≤ x) → up (l.map Int.toNat) = l
  | [], _ => rfl
  | x :: l, h => by
    have := up_toNat l (fun y hy => h y (by simp [hy]))
    have hx := h x (by simp)
    unfold up at this ⊢
    simp only [List.map_cons, List.map_map] at this ⊢
    rw [this]
    exact congrArg (· :: l) (Int.toNat_of_nonneg hx)
def se4T : Bool × List (List Nat × List Nat) := (true, [([], []), ([], []), ([0, 1], [0, 1]), ([2], [2]), ([3, 2], [3]), ([4], [4]), ([5, 4], [4, 5]), ([6, 4, 4], [4, 6]), ([7], [7]), ([7], [7]), ([9, 7], [7, 9]), ([10, 7], [7, 10]), ([7], [7]), ([8, 11, 12, 7, 7], [7, 8, 11, 12]), ([13, 7], [7, 13]), ([7, 14, 4], [4, 7, 14]), ([4, 15], [4, 15]), ([16, 13], [16]), ([17], [17]), ([17], [17]), ([18, 19, 17], [17, 18, 19]), ([17], [17]), ([20, 21, 17, 17], [17, 20, 21]), ([17, 22], [17, 22])])
def se4B : List Nat := [0, 0, 3, 7, 15, 31, 63, 127, 255, 255, 767, 1791, 255, 8191, 16383, 32767, 65535, 131071, 262143, 262143, 1048575, 262143, 4194303, 8388607]
theorem se4tab : rtab .any (opsOf Try.f58 4) = se4T := by kernel_rfl
theorem se4bits : waitsOk se4T.2 se4B = true := by kernel_rfl
def se10T : Bool × List (List Nat × List Nat) := (true, [([], []), ([0], [0]), ([1], [1]), ([2], [2]), ([3], [3]), ([4, 3], [3, 4]), ([3], [3]), ([3], [3]), ([7, 3], [3, 7]), ([3], [3]), ([9, 3], [3, 9]), ([5, 6, 8, 10, 3, 3], [3, 5, 6, 8, 10]), ([3], [3]), ([12, 3], [3, 12]), ([13, 3], [3, 13]), ([14, 3], [3, 14]), ([11, 15, 3], [3, 11, 15]), ([3, 16], [3, 16]), ([17, 11, 0, 1, 2, 3, 4, 5, 6, 7, 8, 9, 10, 11, 12, 13, 14, 15, 16, 17], [17])])
def se10B : List Nat := [0, 1, 3, 7, 15, 31, 15, 15, 143, 15, 527, 2047, 15, 4111, 12303, 28687, 65535, 131071, 262143]
theorem se10tab : rtab .any (opsOf Try.f58 10) = se10T := by kernel_rfl
theorem se10bits : waitsOk se10T.2 se10B = true := by kernel_rfl
set_option maxHeartbeats 8000000 in
set_option maxRecDepth 100000 in
theorem reader_set.calls (o : Array Value) (g : Nat) (nx : Nat → Nat → Bool) (J : List (List S40)) (rb : Nat) (lim : Int) (A : Option Addr) (c : Nat) (l : List Int) (r : Bool) (w : World) (ho : IsOrd o g nx) (hs : IsShop w g J) (hn : (tasksN J J.length).length ≤ 10)
    (hl : w.cell? ⟨rb, 0, none⟩ = some (.int .i64 lim)) (hr : Kd.C (Kd.int .i64) w A l.length l) (hc : l.length ≤ c) (hm : l.length ≤ 1000) (ht : ∀ x, 0 ≤ timeT (tasksN J J.length) x ∧ timeT (tasksN J J.length) x ≤ 1000) (hf : setF (tasksN J J.length) nx lim l = some r) :
    Calls Try.prog 58 #[.pointer (some ⟨rb, 0, none⟩), .agg o, .slice A l.length c] w fun e w' => e = .returned (.bool r) ∧ Below w.heap.size w w' := by
  have HO := Aside0.mk ho
  have HS := Aside0.mk hs
  have HI := Aside0.mk (show (Try.prog.info? 77).map (·.size) = some o.size by rw [ho.size, info77s])
  have HR := Aside0.mk hr
  have HL := Aside0.mk hl
  have HC := Aside0.mk hc
  have HTT := Aside0.mk ht
  have HF := Aside0.mk hf
  have HM := Aside0.mk hm
  replace hm : l.length ≤ 1000000 := by omega
  obtain ⟨n, en⟩ : ∃ n, n = (tasksN J J.length).length := ⟨_, rfl⟩
  rw [← en] at hn
  have EN := Aside0.mk en
  obtain ⟨m, em⟩ : ∃ m, m = l.length := ⟨_, rfl⟩
  rw [← em] at HR HC hm ⊢
  have EM := Aside0.mk em
  have BO := Aside0.mk (blk_new w (Obj.cells o 77))
  have HB := Aside0.mk (below_alloc (Below.refl w.heap.size w) (Obj.cells o 77))
  clear ho hs en em hr hl hc ht hf
  go_enter Try.func58, Try.ntmps58
  go_wp2
  go_loopw [12] (fun v w' => ∃ k : Nat, k ≤ m ∧ v = .int .i64 k ∧ Aside0 (setN (tasksN J J.length) l k = true) ∧ Aside0 (w'.heap[w.heap.size]? = some (.cells o 77 (0, 0))) ∧ Aside0 (Below w.heap.size w w')) (fun v _ => m - (intOf v).toNat)
  case atStart => exact ⟨0, Nat.zero_le _, rfl, ⟨rfl⟩, BO, HB⟩
  case round =>
    clear BO HB
    obtain ⟨k, hk, rfl, HK, BO, HB⟩ := hrel
    by_cases hlt : k < m
    · obtain ⟨ad, e1, h0⟩ := at_NInt (Kd.C_below HR.out HB.out) k hlt
      obtain ⟨ad1, e2, h1⟩ := at_NInt HR.out 0 (by omega)
      obtain rfl : ad = ad1 := by rw [e1] at e2; exact Option.some.inj e2
      cases e1
      obtain ⟨x, hx⟩ : ∃ x, x = l.getD k 0 := ⟨_, rfl⟩
      obtain ⟨l0, hl0⟩ : ∃ l0, l0 = l.getD 0 0 := ⟨_, rfl⟩
      rw [← hx] at h0
      rw [← hl0] at h1
      replace h1 := add_nil _ _ _ h1
      have HX := Aside0.mk hx
      have HL0 := Aside0.mk hl0
      have R0 := Aside0.mk h1
      have hkc : (k : Int) ≤ (c : Int) := by have := HC.out; omega
      have hm0 : 0 < m := by omega
      clear hx hl0 h1
      go_wp2
      clear h0
      cases ha : hasB (tasksN J J.length).length x
      · have HA := Aside0.mk ha
        clear ha
        have HE := Aside0.mk (show r = false by
          have h1 : setAt (tasksN J J.length) l k = false := by
            unfold setAt
            rw [← HX.out, ← HL0.out, HA.out, Bool.false_and]
          have h2 := setN_false h1 (m - (k + 1))
          rw [show k + 1 + (m - (k + 1)) = m by omega, EM.out] at h2
          have h3 := HF.out
          unfold setF at h3
          rw [if_pos h2] at h3
          exact (Option.some.inj h3).symm)
        have BO1 := Aside0.mk (blk_drew BO.out)
        have HB1 := Aside0.mk (below_drew1 HB.out)
        clear BO HB
        have BO := BO1
        have HB := HB1
        clear BO1 HB1
        refine start_ (n := 24) (S := fun w' => w'.heap[w.heap.size]? = some (.cells o 77 (0, 0)) ∧ w'.cell? ad = some (.int .i64 l0)) (ds := []) #[false, false, false, false, false, false, false, false, false, false, false, false, false, false, false, false, false, false, false, false, false, false, false, false] (by kernel_rfl) rfl rfl ⟨BO.out, pw_cell_below HB.out R0.out⟩ (fun hHeld => ?_)
        refine with_tabW se4tab se4bits (fun HT_ HW_ => ?_)
        generalize wr.drew = w1 at BO HB hHeld ⊢
        refine pure_ (i := 1) (N := some 18) (v := ?_) (a' := ?_) (qd 24 2) rfl rfl (any_of HT_.out (by kernel_rfl)) (fun _ _ _ h => h) (Or.inl ⟨by rfl, ?_⟩) ?_ ?_
        rotate_left
        · intro w'
          go_simp
          with_reducible rfl
        rotate_left
        · simp only [Act.put, qa, qb, qc, i64_w, i32_w]
          rfl
        refine take_ (i := 0) (N := some 17) (v := ?_) (a' := ?_) (qd 24 3) rfl rfl (take_ofW HT_.out HW_.out (by kernel_rfl)) (fun _ _ _ h => h) (Or.inl ⟨by rfl, ?_⟩) hHeld ?_ ?_
        rotate_left
        · rintro w' ⟨s0, s1⟩
          refine exec_load_row 77 (.tmp 4) ?_ w.heap.size ?_ 77 o (0, 0) _ s0 Try.underlying77 rfl HI.out <;> rfl
        rotate_left
        · simp only [Act.put, qa, qb, qc, i64_w, i32_w]
          rfl
        refine one_ (i := 2) (N := some 19) (qd 24 7) rfl rfl (one_of HT_.out (by kernel_rfl)) (by decide) (fun K hK => ?_)
        with_reducible refine goes_ (f := 69) (fn := Try.f69) (as0 := #[.tmp 17, .tmp 18]) (ts := #[77, 3]) ?q1 ?q2 ?q3 #[.agg o, .int .i64 x] ?q4 ?q5 ?q6 ?q7 ?q8
        (case q1 => exact Try.func69)
        (case q2 => kernel_rfl)
        (case q3 => kernel_rfl)
        (case q4 => rfl)
        (case q5 => rfl)
        (case q6 => rfl)
        (case q7 => (simp only [List.map_toArray, List.map_cons, List.map_nil]; rfl))
        case q8 =>
        refine (order_has.calls o g nx J x _ HO.out (IsShop.below HS.out HB.out)).mono ?_
        rw [HA.out]
        rintro e w2 ⟨rfl, hb⟩
        refine ⟨_, rfl, ?_⟩
        have n1 := Aside0.mk (blk_below BO.out hb)
        have n2 := Aside0.mk (below_then HB.out (below_size HB.out) hb)
        clear BO HB hb
        have BO := n1
        have HB := n2
        clear n1 n2
        refine hK.out _ _ ⟨BO.out, pw_cell_below HB.out R0.out⟩ (fun hHeld => ?_)
        clear hK K
        refine norm_ (a' := ?_) ?_ ?_
        rotate_left
        · show Act.put _ (some 19) _ = _
          simp only [Act.put, qa, qb, qc, i64_w, i32_w]
          rfl
        refine pure_ (i := 3) (N := some 20) (v := ?_) (a' := ?_) (qd 24 15) rfl rfl (any_of HT_.out (by kernel_rfl)) (fun _ _ _ h => h) (Or.inl ⟨by rfl, ?_⟩) ?_ ?_
        rotate_left
        · intro w'
          go_simp
          with_reducible rfl
        rotate_left
        · simp only [Act.put, qa, qb, qc, i64_w, i32_w]
          rfl
        refine pure_ (i := 4) (N := some 21) (v := ?_) (a' := ?_) (qd 24 31) rfl rfl (any_of HT_.out (by kernel_rfl)) (fun _ _ _ h => h) (Or.inl ⟨by rfl, ?_⟩) ?_ ?_
        rotate_left
        · intro w'
          go_simp
          with_reducible rfl
        rotate_left
        · simp only [Act.put, qa, qb, qc, i64_w, i32_w]
          rfl
        refine pure_ (i := 5) (N := some 22) (v := undef) (a' := ?_) (qd 24 63) rfl rfl (any_of HT_.out (by kernel_rfl)) (fun _ _ _ h => h) (Or.inr ⟨by rfl, rfl⟩) ?_ ?_
        rotate_left
        · simp only [Act.put, qa, qb, qc, i64_w, i32_w]
          rfl
        refine pure_ (i := 6) (N := some 23) (v := undef) (a' := ?_) (qd 24 127) rfl rfl (any_of HT_.out (by kernel_rfl)) (fun _ _ _ h => h) (Or.inr ⟨by rfl, rfl⟩) ?_ ?_
        rotate_left
        · simp only [Act.put, qa, qb, qc, i64_w, i32_w]
          rfl
        refine pure_ (i := 7) (N := some 24) (v := undef) (a' := ?_) (qd 24 255) rfl rfl (any_of HT_.out (by kernel_rfl)) (fun _ _ _ h => h) (Or.inr ⟨by rfl, rfl⟩) ?_ ?_
        rotate_left
        · simp only [Act.put, qa, qb, qc, i64_w, i32_w]
          rfl
        refine pure_ (i := 8) (N := some 25) (v := undef) (a' := ?_) (qd 24 511) rfl rfl (any_of HT_.out (by kernel_rfl)) (fun _ _ _ h => h) (Or.inr ⟨by rfl, rfl⟩) ?_ ?_
        rotate_left
        · simp only [Act.put, qa, qb, qc, i64_w, i32_w]
          rfl
        refine pure_ (i := 9) (N := some 26) (v := undef) (a' := ?_) (qd 24 1023) rfl rfl (any_of HT_.out (by kernel_rfl)) (fun _ _ _ h => h) (Or.inr ⟨by rfl, rfl⟩) ?_ ?_
        rotate_left
        · simp only [Act.put, qa, qb, qc, i64_w, i32_w]
          rfl
        refine pure_ (i := 10) (N := some 27) (v := undef) (a' := ?_) (qd 24 2047) rfl rfl (any_of HT_.out (by kernel_rfl)) (fun _ _ _ h => h) (Or.inr ⟨by rfl, rfl⟩) ?_ ?_
        rotate_left
        · simp only [Act.put, qa, qb, qc, i64_w, i32_w]
          rfl
        refine pure_ (i := 11) (N := some 28) (v := undef) (a' := ?_) (qd 24 4095) rfl rfl (any_of HT_.out (by kernel_rfl)) (fun _ _ _ h => h) (Or.inr ⟨by rfl, rfl⟩) ?_ ?_
        rotate_left
        · simp only [Act.put, qa, qb, qc, i64_w, i32_w]
          rfl
        refine pure_ (i := 12) (N := some 29) (v := undef) (a' := ?_) (qd 24 8191) rfl rfl (any_of HT_.out (by kernel_rfl)) (fun _ _ _ h => h) (Or.inr ⟨by rfl, rfl⟩) ?_ ?_
        rotate_left
        · simp only [Act.put, qa, qb, qc, i64_w, i32_w]
          rfl
        refine pure_ (i := 13) (N := some 30) (v := undef) (a' := ?_) (qd 24 16383) rfl rfl (any_of HT_.out (by kernel_rfl)) (fun _ _ _ h => h) (Or.inr ⟨by rfl, rfl⟩) ?_ ?_
        rotate_left
        · simp only [Act.put, qa, qb, qc, i64_w, i32_w]
          rfl
        refine pure_ (i := 14) (N := some 31) (v := undef) (a' := ?_) (qd 24 32767) rfl rfl (any_of HT_.out (by kernel_rfl)) (fun _ _ _ h => h) (Or.inr ⟨by rfl, rfl⟩) ?_ ?_
        rotate_left
        · simp only [Act.put, qa, qb, qc, i64_w, i32_w]
          rfl
        refine pure_ (i := 15) (N := some 32) (v := undef) (a' := ?_) (qd 24 65535) rfl rfl (any_of HT_.out (by kernel_rfl)) (fun _ _ _ h => h) (Or.inr ⟨by rfl, rfl⟩) ?_ ?_
        rotate_left
        · simp only [Act.put, qa, qb, qc, i64_w, i32_w]
          rfl
        refine pure_ (i := 16) (N := some 33) (v := ?_) (a' := ?_) (qd 24 131071) rfl rfl (any_of HT_.out (by kernel_rfl)) (fun _ _ _ h => h) (Or.inl ⟨by rfl, ?_⟩) ?_ ?_
        rotate_left
        · intro w'
          go_simp
          with_reducible rfl
        rotate_left
        · simp only [Act.put, qa, qb, qc, i64_w, i32_w]
          rfl
        refine pure_ (i := 17) (N := some 34) (v := ?_) (a' := ?_) (qd 24 262143) rfl rfl (any_of HT_.out (by kernel_rfl)) (fun _ _ _ h => h) (Or.inl ⟨by rfl, ?_⟩) ?_ ?_
        rotate_left
        · intro w'
          go_simp
          with_reducible rfl
        rotate_left
        · simp only [Act.put, qa, qb, qc, i64_w, i32_w]
          rfl
        refine pure_ (i := 18) (N := some 35) (v := undef) (a' := ?_) (qd 24 524287) rfl rfl (any_of HT_.out (by kernel_rfl)) (fun _ _ _ h => h) (Or.inr ⟨by rfl, rfl⟩) ?_ ?_
        rotate_left
        · simp only [Act.put, qa, qb, qc, i64_w, i32_w]
          rfl
        refine pure_ (i := 19) (N := some 36) (v := undef) (a' := ?_) (qd 24 1048575) rfl rfl (any_of HT_.out (by kernel_rfl)) (fun _ _ _ h => h) (Or.inr ⟨by rfl, rfl⟩) ?_ ?_
        rotate_left
        · simp only [Act.put, qa, qb, qc, i64_w, i32_w]
          rfl
        refine pure_ (i := 20) (N := some 37) (v := undef) (a' := ?_) (qd 24 2097151) rfl rfl (any_of HT_.out (by kernel_rfl)) (fun _ _ _ h => h) (Or.inr ⟨by rfl, rfl⟩) ?_ ?_
        rotate_left
        · simp only [Act.put, qa, qb, qc, i64_w, i32_w]
          rfl
        refine pure_ (i := 21) (N := some 38) (v := undef) (a' := ?_) (qd 24 4194303) rfl rfl (any_of HT_.out (by kernel_rfl)) (fun _ _ _ h => h) (Or.inr ⟨by rfl, rfl⟩) ?_ ?_
        rotate_left
        · simp only [Act.put, qa, qb, qc, i64_w, i32_w]
          rfl
        refine pure_ (i := 22) (N := some 39) (v := undef) (a' := ?_) (qd 24 8388607) rfl rfl (any_of HT_.out (by kernel_rfl)) (fun _ _ _ h => h) (Or.inr ⟨by rfl, rfl⟩) ?_ ?_
        rotate_left
        · simp only [Act.put, qa, qb, qc, i64_w, i32_w]
          rfl
        refine pure_ (i := 23) (N := some 40) (v := ?_) (a' := ?_) (qd 24 16777215) rfl rfl (any_of HT_.out (by kernel_rfl)) (fun _ _ _ h => h) (Or.inl ⟨by rfl, ?_⟩) ?_ ?_
        rotate_left
        · intro w'
          go_simp
          with_reducible rfl
        rotate_left
        · simp only [Act.put, qa, qb, qc, i64_w, i32_w]
          rfl
        refine done_ (done_of HT_.out (by kernel_rfl)) ?_
        clear hHeld
        go_wp2
        go_ret
        rw [HE.out]
        exact ⟨rfl, HB.out⟩
      · have HA := Aside0.mk ha
        clear ha
        by_cases hk0 : k = 0
        · subst hk0
          simp only [Int.natCast_zero] at hkc ⊢
          have hco : hasN l x 0 = false := rfl
          have HCO := Aside0.mk hco
          clear hco
          have OKS := Aside0.mk (show setAt (tasksN J J.length) l 0 = true by
            unfold setAt
            rw [← HX.out, HA.out, HCO.out]; rfl)
          have BO1 := Aside0.mk (blk_drew BO.out)
          have HB1 := Aside0.mk (below_drew1 HB.out)
          clear BO HB
          have BO := BO1
          have HB := HB1
          clear BO1 HB1
          refine start_ (n := 24) (S := fun w' => w'.heap[w.heap.size]? = some (.cells o 77 (0, 0)) ∧ w'.cell? ad = some (.int .i64 l0)) (ds := []) #[false, false, false, false, false, false, false, false, false, false, false, false, false, false, false, false, false, false, false, false, false, false, false, false] (by kernel_rfl) rfl rfl ⟨BO.out, pw_cell_below HB.out R0.out⟩ (fun hHeld => ?_)
          refine with_tabW se4tab se4bits (fun HT_ HW_ => ?_)
          generalize wr.drew = w1 at BO HB hHeld ⊢
          refine pure_ (i := 1) (N := some 18) (v := ?_) (a' := ?_) (qd 24 2) rfl rfl (any_of HT_.out (by kernel_rfl)) (fun _ _ _ h => h) (Or.inl ⟨by rfl, ?_⟩) ?_ ?_
          rotate_left
          · intro w'
            go_simp
            with_reducible rfl
          rotate_left
          · simp only [Act.put, qa, qb, qc, i64_w, i32_w]
            rfl
          refine take_ (i := 0) (N := some 17) (v := ?_) (a' := ?_) (qd 24 3) rfl rfl (take_ofW HT_.out HW_.out (by kernel_rfl)) (fun _ _ _ h => h) (Or.inl ⟨by rfl, ?_⟩) hHeld ?_ ?_
          rotate_left
          · rintro w' ⟨s0, s1⟩
            refine exec_load_row 77 (.tmp 4) ?_ w.heap.size ?_ 77 o (0, 0) _ s0 Try.underlying77 rfl HI.out <;> rfl
          rotate_left
          · simp only [Act.put, qa, qb, qc, i64_w, i32_w]
            rfl
          refine one_ (i := 2) (N := some 19) (qd 24 7) rfl rfl (one_of HT_.out (by kernel_rfl)) (by decide) (fun K hK => ?_)
          with_reducible refine goes_ (f := 69) (fn := Try.f69) (as0 := #[.tmp 17, .tmp 18]) (ts := #[77, 3]) ?q1 ?q2 ?q3 #[.agg o, .int .i64 x] ?q4 ?q5 ?q6 ?q7 ?q8
          (case q1 => exact Try.func69)
          (case q2 => kernel_rfl)
          (case q3 => kernel_rfl)
          (case q4 => rfl)
          (case q5 => rfl)
          (case q6 => rfl)
          (case q7 => (simp only [List.map_toArray, List.map_cons, List.map_nil]; rfl))
          case q8 =>
          refine (order_has.calls o g nx J x _ HO.out (IsShop.below HS.out HB.out)).mono ?_
          rw [HA.out]
          rintro e w2 ⟨rfl, hb⟩
          refine ⟨_, rfl, ?_⟩
          have n1 := Aside0.mk (blk_below BO.out hb)
          have n2 := Aside0.mk (below_then HB.out (below_size HB.out) hb)
          clear BO HB hb
          have BO := n1
          have HB := n2
          clear n1 n2
          refine hK.out _ _ ⟨BO.out, pw_cell_below HB.out R0.out⟩ (fun hHeld => ?_)
          clear hK K
          refine norm_ (a' := ?_) ?_ ?_
          rotate_left
          · show Act.put _ (some 19) _ = _
            simp only [Act.put, qa, qb, qc, i64_w, i32_w]
            rfl
          refine pure_ (i := 3) (N := some 20) (v := ?_) (a' := ?_) (qd 24 15) rfl rfl (any_of HT_.out (by kernel_rfl)) (fun _ _ _ h => h) (Or.inl ⟨by rfl, ?_⟩) ?_ ?_
          rotate_left
          · intro w'
            go_simp
            with_reducible rfl
          rotate_left
          · simp only [Act.put, qa, qb, qc, i64_w, i32_w]
            rfl
          refine pure_ (i := 4) (N := some 21) (v := ?_) (a' := ?_) (qd 24 31) rfl rfl (any_of HT_.out (by kernel_rfl)) (fun _ _ _ h => h) (Or.inl ⟨by rfl, ?_⟩) ?_ ?_
          rotate_left
          · intro w'
            go_simp
            with_reducible rfl
          rotate_left
          · simp only [Act.put, qa, qb, qc, i64_w, i32_w]
            rfl
          refine pure_ (i := 5) (N := some 22) (v := ?_) (a' := ?_) (qd 24 63) rfl rfl (any_of HT_.out (by kernel_rfl)) (fun _ _ _ h => h) (Or.inl ⟨by rfl, ?_⟩) ?_ ?_
          rotate_left
          · intro w'
            go_simp
            with_reducible rfl
          rotate_left
          · simp only [Act.put, qa, qb, qc, i64_w, i32_w]
            rfl
          refine pure_ (i := 6) (N := some 23) (v := ?_) (a' := ?_) (qd 24 127) rfl rfl (any_of HT_.out (by kernel_rfl)) (fun _ _ _ h => h) (Or.inl ⟨by rfl, ?_⟩) ?_ ?_
          rotate_left
          · intro w'
            go_simp
            with_reducible rfl
          rotate_left
          · simp only [Act.put, qa, qb, qc, i64_w, i32_w]
            rfl
          refine pure_ (i := 7) (N := some 24) (v := ?_) (a' := ?_) (qd 24 255) rfl rfl (any_of HT_.out (by kernel_rfl)) (fun _ _ _ h => h) (Or.inl ⟨by rfl, ?_⟩) ?_ ?_
          rotate_left
          · intro w'
            go_simp
            with_reducible rfl
          rotate_left
          · simp only [Act.put, qa, qb, qc, i64_w, i32_w]
            rfl
          refine pure_ (i := 8) (N := some 25) (v := undef) (a' := ?_) (qd 24 511) rfl rfl (any_of HT_.out (by kernel_rfl)) (fun _ _ _ h => h) (Or.inr ⟨by rfl, rfl⟩) ?_ ?_
          rotate_left
          · simp only [Act.put, qa, qb, qc, i64_w, i32_w]
            rfl
          refine pure_ (i := 9) (N := some 26) (v := undef) (a' := ?_) (qd 24 1023) rfl rfl (any_of HT_.out (by kernel_rfl)) (fun _ _ _ h => h) (Or.inr ⟨by rfl, rfl⟩) ?_ ?_
          rotate_left
          · simp only [Act.put, qa, qb, qc, i64_w, i32_w]
            rfl
          refine pure_ (i := 10) (N := some 27) (v := undef) (a' := ?_) (qd 24 2047) rfl rfl (any_of HT_.out (by kernel_rfl)) (fun _ _ _ h => h) (Or.inr ⟨by rfl, rfl⟩) ?_ ?_
          rotate_left
          · simp only [Act.put, qa, qb, qc, i64_w, i32_w]
            rfl
          refine pure_ (i := 11) (N := some 28) (v := undef) (a' := ?_) (qd 24 4095) rfl rfl (any_of HT_.out (by kernel_rfl)) (fun _ _ _ h => h) (Or.inr ⟨by rfl, rfl⟩) ?_ ?_
          rotate_left
          · simp only [Act.put, qa, qb, qc, i64_w, i32_w]
            rfl
          refine pure_ (i := 12) (N := some 29) (v := undef) (a' := ?_) (qd 24 8191) rfl rfl (any_of HT_.out (by kernel_rfl)) (fun _ _ _ h => h) (Or.inr ⟨by rfl, rfl⟩) ?_ ?_
          rotate_left
          · simp only [Act.put, qa, qb, qc, i64_w, i32_w]
            rfl
          refine pure_ (i := 13) (N := some 30) (v := undef) (a' := ?_) (qd 24 16383) rfl rfl (any_of HT_.out (by kernel_rfl)) (fun _ _ _ h => h) (Or.inr ⟨by rfl, rfl⟩) ?_ ?_
          rotate_left
          · simp only [Act.put, qa, qb, qc, i64_w, i32_w]
            rfl
          refine pure_ (i := 14) (N := some 31) (v := undef) (a' := ?_) (qd 24 32767) rfl rfl (any_of HT_.out (by kernel_rfl)) (fun _ _ _ h => h) (Or.inr ⟨by rfl, rfl⟩) ?_ ?_
          rotate_left
          · simp only [Act.put, qa, qb, qc, i64_w, i32_w]
            rfl
          refine pure_ (i := 15) (N := some 32) (v := ?_) (a' := ?_) (qd 24 65535) rfl rfl (any_of HT_.out (by kernel_rfl)) (fun _ _ _ h => h) (Or.inl ⟨by rfl, ?_⟩) ?_ ?_
          rotate_left
          · intro w'
            go_simp
            with_reducible rfl
          rotate_left
          · simp only [Act.put, qa, qb, qc, i64_w, i32_w]
            rfl
          refine pure_ (i := 16) (N := some 33) (v := ?_) (a' := ?_) (qd 24 131071) rfl rfl (any_of HT_.out (by kernel_rfl)) (fun _ _ _ h => h) (Or.inl ⟨by rfl, ?_⟩) ?_ ?_
          rotate_left
          · intro w'
            go_simp
            with_reducible rfl
          rotate_left
          · simp only [Act.put, qa, qb, qc, i64_w, i32_w]
            rfl
          refine pure_ (i := 17) (N := some 34) (v := ?_) (a' := ?_) (qd 24 262143) rfl rfl (any_of HT_.out (by kernel_rfl)) (fun _ _ _ h => h) (Or.inl ⟨by rfl, ?_⟩) ?_ ?_
          rotate_left
          · intro w'
            go_simp
            with_reducible rfl
          rotate_left
          · simp only [Act.put, qa, qb, qc, i64_w, i32_w]
            rfl
          refine pure_ (i := 18) (N := some 35) (v := ?_) (a' := ?_) (qd 24 524287) rfl rfl (any_of HT_.out (by kernel_rfl)) (fun _ _ _ h => h) (Or.inl ⟨by rfl, ?_⟩) ?_ ?_
          rotate_left
          · intro w'
            go_simp
            with_reducible rfl
          rotate_left
          · simp only [Act.put, qa, qb, qc, i64_w, i32_w]
            rfl
          refine pure_ (i := 19) (N := some 36) (v := ?_) (a' := ?_) (qd 24 1048575) rfl rfl (any_of HT_.out (by kernel_rfl)) (fun _ _ _ h => h) (Or.inl ⟨by rfl, ?_⟩) ?_ ?_
          rotate_left
          · intro w'
            go_simp
            with_reducible rfl
          rotate_left
          · simp only [Act.put, qa, qb, qc, i64_w, i32_w]
            rfl
          refine pure_ (i := 20) (N := some 37) (v := ?_) (a' := ?_) (qd 24 2097151) rfl rfl (any_of HT_.out (by kernel_rfl)) (fun _ _ _ h => h) (Or.inl ⟨by rfl, ?_⟩) ?_ ?_
          rotate_left
          · intro w'
            go_simp
            with_reducible rfl
          rotate_left
          · simp only [Act.put, qa, qb, qc, i64_w, i32_w]
            rfl
          refine pure_ (i := 21) (N := some 38) (v := ?_) (a' := ?_) (qd 24 4194303) rfl rfl (any_of HT_.out (by kernel_rfl)) (fun _ _ _ h => h) (Or.inl ⟨by rfl, ?_⟩) ?_ ?_
          rotate_left
          · intro w'
            go_simp
            with_reducible rfl
          rotate_left
          · simp only [Act.put, qa, qb, qc, i64_w, i32_w]
            rfl
          refine one_ (i := 22) (N := some 39) (qd 24 8388607) rfl rfl (one_of HT_.out (by kernel_rfl)) (by decide) (fun K hK => ?_)
          with_reducible refine goes_ (f := 70) (fn := Try.f70) (as0 := #[.tmp 37, .tmp 38]) (ts := #[26, 3]) ?s1 ?s2 ?s3 #[.slice (some ad) 0 c, .int .i64 x] ?s4 ?s5 ?s6 ?s7 ?s8
          (case s1 => exact Try.func70)
          (case s2 => kernel_rfl)
          (case s3 => kernel_rfl)
          (case s4 => rfl)
          (case s5 => rfl)
          (case s6 => rfl)
          (case s7 => (simp only [List.map_toArray, List.map_cons, List.map_nil]; rfl))
          case s8 =>
          refine (slices_Contains_take.calls (some ad) c l x 0 _ (by rw [← EM.out]; exact Kd.C_below HR.out HB.out) (by rw [← EM.out]; exact HC.out) (by rw [← EM.out]; exact hm) (by rw [← EM.out]; exact hk)).mono ?_
          rw [HCO.out]
          rintro e w2 ⟨rfl, hb⟩
          refine ⟨_, rfl, ?_⟩
          have n1 := Aside0.mk (blk_below BO.out hb)
          have n2 := Aside0.mk (below_then HB.out (below_size HB.out) hb)
          clear BO HB hb
          have BO := n1
          have HB := n2
          clear n1 n2
          refine hK.out _ _ ⟨BO.out, pw_cell_below HB.out R0.out⟩ (fun hHeld => ?_)
          clear hK K
          refine norm_ (a' := ?_) ?_ ?_
          rotate_left
          · show Act.put _ (some 39) _ = _
            simp only [Act.put, qa, qb, qc, i64_w, i32_w]
            rfl
          refine pure_ (i := 23) (N := some 40) (v := ?_) (a' := ?_) (qd 24 16777215) rfl rfl (any_of HT_.out (by kernel_rfl)) (fun _ _ _ h => h) (Or.inl ⟨by rfl, ?_⟩) ?_ ?_
          rotate_left
          · intro w'
            go_simp
            with_reducible rfl
          rotate_left
          · simp only [Act.put, qa, qb, qc, i64_w, i32_w]
            rfl
          refine done_ (done_of HT_.out (by kernel_rfl)) ?_
          clear hHeld
          go_wp2
          exact ⟨⟨0 + 1, by omega, rfl, ⟨by show (setN (tasksN J J.length) l 0 && setAt (tasksN J J.length) l 0) = true; rw [HK.out, OKS.out]; rfl⟩, BO, HB⟩, by simp [intOf]; omega⟩
        · obtain ⟨j, rfl⟩ : ∃ j, k = j + 1 := ⟨k - 1, by omega⟩
          have g1 : decide ((j : Int) + 1 > 0) = true := decide_eq_true (by omega)
          have g3 : (j : Int) + 1 ≤ (c : Int) := by omega
          have g4 : 0 ≤ (j : Int) + 1 := by omega
          clear hkc hk0
          cases hal : alikeB (tasksN J J.length) l0 x
          · have HAL := Aside0.mk hal
            clear hal
            have HE := Aside0.mk (show r = false by
              have h1 : setAt (tasksN J J.length) l (j + 1) = false := by
                unfold setAt
                rw [← HX.out, ← HL0.out, HA.out, HAL.out]; rfl
              have h2 := setN_false h1 (m - (j + 1 + 1))
              rw [show j + 1 + 1 + (m - (j + 1 + 1)) = m by omega, EM.out] at h2
              have h3 := HF.out
              unfold setF at h3
              rw [if_pos h2] at h3
              exact (Option.some.inj h3).symm)
            have BO1 := Aside0.mk (blk_drew BO.out)
            have HB1 := Aside0.mk (below_drew1 HB.out)
            clear BO HB
            have BO := BO1
            have HB := HB1
            clear BO1 HB1
            refine start_ (n := 24) (S := fun w' => w'.heap[w.heap.size]? = some (.cells o 77 (0, 0)) ∧ w'.cell? ad = some (.int .i64 l0)) (ds := []) #[false, false, false, false, false, false, false, false, false, false, false, false, false, false, false, false, false, false, false, false, false, false, false, false] (by kernel_rfl) rfl rfl ⟨BO.out, pw_cell_below HB.out R0.out⟩ (fun hHeld => ?_)
            refine with_tabW se4tab se4bits (fun HT_ HW_ => ?_)
            generalize wr.drew = w1 at BO HB hHeld ⊢
            refine pure_ (i := 1) (N := some 18) (v := ?_) (a' := ?_) (qd 24 2) rfl rfl (any_of HT_.out (by kernel_rfl)) (fun _ _ _ h => h) (Or.inl ⟨by rfl, ?_⟩) ?_ ?_
            rotate_left
            · intro w'
              go_simp
              with_reducible rfl
            rotate_left
            · simp only [Act.put, qa, qb, qc, i64_w, i32_w]
              rfl
            refine take_ (i := 0) (N := some 17) (v := ?_) (a' := ?_) (qd 24 3) rfl rfl (take_ofW HT_.out HW_.out (by kernel_rfl)) (fun _ _ _ h => h) (Or.inl ⟨by rfl, ?_⟩) hHeld ?_ ?_
            rotate_left
            · rintro w' ⟨s0, s1⟩
              refine exec_load_row 77 (.tmp 4) ?_ w.heap.size ?_ 77 o (0, 0) _ s0 Try.underlying77 rfl HI.out <;> rfl
            rotate_left
            · simp only [Act.put, qa, qb, qc, i64_w, i32_w]
              rfl
            refine one_ (i := 2) (N := some 19) (qd 24 7) rfl rfl (one_of HT_.out (by kernel_rfl)) (by decide) (fun K hK => ?_)
            with_reducible refine goes_ (f := 69) (fn := Try.f69) (as0 := #[.tmp 17, .tmp 18]) (ts := #[77, 3]) ?q1 ?q2 ?q3 #[.agg o, .int .i64 x] ?q4 ?q5 ?q6 ?q7 ?q8
            (case q1 => exact Try.func69)
            (case q2 => kernel_rfl)
            (case q3 => kernel_rfl)
            (case q4 => rfl)
            (case q5 => rfl)
            (case q6 => rfl)
            (case q7 => (simp only [List.map_toArray, List.map_cons, List.map_nil]; rfl))
            case q8 =>
            refine (order_has.calls o g nx J x _ HO.out (IsShop.below HS.out HB.out)).mono ?_
            rw [HA.out]
            rintro e w2 ⟨rfl, hb⟩
            refine ⟨_, rfl, ?_⟩
            have n1 := Aside0.mk (blk_below BO.out hb)
            have n2 := Aside0.mk (below_then HB.out (below_size HB.out) hb)
            clear BO HB hb
            have BO := n1
            have HB := n2
            clear n1 n2
            refine hK.out _ _ ⟨BO.out, pw_cell_below HB.out R0.out⟩ (fun hHeld => ?_)
            clear hK K
            refine norm_ (a' := ?_) ?_ ?_
            rotate_left
            · show Act.put _ (some 19) _ = _
              simp only [Act.put, qa, qb, qc, i64_w, i32_w]
              rfl
            refine pure_ (i := 3) (N := some 20) (v := ?_) (a' := ?_) (qd 24 15) rfl rfl (any_of HT_.out (by kernel_rfl)) (fun _ _ _ h => h) (Or.inl ⟨by rfl, ?_⟩) ?_ ?_
            rotate_left
            · intro w'
              go_simp
              with_reducible rfl
            rotate_left
            · simp only [Act.put, qa, qb, qc, i64_w, i32_w]
              rfl
            refine pure_ (i := 4) (N := some 21) (v := ?_) (a' := ?_) (qd 24 31) rfl rfl (any_of HT_.out (by kernel_rfl)) (fun _ _ _ h => h) (Or.inl ⟨by rfl, ?_⟩) ?_ ?_
            rotate_left
            · intro w'
              go_simp
              with_reducible rfl
            rotate_left
            · simp only [Act.put, qa, qb, qc, i64_w, i32_w]
              rfl
            refine pure_ (i := 5) (N := some 22) (v := ?_) (a' := ?_) (qd 24 63) rfl rfl (any_of HT_.out (by kernel_rfl)) (fun _ _ _ h => h) (Or.inl ⟨by rfl, ?_⟩) ?_ ?_
            rotate_left
            · intro w'
              go_simp
              with_reducible rfl
            rotate_left
            · simp only [Act.put, qa, qb, qc, i64_w, i32_w]
              rfl
            refine pure_ (i := 6) (N := some 23) (v := ?_) (a' := ?_) (qd 24 127) rfl rfl (any_of HT_.out (by kernel_rfl)) (fun _ _ _ h => h) (Or.inl ⟨by rfl, ?_⟩) ?_ ?_
            rotate_left
            · intro w'
              go_simp
              with_reducible rfl
            rotate_left
            · simp only [Act.put, qa, qb, qc, i64_w, i32_w]
              rfl
            refine pure_ (i := 7) (N := some 24) (v := ?_) (a' := ?_) (qd 24 255) rfl rfl (any_of HT_.out (by kernel_rfl)) (fun _ _ _ h => h) (Or.inl ⟨by rfl, ?_⟩) ?_ ?_
            rotate_left
            · intro w'
              go_simp
              with_reducible rfl
            rotate_left
            · simp only [Act.put, qa, qb, qc, i64_w, i32_w]
              rfl
            refine pure_ (i := 9) (N := some 26) (v := ?_) (a' := ?_) (qd 24 767) rfl rfl (any_of HT_.out (by kernel_rfl)) (fun _ _ _ h => h) (Or.inl ⟨by rfl, ?_⟩) ?_ ?_
            rotate_left
            · intro w'
              go_simp
              with_reducible rfl
            rotate_left
            · simp only [Act.put, qa, qb, qc, i64_w, i32_w]
              rfl
            refine pure_ (i := 10) (N := some 27) (v := ?_) (a' := ?_) (qd 24 1791) rfl rfl (any_of HT_.out (by kernel_rfl)) (fun _ _ _ h => h) (Or.inl ⟨by rfl, ?_⟩) ?_ ?_
            rotate_left
            · intro w'
              go_simp
              with_reducible rfl
            rotate_left
            · simp only [Act.put, qa, qb, qc, i64_w, i32_w]
              rfl
            refine pure_ (i := 12) (N := some 29) (v := ?_) (a' := ?_) (qd 24 5887) rfl rfl (any_of HT_.out (by kernel_rfl)) (fun _ _ _ h => h) (Or.inl ⟨by rfl, ?_⟩) ?_ ?_
            rotate_left
            · intro w'
              go_simp
              with_reducible rfl
            rotate_left
            · simp only [Act.put, qa, qb, qc, i64_w, i32_w]
              rfl
            refine take_ (i := 8) (N := some 25) (v := ?_) (a' := ?_) (qd 24 6143) rfl rfl (take_ofW HT_.out HW_.out (by kernel_rfl)) (fun _ _ _ h => h) (Or.inl ⟨by rfl, ?_⟩) hHeld ?_ ?_
            rotate_left
            · rintro w' ⟨s0, s1⟩
              refine exec_load_row 77 (.tmp 4) ?_ w.heap.size ?_ 77 o (0, 0) _ s0 Try.underlying77 rfl HI.out <;> rfl
            rotate_left
            · simp only [Act.put, qa, qb, qc, i64_w, i32_w]
              rfl
            refine take_ (i := 11) (N := some 28) (v := ?_) (a' := ?_) (qd 24 8191) rfl rfl (take_ofW HT_.out HW_.out (by kernel_rfl)) (fun _ _ _ h => h) (Or.inl ⟨by rfl, ?_⟩) hHeld ?_ ?_
            rotate_left
            · rintro w' ⟨s0, s1⟩
              go_simp
              with_reducible rfl
            rotate_left
            · simp only [Act.put, qa, qb, qc, i64_w, i32_w]
              rfl
            refine one_ (i := 13) (N := some 30) (qd 24 16383) rfl rfl (one_of HT_.out (by kernel_rfl)) (by decide) (fun K hK => ?_)
            with_reducible refine goes_ (f := 55) (fn := Try.f55) (as0 := #[.tmp 25, .tmp 28, .tmp 29]) (ts := #[77, 3, 3]) ?r1 ?r2 ?r3 #[.agg o, .int .i64 l0, .int .i64 x] ?r4 ?r5 ?r6 ?r7 ?r8
            (case r1 => exact Try.func55)
            (case r2 => kernel_rfl)
            (case r3 => kernel_rfl)
            (case r4 => rfl)
            (case r5 => rfl)
            (case r6 => rfl)
            (case r7 => (simp only [List.map_toArray, List.map_cons, List.map_nil]; rfl))
            case r8 =>
            refine (order_alike.calls o g nx J l0 x _ HO.out (IsShop.below HS.out HB.out)).mono ?_
            rw [HAL.out]
            rintro e w2 ⟨rfl, hb⟩
            refine ⟨_, rfl, ?_⟩
            have n1 := Aside0.mk (blk_below BO.out hb)
            have n2 := Aside0.mk (below_then HB.out (below_size HB.out) hb)
            clear BO HB hb
            have BO := n1
            have HB := n2
            clear n1 n2
            refine hK.out _ _ ⟨BO.out, pw_cell_below HB.out R0.out⟩ (fun hHeld => ?_)
            clear hK K
            refine norm_ (a' := ?_) ?_ ?_
            rotate_left
            · show Act.put _ (some 30) _ = _
              simp only [Act.put, qa, qb, qc, i64_w, i32_w]
              rfl
            refine pure_ (i := 14) (N := some 31) (v := ?_) (a' := ?_) (qd 24 32767) rfl rfl (any_of HT_.out (by kernel_rfl)) (fun _ _ _ h => h) (Or.inl ⟨by rfl, ?_⟩) ?_ ?_
            rotate_left
            · intro w'
              go_simp
              with_reducible rfl
            rotate_left
            · simp only [Act.put, qa, qb, qc, i64_w, i32_w]
              rfl
            refine pure_ (i := 15) (N := some 32) (v := ?_) (a' := ?_) (qd 24 65535) rfl rfl (any_of HT_.out (by kernel_rfl)) (fun _ _ _ h => h) (Or.inl ⟨by rfl, ?_⟩) ?_ ?_
            rotate_left
            · intro w'
              go_simp
              with_reducible rfl
            rotate_left
            · simp only [Act.put, qa, qb, qc, i64_w, i32_w]
              rfl
            refine pure_ (i := 16) (N := some 33) (v := ?_) (a' := ?_) (qd 24 131071) rfl rfl (any_of HT_.out (by kernel_rfl)) (fun _ _ _ h => h) (Or.inl ⟨by rfl, ?_⟩) ?_ ?_
            rotate_left
            · intro w'
              go_simp
              with_reducible rfl
            rotate_left
            · simp only [Act.put, qa, qb, qc, i64_w, i32_w]
              rfl
            refine pure_ (i := 17) (N := some 34) (v := ?_) (a' := ?_) (qd 24 262143) rfl rfl (any_of HT_.out (by kernel_rfl)) (fun _ _ _ h => h) (Or.inl ⟨by rfl, ?_⟩) ?_ ?_
            rotate_left
            · intro w'
              go_simp
              with_reducible rfl
            rotate_left
            · simp only [Act.put, qa, qb, qc, i64_w, i32_w]
              rfl
            refine pure_ (i := 18) (N := some 35) (v := undef) (a' := ?_) (qd 24 524287) rfl rfl (any_of HT_.out (by kernel_rfl)) (fun _ _ _ h => h) (Or.inr ⟨by rfl, rfl⟩) ?_ ?_
            rotate_left
            · simp only [Act.put, qa, qb, qc, i64_w, i32_w]
              rfl
            refine pure_ (i := 19) (N := some 36) (v := undef) (a' := ?_) (qd 24 1048575) rfl rfl (any_of HT_.out (by kernel_rfl)) (fun _ _ _ h => h) (Or.inr ⟨by rfl, rfl⟩) ?_ ?_
            rotate_left
            · simp only [Act.put, qa, qb, qc, i64_w, i32_w]
              rfl
            refine pure_ (i := 20) (N := some 37) (v := undef) (a' := ?_) (qd 24 2097151) rfl rfl (any_of HT_.out (by kernel_rfl)) (fun _ _ _ h => h) (Or.inr ⟨by rfl, rfl⟩) ?_ ?_
            rotate_left
            · simp only [Act.put, qa, qb, qc, i64_w, i32_w]
              rfl
            refine pure_ (i := 21) (N := some 38) (v := undef) (a' := ?_) (qd 24 4194303) rfl rfl (any_of HT_.out (by kernel_rfl)) (fun _ _ _ h => h) (Or.inr ⟨by rfl, rfl⟩) ?_ ?_
            rotate_left
            · simp only [Act.put, qa, qb, qc, i64_w, i32_w]
              rfl
            refine pure_ (i := 22) (N := some 39) (v := undef) (a' := ?_) (qd 24 8388607) rfl rfl (any_of HT_.out (by kernel_rfl)) (fun _ _ _ h => h) (Or.inr ⟨by rfl, rfl⟩) ?_ ?_
            rotate_left
            · simp only [Act.put, qa, qb, qc, i64_w, i32_w]
              rfl
            refine pure_ (i := 23) (N := some 40) (v := ?_) (a' := ?_) (qd 24 16777215) rfl rfl (any_of HT_.out (by kernel_rfl)) (fun _ _ _ h => h) (Or.inl ⟨by rfl, ?_⟩) ?_ ?_
            rotate_left
            · intro w'
              go_simp
              with_reducible rfl
            rotate_left
            · simp only [Act.put, qa, qb, qc, i64_w, i32_w]
              rfl
            refine done_ (done_of HT_.out (by kernel_rfl)) ?_
            clear hHeld
            go_wp2
            go_ret
            rw [HE.out]
            exact ⟨rfl, HB.out⟩
          · have HAL := Aside0.mk hal
            clear hal
            cases hco : hasN l x (j + 1)
            · have HCO := Aside0.mk hco
              clear hco
              have OKS := Aside0.mk (show setAt (tasksN J J.length) l (j + 1) = true by
                unfold setAt
                rw [← HX.out, ← HL0.out, HA.out, HAL.out, HCO.out, Bool.or_true]; rfl)
              have BO1 := Aside0.mk (blk_drew BO.out)
              have HB1 := Aside0.mk (below_drew1 HB.out)
              clear BO HB
              have BO := BO1
              have HB := HB1
              clear BO1 HB1
              refine start_ (n := 24) (S := fun w' => w'.heap[w.heap.size]? = some (.cells o 77 (0, 0)) ∧ w'.cell? ad = some (.int .i64 l0)) (ds := []) #[false, false, false, false, false, false, false, false, false, false, false, false, false, false, false, false, false, false, false, false, false, false, false, false] (by kernel_rfl) rfl rfl ⟨BO.out, pw_cell_below HB.out R0.out⟩ (fun hHeld => ?_)
              refine with_tabW se4tab se4bits (fun HT_ HW_ => ?_)
              generalize wr.drew = w1 at BO HB hHeld ⊢
              refine pure_ (i := 1) (N := some 18) (v := ?_) (a' := ?_) (qd 24 2) rfl rfl (any_of HT_.out (by kernel_rfl)) (fun _ _ _ h => h) (Or.inl ⟨by rfl, ?_⟩) ?_ ?_
              rotate_left
              · intro w'
                go_simp
                with_reducible rfl
              rotate_left
              · simp only [Act.put, qa, qb, qc, i64_w, i32_w]
                rfl
              refine take_ (i := 0) (N := some 17) (v := ?_) (a' := ?_) (qd 24 3) rfl rfl (take_ofW HT_.out HW_.out (by kernel_rfl)) (fun _ _ _ h => h) (Or.inl ⟨by rfl, ?_⟩) hHeld ?_ ?_
              rotate_left
              · rintro w' ⟨s0, s1⟩
                refine exec_load_row 77 (.tmp 4) ?_ w.heap.size ?_ 77 o (0, 0) _ s0 Try.underlying77 rfl HI.out <;> rfl
              rotate_left
              · simp only [Act.put, qa, qb, qc, i64_w, i32_w]
                rfl
              refine one_ (i := 2) (N := some 19) (qd 24 7) rfl rfl (one_of HT_.out (by kernel_rfl)) (by decide) (fun K hK => ?_)
              with_reducible refine goes_ (f := 69) (fn := Try.f69) (as0 := #[.tmp 17, .tmp 18]) (ts := #[77, 3]) ?q1 ?q2 ?q3 #[.agg o, .int .i64 x] ?q4 ?q5 ?q6 ?q7 ?q8
              (case q1 => exact Try.func69)
              (case q2 => kernel_rfl)
              (case q3 => kernel_rfl)
              (case q4 => rfl)
              (case q5 => rfl)
              (case q6 => rfl)
              (case q7 => (simp only [List.map_toArray, List.map_cons, List.map_nil]; rfl))
              case q8 =>
              refine (order_has.calls o g nx J x _ HO.out (IsShop.below HS.out HB.out)).mono ?_
              rw [HA.out]
              rintro e w2 ⟨rfl, hb⟩
              refine ⟨_, rfl, ?_⟩
              have n1 := Aside0.mk (blk_below BO.out hb)
              have n2 := Aside0.mk (below_then HB.out (below_size HB.out) hb)
              clear BO HB hb
              have BO := n1
              have HB := n2
              clear n1 n2
              refine hK.out _ _ ⟨BO.out, pw_cell_below HB.out R0.out⟩ (fun hHeld => ?_)
              clear hK K
              refine norm_ (a' := ?_) ?_ ?_
              rotate_left
              · show Act.put _ (some 19) _ = _
                simp only [Act.put, qa, qb, qc, i64_w, i32_w]
                rfl
              refine pure_ (i := 3) (N := some 20) (v := ?_) (a' := ?_) (qd 24 15) rfl rfl (any_of HT_.out (by kernel_rfl)) (fun _ _ _ h => h) (Or.inl ⟨by rfl, ?_⟩) ?_ ?_
              rotate_left
              · intro w'
                go_simp
                with_reducible rfl
              rotate_left
              · simp only [Act.put, qa, qb, qc, i64_w, i32_w]
                rfl
              refine pure_ (i := 4) (N := some 21) (v := ?_) (a' := ?_) (qd 24 31) rfl rfl (any_of HT_.out (by kernel_rfl)) (fun _ _ _ h => h) (Or.inl ⟨by rfl, ?_⟩) ?_ ?_
              rotate_left
              · intro w'
                go_simp
                with_reducible rfl
              rotate_left
              · simp only [Act.put, qa, qb, qc, i64_w, i32_w]
                rfl
              refine pure_ (i := 5) (N := some 22) (v := ?_) (a' := ?_) (qd 24 63) rfl rfl (any_of HT_.out (by kernel_rfl)) (fun _ _ _ h => h) (Or.inl ⟨by rfl, ?_⟩) ?_ ?_
              rotate_left
              · intro w'
                go_simp
                with_reducible rfl
              rotate_left
              · simp only [Act.put, qa, qb, qc, i64_w, i32_w]
                rfl
              refine pure_ (i := 6) (N := some 23) (v := ?_) (a' := ?_) (qd 24 127) rfl rfl (any_of HT_.out (by kernel_rfl)) (fun _ _ _ h => h) (Or.inl ⟨by rfl, ?_⟩) ?_ ?_
              rotate_left
              · intro w'
                go_simp
                with_reducible rfl
              rotate_left
              · simp only [Act.put, qa, qb, qc, i64_w, i32_w]
                rfl
              refine pure_ (i := 7) (N := some 24) (v := ?_) (a' := ?_) (qd 24 255) rfl rfl (any_of HT_.out (by kernel_rfl)) (fun _ _ _ h => h) (Or.inl ⟨by rfl, ?_⟩) ?_ ?_
              rotate_left
              · intro w'
                go_simp
                with_reducible rfl
              rotate_left
              · simp only [Act.put, qa, qb, qc, i64_w, i32_w]
                rfl
              refine pure_ (i := 9) (N := some 26) (v := ?_) (a' := ?_) (qd 24 767) rfl rfl (any_of HT_.out (by kernel_rfl)) (fun _ _ _ h => h) (Or.inl ⟨by rfl, ?_⟩) ?_ ?_
              rotate_left
              · intro w'
                go_simp
                with_reducible rfl
              rotate_left
              · simp only [Act.put, qa, qb, qc, i64_w, i32_w]
                rfl
              refine pure_ (i := 10) (N := some 27) (v := ?_) (a' := ?_) (qd 24 1791) rfl rfl (any_of HT_.out (by kernel_rfl)) (fun _ _ _ h => h) (Or.inl ⟨by rfl, ?_⟩) ?_ ?_
              rotate_left
              · intro w'
                go_simp
                with_reducible rfl
              rotate_left
              · simp only [Act.put, qa, qb, qc, i64_w, i32_w]
                rfl
              refine pure_ (i := 12) (N := some 29) (v := ?_) (a' := ?_) (qd 24 5887) rfl rfl (any_of HT_.out (by kernel_rfl)) (fun _ _ _ h => h) (Or.inl ⟨by rfl, ?_⟩) ?_ ?_
              rotate_left
              · intro w'
                go_simp
                with_reducible rfl
              rotate_left
              · simp only [Act.put, qa, qb, qc, i64_w, i32_w]
                rfl
              refine take_ (i := 8) (N := some 25) (v := ?_) (a' := ?_) (qd 24 6143) rfl rfl (take_ofW HT_.out HW_.out (by kernel_rfl)) (fun _ _ _ h => h) (Or.inl ⟨by rfl, ?_⟩) hHeld ?_ ?_
              rotate_left
              · rintro w' ⟨s0, s1⟩
                refine exec_load_row 77 (.tmp 4) ?_ w.heap.size ?_ 77 o (0, 0) _ s0 Try.underlying77 rfl HI.out <;> rfl
              rotate_left
              · simp only [Act.put, qa, qb, qc, i64_w, i32_w]
                rfl
              refine take_ (i := 11) (N := some 28) (v := ?_) (a' := ?_) (qd 24 8191) rfl rfl (take_ofW HT_.out HW_.out (by kernel_rfl)) (fun _ _ _ h => h) (Or.inl ⟨by rfl, ?_⟩) hHeld ?_ ?_
              rotate_left
              · rintro w' ⟨s0, s1⟩
                go_simp
                with_reducible rfl
              rotate_left
              · simp only [Act.put, qa, qb, qc, i64_w, i32_w]
                rfl
              refine one_ (i := 13) (N := some 30) (qd 24 16383) rfl rfl (one_of HT_.out (by kernel_rfl)) (by decide) (fun K hK => ?_)
              with_reducible refine goes_ (f := 55) (fn := Try.f55) (as0 := #[.tmp 25, .tmp 28, .tmp 29]) (ts := #[77, 3, 3]) ?r1 ?r2 ?r3 #[.agg o, .int .i64 l0, .int .i64 x] ?r4 ?r5 ?r6 ?r7 ?r8
              (case r1 => exact Try.func55)
              (case r2 => kernel_rfl)
              (case r3 => kernel_rfl)
              (case r4 => rfl)
              (case r5 => rfl)
              (case r6 => rfl)
              (case r7 => (simp only [List.map_toArray, List.map_cons, List.map_nil]; rfl))
              case r8 =>
              refine (order_alike.calls o g nx J l0 x _ HO.out (IsShop.below HS.out HB.out)).mono ?_
              rw [HAL.out]
              rintro e w2 ⟨rfl, hb⟩
              refine ⟨_, rfl, ?_⟩
              have n1 := Aside0.mk (blk_below BO.out hb)
              have n2 := Aside0.mk (below_then HB.out (below_size HB.out) hb)
              clear BO HB hb
              have BO := n1
              have HB := n2
              clear n1 n2
              refine hK.out _ _ ⟨BO.out, pw_cell_below HB.out R0.out⟩ (fun hHeld => ?_)
              clear hK K
              refine norm_ (a' := ?_) ?_ ?_
              rotate_left
              · show Act.put _ (some 30) _ = _
                simp only [Act.put, qa, qb, qc, i64_w, i32_w]
                rfl
              refine pure_ (i := 14) (N := some 31) (v := ?_) (a' := ?_) (qd 24 32767) rfl rfl (any_of HT_.out (by kernel_rfl)) (fun _ _ _ h => h) (Or.inl ⟨by rfl, ?_⟩) ?_ ?_
              rotate_left
              · intro w'
                go_simp
                with_reducible rfl
              rotate_left
              · simp only [Act.put, qa, qb, qc, i64_w, i32_w]
                rfl
              refine pure_ (i := 15) (N := some 32) (v := ?_) (a' := ?_) (qd 24 65535) rfl rfl (any_of HT_.out (by kernel_rfl)) (fun _ _ _ h => h) (Or.inl ⟨by rfl, ?_⟩) ?_ ?_
              rotate_left
              · intro w'
                go_simp
                with_reducible rfl
              rotate_left
              · simp only [Act.put, qa, qb, qc, i64_w, i32_w]
                rfl
              refine pure_ (i := 16) (N := some 33) (v := ?_) (a' := ?_) (qd 24 131071) rfl rfl (any_of HT_.out (by kernel_rfl)) (fun _ _ _ h => h) (Or.inl ⟨by rfl, ?_⟩) ?_ ?_
              rotate_left
              · intro w'
                go_simp
                with_reducible rfl
              rotate_left
              · simp only [Act.put, qa, qb, qc, i64_w, i32_w]
                rfl
              refine pure_ (i := 17) (N := some 34) (v := ?_) (a' := ?_) (qd 24 262143) rfl rfl (any_of HT_.out (by kernel_rfl)) (fun _ _ _ h => h) (Or.inl ⟨by rfl, ?_⟩) ?_ ?_
              rotate_left
              · intro w'
                go_simp
                with_reducible rfl
              rotate_left
              · simp only [Act.put, qa, qb, qc, i64_w, i32_w]
                rfl
              refine pure_ (i := 18) (N := some 35) (v := ?_) (a' := ?_) (qd 24 524287) rfl rfl (any_of HT_.out (by kernel_rfl)) (fun _ _ _ h => h) (Or.inl ⟨by rfl, ?_⟩) ?_ ?_
              rotate_left
              · intro w'
                go_simp
                with_reducible rfl
              rotate_left
              · simp only [Act.put, qa, qb, qc, i64_w, i32_w]
                rfl
              refine pure_ (i := 19) (N := some 36) (v := ?_) (a' := ?_) (qd 24 1048575) rfl rfl (any_of HT_.out (by kernel_rfl)) (fun _ _ _ h => h) (Or.inl ⟨by rfl, ?_⟩) ?_ ?_
              rotate_left
              · intro w'
                go_simp
                with_reducible rfl
              rotate_left
              · simp only [Act.put, qa, qb, qc, i64_w, i32_w]
                rfl
              refine pure_ (i := 20) (N := some 37) (v := ?_) (a' := ?_) (qd 24 2097151) rfl rfl (any_of HT_.out (by kernel_rfl)) (fun _ _ _ h => h) (Or.inl ⟨by rfl, ?_⟩) ?_ ?_
              rotate_left
              · intro w'
                go_simp
                with_reducible rfl
              rotate_left
              · simp only [Act.put, qa, qb, qc, i64_w, i32_w]
                rfl
              refine pure_ (i := 21) (N := some 38) (v := ?_) (a' := ?_) (qd 24 4194303) rfl rfl (any_of HT_.out (by kernel_rfl)) (fun _ _ _ h => h) (Or.inl ⟨by rfl, ?_⟩) ?_ ?_
              rotate_left
              · intro w'
                go_simp
                with_reducible rfl
              rotate_left
              · simp only [Act.put, qa, qb, qc, i64_w, i32_w]
                rfl
              refine one_ (i := 22) (N := some 39) (qd 24 8388607) rfl rfl (one_of HT_.out (by kernel_rfl)) (by decide) (fun K hK => ?_)
              with_reducible refine goes_ (f := 70) (fn := Try.f70) (as0 := #[.tmp 37, .tmp 38]) (ts := #[26, 3]) ?s1 ?s2 ?s3 #[.slice (some ad) (j + 1) c, .int .i64 x] ?s4 ?s5 ?s6 ?s7 ?s8
              (case s1 => exact Try.func70)
              (case s2 => kernel_rfl)
              (case s3 => kernel_rfl)
              (case s4 => rfl)
              (case s5 => rfl)
              (case s6 => rfl)
              (case s7 => (simp only [List.map_toArray, List.map_cons, List.map_nil]; rfl))
              case s8 =>
              refine (slices_Contains_take.calls (some ad) c l x (j + 1) _ (by rw [← EM.out]; exact Kd.C_below HR.out HB.out) (by rw [← EM.out]; exact HC.out) (by rw [← EM.out]; exact hm) (by rw [← EM.out]; exact hk)).mono ?_
              rw [HCO.out]
              rintro e w2 ⟨rfl, hb⟩
              refine ⟨_, rfl, ?_⟩
              have n1 := Aside0.mk (blk_below BO.out hb)
              have n2 := Aside0.mk (below_then HB.out (below_size HB.out) hb)
              clear BO HB hb
              have BO := n1
              have HB := n2
              clear n1 n2
              refine hK.out _ _ ⟨BO.out, pw_cell_below HB.out R0.out⟩ (fun hHeld => ?_)
              clear hK K
              refine norm_ (a' := ?_) ?_ ?_
              rotate_left
              · show Act.put _ (some 39) _ = _
                simp only [Act.put, qa, qb, qc, i64_w, i32_w]
                rfl
              refine pure_ (i := 23) (N := some 40) (v := ?_) (a' := ?_) (qd 24 16777215) rfl rfl (any_of HT_.out (by kernel_rfl)) (fun _ _ _ h => h) (Or.inl ⟨by rfl, ?_⟩) ?_ ?_
              rotate_left
              · intro w'
                go_simp
                with_reducible rfl
              rotate_left
              · simp only [Act.put, qa, qb, qc, i64_w, i32_w]
                rfl
              refine done_ (done_of HT_.out (by kernel_rfl)) ?_
              clear hHeld
              go_wp2
              exact ⟨⟨j + 1 + 1, by omega, rfl, ⟨by show (setN (tasksN J J.length) l (j + 1) && setAt (tasksN J J.length) l (j + 1)) = true; rw [HK.out, OKS.out]; rfl⟩, BO, HB⟩, by simp [intOf]; omega⟩
            · have HCO := Aside0.mk hco
              clear hco
              have HE := Aside0.mk (show r = false by
                have h1 : setAt (tasksN J J.length) l (j + 1) = false := by
                  unfold setAt
                  rw [← HX.out, ← HL0.out, HA.out, HAL.out, HCO.out, Bool.or_true]; rfl
                have h2 := setN_false h1 (m - (j + 1 + 1))
                rw [show j + 1 + 1 + (m - (j + 1 + 1)) = m by omega, EM.out] at h2
                have h3 := HF.out
                unfold setF at h3
                rw [if_pos h2] at h3
                exact (Option.some.inj h3).symm)
              have BO1 := Aside0.mk (blk_drew BO.out)
              have HB1 := Aside0.mk (below_drew1 HB.out)
              clear BO HB
              have BO := BO1
              have HB := HB1
              clear BO1 HB1
              refine start_ (n := 24) (S := fun w' => w'.heap[w.heap.size]? = some (.cells o 77 (0, 0)) ∧ w'.cell? ad = some (.int .i64 l0)) (ds := []) #[false, false, false, false, false, false, false, false, false, false, false, false, false, false, false, false, false, false, false, false, false, false, false, false] (by kernel_rfl) rfl rfl ⟨BO.out, pw_cell_below HB.out R0.out⟩ (fun hHeld => ?_)
              refine with_tabW se4tab se4bits (fun HT_ HW_ => ?_)
              generalize wr.drew = w1 at BO HB hHeld ⊢
              refine pure_ (i := 1) (N := some 18) (v := ?_) (a' := ?_) (qd 24 2) rfl rfl (any_of HT_.out (by kernel_rfl)) (fun _ _ _ h => h) (Or.inl ⟨by rfl, ?_⟩) ?_ ?_
              rotate_left
              · intro w'
                go_simp
                with_reducible rfl
              rotate_left
              · simp only [Act.put, qa, qb, qc, i64_w, i32_w]
                rfl
              refine take_ (i := 0) (N := some 17) (v := ?_) (a' := ?_) (qd 24 3) rfl rfl (take_ofW HT_.out HW_.out (by kernel_rfl)) (fun _ _ _ h => h) (Or.inl ⟨by rfl, ?_⟩) hHeld ?_ ?_
              rotate_left
              · rintro w' ⟨s0, s1⟩
                refine exec_load_row 77 (.tmp 4) ?_ w.heap.size ?_ 77 o (0, 0) _ s0 Try.underlying77 rfl HI.out <;> rfl
              rotate_left
              · simp only [Act.put, qa, qb, qc, i64_w, i32_w]
                rfl
              refine one_ (i := 2) (N := some 19) (qd 24 7) rfl rfl (one_of HT_.out (by kernel_rfl)) (by decide) (fun K hK => ?_)
              with_reducible refine goes_ (f := 69) (fn := Try.f69) (as0 := #[.tmp 17, .tmp 18]) (ts := #[77, 3]) ?q1 ?q2 ?q3 #[.agg o, .int .i64 x] ?q4 ?q5 ?q6 ?q7 ?q8
              (case q1 => exact Try.func69)
              (case q2 => kernel_rfl)
              (case q3 => kernel_rfl)
              (case q4 => rfl)
              (case q5 => rfl)
              (case q6 => rfl)
              (case q7 => (simp only [List.map_toArray, List.map_cons, List.map_nil]; rfl))
              case q8 =>
              refine (order_has.calls o g nx J x _ HO.out (IsShop.below HS.out HB.out)).mono ?_
              rw [HA.out]
              rintro e w2 ⟨rfl, hb⟩
              refine ⟨_, rfl, ?_⟩
              have n1 := Aside0.mk (blk_below BO.out hb)
              have n2 := Aside0.mk (below_then HB.out (below_size HB.out) hb)
              clear BO HB hb
              have BO := n1
              have HB := n2
              clear n1 n2
              refine hK.out _ _ ⟨BO.out, pw_cell_below HB.out R0.out⟩ (fun hHeld => ?_)
              clear hK K
              refine norm_ (a' := ?_) ?_ ?_
              rotate_left
              · show Act.put _ (some 19) _ = _
                simp only [Act.put, qa, qb, qc, i64_w, i32_w]
                rfl
              refine pure_ (i := 3) (N := some 20) (v := ?_) (a' := ?_) (qd 24 15) rfl rfl (any_of HT_.out (by kernel_rfl)) (fun _ _ _ h => h) (Or.inl ⟨by rfl, ?_⟩) ?_ ?_
              rotate_left
              · intro w'
                go_simp
                with_reducible rfl
              rotate_left
              · simp only [Act.put, qa, qb, qc, i64_w, i32_w]
                rfl
              refine pure_ (i := 4) (N := some 21) (v := ?_) (a' := ?_) (qd 24 31) rfl rfl (any_of HT_.out (by kernel_rfl)) (fun _ _ _ h => h) (Or.inl ⟨by rfl, ?_⟩) ?_ ?_
              rotate_left
              · intro w'
                go_simp
                with_reducible rfl
              rotate_left
              · simp only [Act.put, qa, qb, qc, i64_w, i32_w]
                rfl
              refine pure_ (i := 5) (N := some 22) (v := ?_) (a' := ?_) (qd 24 63) rfl rfl (any_of HT_.out (by kernel_rfl)) (fun _ _ _ h => h) (Or.inl ⟨by rfl, ?_⟩) ?_ ?_
              rotate_left
              · intro w'
                go_simp
                with_reducible rfl
              rotate_left
              · simp only [Act.put, qa, qb, qc, i64_w, i32_w]
                rfl
              refine pure_ (i := 6) (N := some 23) (v := ?_) (a' := ?_) (qd 24 127) rfl rfl (any_of HT_.out (by kernel_rfl)) (fun _ _ _ h => h) (Or.inl ⟨by rfl, ?_⟩) ?_ ?_
              rotate_left
              · intro w'
                go_simp
                with_reducible rfl
              rotate_left
              · simp only [Act.put, qa, qb, qc, i64_w, i32_w]
                rfl
              refine pure_ (i := 7) (N := some 24) (v := ?_) (a' := ?_) (qd 24 255) rfl rfl (any_of HT_.out (by kernel_rfl)) (fun _ _ _ h => h) (Or.inl ⟨by rfl, ?_⟩) ?_ ?_
              rotate_left
              · intro w'
                go_simp
                with_reducible rfl
              rotate_left
              · simp only [Act.put, qa, qb, qc, i64_w, i32_w]
                rfl
              refine pure_ (i := 9) (N := some 26) (v := ?_) (a' := ?_) (qd 24 767) rfl rfl (any_of HT_.out (by kernel_rfl)) (fun _ _ _ h => h) (Or.inl ⟨by rfl, ?_⟩) ?_ ?_
              rotate_left
              · intro w'
                go_simp
                with_reducible rfl
              rotate_left
              · simp only [Act.put, qa, qb, qc, i64_w, i32_w]
                rfl
              refine pure_ (i := 10) (N := some 27) (v := ?_) (a' := ?_) (qd 24 1791) rfl rfl (any_of HT_.out (by kernel_rfl)) (fun _ _ _ h => h) (Or.inl ⟨by rfl, ?_⟩) ?_ ?_
              rotate_left
              · intro w'
                go_simp
                with_reducible rfl
              rotate_left
              · simp only [Act.put, qa, qb, qc, i64_w, i32_w]
                rfl
              refine pure_ (i := 12) (N := some 29) (v := ?_) (a' := ?_) (qd 24 5887) rfl rfl (any_of HT_.out (by kernel_rfl)) (fun _ _ _ h => h) (Or.inl ⟨by rfl, ?_⟩) ?_ ?_
              rotate_left
              · intro w'
                go_simp
                with_reducible rfl
              rotate_left
              · simp only [Act.put, qa, qb, qc, i64_w, i32_w]
                rfl
              refine take_ (i := 8) (N := some 25) (v := ?_) (a' := ?_) (qd 24 6143) rfl rfl (take_ofW HT_.out HW_.out (by kernel_rfl)) (fun _ _ _ h => h) (Or.inl ⟨by rfl, ?_⟩) hHeld ?_ ?_
              rotate_left
              · rintro w' ⟨s0, s1⟩
                refine exec_load_row 77 (.tmp 4) ?_ w.heap.size ?_ 77 o (0, 0) _ s0 Try.underlying77 rfl HI.out <;> rfl
              rotate_left
              · simp only [Act.put, qa, qb, qc, i64_w, i32_w]
                rfl
              refine take_ (i := 11) (N := some 28) (v := ?_) (a' := ?_) (qd 24 8191) rfl rfl (take_ofW HT_.out HW_.out (by kernel_rfl)) (fun _ _ _ h => h) (Or.inl ⟨by rfl, ?_⟩) hHeld ?_ ?_
              rotate_left
              · rintro w' ⟨s0, s1⟩
                go_simp
                with_reducible rfl
              rotate_left
              · simp only [Act.put, qa, qb, qc, i64_w, i32_w]
                rfl
              refine one_ (i := 13) (N := some 30) (qd 24 16383) rfl rfl (one_of HT_.out (by kernel_rfl)) (by decide) (fun K hK => ?_)
              with_reducible refine goes_ (f := 55) (fn := Try.f55) (as0 := #[.tmp 25, .tmp 28, .tmp 29]) (ts := #[77, 3, 3]) ?r1 ?r2 ?r3 #[.agg o, .int .i64 l0, .int .i64 x] ?r4 ?r5 ?r6 ?r7 ?r8
              (case r1 => exact Try.func55)
              (case r2 => kernel_rfl)
              (case r3 => kernel_rfl)
              (case r4 => rfl)
              (case r5 => rfl)
              (case r6 => rfl)
              (case r7 => (simp only [List.map_toArray, List.map_cons, List.map_nil]; rfl))
              case r8 =>
              refine (order_alike.calls o g nx J l0 x _ HO.out (IsShop.below HS.out HB.out)).mono ?_
              rw [HAL.out]
              rintro e w2 ⟨rfl, hb⟩
              refine ⟨_, rfl, ?_⟩
              have n1 := Aside0.mk (blk_below BO.out hb)
              have n2 := Aside0.mk (below_then HB.out (below_size HB.out) hb)
              clear BO HB hb
              have BO := n1
              have HB := n2
              clear n1 n2
              refine hK.out _ _ ⟨BO.out, pw_cell_below HB.out R0.out⟩ (fun hHeld => ?_)
              clear hK K
              refine norm_ (a' := ?_) ?_ ?_
              rotate_left
              · show Act.put _ (some 30) _ = _
                simp only [Act.put, qa, qb, qc, i64_w, i32_w]
                rfl
              refine pure_ (i := 14) (N := some 31) (v := ?_) (a' := ?_) (qd 24 32767) rfl rfl (any_of HT_.out (by kernel_rfl)) (fun _ _ _ h => h) (Or.inl ⟨by rfl, ?_⟩) ?_ ?_
              rotate_left
              · intro w'
                go_simp
                with_reducible rfl
              rotate_left
              · simp only [Act.put, qa, qb, qc, i64_w, i32_w]
                rfl
              refine pure_ (i := 15) (N := some 32) (v := ?_) (a' := ?_) (qd 24 65535) rfl rfl (any_of HT_.out (by kernel_rfl)) (fun _ _ _ h => h) (Or.inl ⟨by rfl, ?_⟩) ?_ ?_
              rotate_left
              · intro w'
                go_simp
                with_reducible rfl
              rotate_left
              · simp only [Act.put, qa, qb, qc, i64_w, i32_w]
                rfl
              refine pure_ (i := 16) (N := some 33) (v := ?_) (a' := ?_) (qd 24 131071) rfl rfl (any_of HT_.out (by kernel_rfl)) (fun _ _ _ h => h) (Or.inl ⟨by rfl, ?_⟩) ?_ ?_
              rotate_left
              · intro w'
                go_simp
                with_reducible rfl
              rotate_left
              · simp only [Act.put, qa, qb, qc, i64_w, i32_w]
                rfl
              refine pure_ (i := 17) (N := some 34) (v := ?_) (a' := ?_) (qd 24 262143) rfl rfl (any_of HT_.out (by kernel_rfl)) (fun _ _ _ h => h) (Or.inl ⟨by rfl, ?_⟩) ?_ ?_
              rotate_left
              · intro w'
                go_simp
                with_reducible rfl
              rotate_left
              · simp only [Act.put, qa, qb, qc, i64_w, i32_w]
                rfl
              refine pure_ (i := 18) (N := some 35) (v := ?_) (a' := ?_) (qd 24 524287) rfl rfl (any_of HT_.out (by kernel_rfl)) (fun _ _ _ h => h) (Or.inl ⟨by rfl, ?_⟩) ?_ ?_
              rotate_left
              · intro w'
                go_simp
                with_reducible rfl
              rotate_left
              · simp only [Act.put, qa, qb, qc, i64_w, i32_w]
                rfl
              refine pure_ (i := 19) (N := some 36) (v := ?_) (a' := ?_) (qd 24 1048575) rfl rfl (any_of HT_.out (by kernel_rfl)) (fun _ _ _ h => h) (Or.inl ⟨by rfl, ?_⟩) ?_ ?_
              rotate_left
              · intro w'
                go_simp
                with_reducible rfl
              rotate_left
              · simp only [Act.put, qa, qb, qc, i64_w, i32_w]
                rfl
              refine pure_ (i := 20) (N := some 37) (v := ?_) (a' := ?_) (qd 24 2097151) rfl rfl (any_of HT_.out (by kernel_rfl)) (fun _ _ _ h => h) (Or.inl ⟨by rfl, ?_⟩) ?_ ?_
              rotate_left
              · intro w'
                go_simp
                with_reducible rfl
              rotate_left
              · simp only [Act.put, qa, qb, qc, i64_w, i32_w]
                rfl
              refine pure_ (i := 21) (N := some 38) (v := ?_) (a' := ?_) (qd 24 4194303) rfl rfl (any_of HT_.out (by kernel_rfl)) (fun _ _ _ h => h) (Or.inl ⟨by rfl, ?_⟩) ?_ ?_
              rotate_left
              · intro w'
                go_simp
                with_reducible rfl
              rotate_left
              · simp only [Act.put, qa, qb, qc, i64_w, i32_w]
                rfl
              refine one_ (i := 22) (N := some 39) (qd 24 8388607) rfl rfl (one_of HT_.out (by kernel_rfl)) (by decide) (fun K hK => ?_)
              with_reducible refine goes_ (f := 70) (fn := Try.f70) (as0 := #[.tmp 37, .tmp 38]) (ts := #[26, 3]) ?s1 ?s2 ?s3 #[.slice (some ad) (j + 1) c, .int .i64 x] ?s4 ?s5 ?s6 ?s7 ?s8
              (case s1 => exact Try.func70)
              (case s2 => kernel_rfl)
              (case s3 => kernel_rfl)
              (case s4 => rfl)
              (case s5 => rfl)
              (case s6 => rfl)
              (case s7 => (simp only [List.map_toArray, List.map_cons, List.map_nil]; rfl))
              case s8 =>
              refine (slices_Contains_take.calls (some ad) c l x (j + 1) _ (by rw [← EM.out]; exact Kd.C_below HR.out HB.out) (by rw [← EM.out]; exact HC.out) (by rw [← EM.out]; exact hm) (by rw [← EM.out]; exact hk)).mono ?_
              rw [HCO.out]
              rintro e w2 ⟨rfl, hb⟩
              refine ⟨_, rfl, ?_⟩
              have n1 := Aside0.mk (blk_below BO.out hb)
              have n2 := Aside0.mk (below_then HB.out (below_size HB.out) hb)
              clear BO HB hb
              have BO := n1
              have HB := n2
              clear n1 n2
              refine hK.out _ _ ⟨BO.out, pw_cell_below HB.out R0.out⟩ (fun hHeld => ?_)
              clear hK K
              refine norm_ (a' := ?_) ?_ ?_
              rotate_left
              · show Act.put _ (some 39) _ = _
                simp only [Act.put, qa, qb, qc, i64_w, i32_w]
                rfl
              refine pure_ (i := 23) (N := some 40) (v := ?_) (a' := ?_) (qd 24 16777215) rfl rfl (any_of HT_.out (by kernel_rfl)) (fun _ _ _ h => h) (Or.inl ⟨by rfl, ?_⟩) ?_ ?_
              rotate_left
              · intro w'
                go_simp
                with_reducible rfl
              rotate_left
              · simp only [Act.put, qa, qb, qc, i64_w, i32_w]
                rfl
              refine done_ (done_of HT_.out (by kernel_rfl)) ?_
              clear hHeld
              go_wp2
              go_ret
              rw [HE.out]
              exact ⟨rfl, HB.out⟩
    · obtain rfl : k = m := by omega
      by_cases h0 : k = 0
      · have HE := Aside0.mk (show r = false by
          have h3 := HF.out
          unfold setF at h3
          rw [if_neg (by rw [← EM.out, HK.out]; simp), if_pos (by rw [← EM.out]; exact h0)] at h3
          exact (Option.some.inj h3).symm)
        subst h0
        go_wp2
        go_ret
        rw [HE.out]
        exact ⟨rfl, HB.out⟩
      · have d1 : ((k : Int) == 0) = false := beq_eq_false_iff_ne.2 (by omega)
        obtain ⟨q, eq⟩ : ∃ q, lookF nx (timeT (tasksN J J.length)) n = some q := by
          have h3 := HF.out
          unfold setF at h3
          rw [if_neg (by rw [← EM.out, HK.out]; simp), if_neg (by rw [← EM.out]; exact h0), ← EN.out] at h3
          cases e : lookF nx (timeT (tasksN J J.length)) n with
          | some q => exact ⟨q, rfl⟩
          | none => rw [e] at h3; cases h3
        have hlook := order_look.calls o g nx J wr n q HO.out (HS.out.below HB.out) EN.out hn eq
        have HLK := Aside0.mk hlook
        have EQ := Aside0.mk eq
        clear hlook eq
        cases q with
        | cyc y =>
          have HE := Aside0.mk (show r = false by
            have h3 := HF.out
            unfold setF at h3
            rw [if_neg (by rw [← EM.out, HK.out]; simp), if_neg (by rw [← EM.out]; exact h0), ← EN.out, EQ.out] at h3
            exact (Option.some.inj h3).symm)
          clear h0
          go_wp2_with (first
            | (refine wpList_load_row rfl 77 (.tmp 4) rfl w.heap.size rfl 77 o (0, 0) _ BO.out Try.underlying77 rfl HI.out ?_)
            | ((with_reducible refine HLK.out.mono ?_); rintro e w5 ⟨hb5, A5, c5, rfl, hr5⟩; obtain ⟨g5, cap5, e5, _⟩ := Kd.R_form hr5 (List.length_pos_iff.2 (lookF_cyc EQ.out)); cases e5; have HB5 := Aside0.mk (below_then HB.out (below_size HB.out) hb5); clear hb5 hr5))
          have q1 := (blk_cell (blk_drew (blk_new w5 (Obj.cells #[.slice none 0 0, .slice none 0 0, .slice none 0 0, .slice (some ⟨g5, 0, none⟩) y.length c5, .int .i64 0] 118))) 3).trans rfl
          have HB6 := Aside0.mk (below_drew1 (below_alloc HB5.out (Obj.cells #[.slice none 0 0, .slice none 0 0, .slice none 0 0, .slice (some ⟨g5, 0, none⟩) y.length c5, .int .i64 0] 118)))
          refine start_ (n := 19) (S := fun w' => w'.cell? ⟨w5.heap.size, 3, none⟩ = some (.slice (some ⟨g5, 0, none⟩) y.length c5)) (ds := []) #[false, false, false, false, false, false, false, false, false, false, false, false, false, false, false, false, false, false, false] (by kernel_rfl) rfl rfl q1 (fun hHeld => ?_)
          refine with_tabW se10tab se10bits (fun HT_ HW_ => ?_)
          generalize (w5.alloc (Obj.cells #[.slice none 0 0, .slice none 0 0, .slice none 0 0, .slice (some ⟨g5, 0, none⟩) y.length c5, .int .i64 0] 118)).drew = w6 at HB6 hHeld ⊢
          refine pure_ (i := 0) (N := some 47) (v := ?_) (a' := ?_) (qd 19 1) rfl rfl (any_of HT_.out (by kernel_rfl)) (fun _ _ _ h => h) (Or.inl ⟨by rfl, ?_⟩) ?_ ?_
          rotate_left
          · intro w'
            go_simp
            with_reducible rfl
          rotate_left
          · simp only [Act.put, qa, qb, qc, i64_w, i32_w]
            rfl
          refine take_ (i := 1) (N := some 48) (v := ?_) (a' := ?_) (qd 19 3) rfl rfl (take_ofW HT_.out HW_.out (by kernel_rfl)) (fun _ _ _ h => h) (Or.inl ⟨by rfl, ?_⟩) hHeld ?_ ?_
          rotate_left
          · rintro w' s0
            go_simp
            with_reducible rfl
          rotate_left
          · simp only [Act.put, qa, qb, qc, i64_w, i32_w]
            rfl
          refine pure_ (i := 2) (N := some 49) (v := ?_) (a' := ?_) (qd 19 7) rfl rfl (any_of HT_.out (by kernel_rfl)) (fun _ _ _ h => h) (Or.inl ⟨by rfl, ?_⟩) ?_ ?_
          rotate_left
          · intro w'
            go_simp
            with_reducible rfl
          rotate_left
          · simp only [Act.put, qa, qb, qc, i64_w, i32_w]
            rfl
          refine pure_ (i := 3) (N := some 50) (v := ?_) (a' := ?_) (qd 19 15) rfl rfl (any_of HT_.out (by kernel_rfl)) (fun _ _ _ h => h) (Or.inl ⟨by rfl, ?_⟩) ?_ ?_
          rotate_left
          · intro w'
            go_simp
            with_reducible rfl
          rotate_left
          · simp only [Act.put, qa, qb, qc, i64_w, i32_w]
            rfl
          refine pure_ (i := 4) (N := some 51) (v := undef) (a' := ?_) (qd 19 31) rfl rfl (any_of HT_.out (by kernel_rfl)) (fun _ _ _ h => h) (Or.inr ⟨by rfl, rfl⟩) ?_ ?_
          rotate_left
          · simp only [Act.put, qa, qb, qc, i64_w, i32_w]
            rfl
          refine pure_ (i := 5) (N := some 52) (v := undef) (a' := ?_) (qd 19 63) rfl rfl (any_of HT_.out (by kernel_rfl)) (fun _ _ _ h => h) (Or.inr ⟨by rfl, rfl⟩) ?_ ?_
          rotate_left
          · simp only [Act.put, qa, qb, qc, i64_w, i32_w]
            rfl
          refine pure_ (i := 6) (N := some 53) (v := undef) (a' := ?_) (qd 19 127) rfl rfl (any_of HT_.out (by kernel_rfl)) (fun _ _ _ h => h) (Or.inr ⟨by rfl, rfl⟩) ?_ ?_
          rotate_left
          · simp only [Act.put, qa, qb, qc, i64_w, i32_w]
            rfl
          refine pure_ (i := 7) (N := some 54) (v := undef) (a' := ?_) (qd 19 255) rfl rfl (any_of HT_.out (by kernel_rfl)) (fun _ _ _ h => h) (Or.inr ⟨by rfl, rfl⟩) ?_ ?_
          rotate_left
          · simp only [Act.put, qa, qb, qc, i64_w, i32_w]
            rfl
          refine pure_ (i := 8) (N := some 55) (v := undef) (a' := ?_) (qd 19 511) rfl rfl (any_of HT_.out (by kernel_rfl)) (fun _ _ _ h => h) (Or.inr ⟨by rfl, rfl⟩) ?_ ?_
          rotate_left
          · simp only [Act.put, qa, qb, qc, i64_w, i32_w]
            rfl
          refine pure_ (i := 9) (N := some 56) (v := undef) (a' := ?_) (qd 19 1023) rfl rfl (any_of HT_.out (by kernel_rfl)) (fun _ _ _ h => h) (Or.inr ⟨by rfl, rfl⟩) ?_ ?_
          rotate_left
          · simp only [Act.put, qa, qb, qc, i64_w, i32_w]
            rfl
          refine pure_ (i := 10) (N := some 57) (v := undef) (a' := ?_) (qd 19 2047) rfl rfl (any_of HT_.out (by kernel_rfl)) (fun _ _ _ h => h) (Or.inr ⟨by rfl, rfl⟩) ?_ ?_
          rotate_left
          · simp only [Act.put, qa, qb, qc, i64_w, i32_w]
            rfl
          refine pure_ (i := 11) (N := some 58) (v := undef) (a' := ?_) (qd 19 4095) rfl rfl (any_of HT_.out (by kernel_rfl)) (fun _ _ _ h => h) (Or.inr ⟨by rfl, rfl⟩) ?_ ?_
          rotate_left
          · simp only [Act.put, qa, qb, qc, i64_w, i32_w]
            rfl
          refine pure_ (i := 12) (N := some 59) (v := undef) (a' := ?_) (qd 19 8191) rfl rfl (any_of HT_.out (by kernel_rfl)) (fun _ _ _ h => h) (Or.inr ⟨by rfl, rfl⟩) ?_ ?_
          rotate_left
          · simp only [Act.put, qa, qb, qc, i64_w, i32_w]
            rfl
          refine pure_ (i := 13) (N := some 60) (v := undef) (a' := ?_) (qd 19 16383) rfl rfl (any_of HT_.out (by kernel_rfl)) (fun _ _ _ h => h) (Or.inr ⟨by rfl, rfl⟩) ?_ ?_
          rotate_left
          · simp only [Act.put, qa, qb, qc, i64_w, i32_w]
            rfl
          refine pure_ (i := 14) (N := some 61) (v := undef) (a' := ?_) (qd 19 32767) rfl rfl (any_of HT_.out (by kernel_rfl)) (fun _ _ _ h => h) (Or.inr ⟨by rfl, rfl⟩) ?_ ?_
          rotate_left
          · simp only [Act.put, qa, qb, qc, i64_w, i32_w]
            rfl
          refine pure_ (i := 15) (N := some 62) (v := undef) (a' := ?_) (qd 19 65535) rfl rfl (any_of HT_.out (by kernel_rfl)) (fun _ _ _ h => h) (Or.inr ⟨by rfl, rfl⟩) ?_ ?_
          rotate_left
          · simp only [Act.put, qa, qb, qc, i64_w, i32_w]
            rfl
          refine pure_ (i := 16) (N := some 63) (v := undef) (a' := ?_) (qd 19 131071) rfl rfl (any_of HT_.out (by kernel_rfl)) (fun _ _ _ h => h) (Or.inr ⟨by rfl, rfl⟩) ?_ ?_
          rotate_left
          · simp only [Act.put, qa, qb, qc, i64_w, i32_w]
            rfl
          refine pure_ (i := 17) (N := some 64) (v := ?_) (a' := ?_) (qd 19 262143) rfl rfl (any_of HT_.out (by kernel_rfl)) (fun _ _ _ h => h) (Or.inl ⟨by rfl, ?_⟩) ?_ ?_
          rotate_left
          · intro w'
            go_simp
            with_reducible rfl
          rotate_left
          · simp only [Act.put, qa, qb, qc, i64_w, i32_w]
            rfl
          refine pure_ (i := 18) (N := some 6) (v := ?_) (a' := ?_) (qd 19 524287) rfl rfl (any_of HT_.out (by kernel_rfl)) (fun _ _ _ h => h) (Or.inl ⟨by rfl, ?_⟩) ?_ ?_
          rotate_left
          · intro w'
            go_simp
            with_reducible rfl
          rotate_left
          · simp only [Act.put, qa, qb, qc, i64_w, i32_w]
            rfl
          refine done_ (done_of HT_.out (by kernel_rfl)) ?_
          go_wp2
          go_ret
          rw [HE.out]
          exact ⟨rfl, HB6.out⟩
        | ok hh tt cc ss =>
          obtain ⟨hbd, her⟩ : (bddI hh && bddI tt) = true ∧ r = decide (boundF (tasksN J J.length) hh tt (l.map Int.toNat) > lim) := by
            have h3 := HF.out
            unfold setF at h3
            rw [if_neg (by rw [← EM.out, HK.out]; simp), if_neg (by rw [← EM.out]; exact h0), ← EN.out, EQ.out] at h3
            simp only at h3
            split at h3
            · rename_i hb
              exact ⟨hb, (Option.some.inj h3).symm⟩
            · cases h3
          have HE := Aside0.mk her
          have HBD := Aside0.mk hbd
          have hat : ∀ j, j < k → 0 ≤ l.getD j 0 ∧ l.getD j 0 < (n : Int) := by
            intro j hj
            have h1 := setN_at HK.out j hj
            unfold setAt hasB at h1
            simp only [Bool.and_eq_true, decide_eq_true_eq] at h1
            rw [← EN.out] at h1
            exact h1.1
          have hlen : (l.map Int.toNat).length = k := by rw [List.length_map, EM.out]
          have hup : up (l.map Int.toNat) = l := up_toNat l (fun x hx => by
            obtain ⟨j, hj, rfl⟩ := List.getElem_of_mem hx
            have := (hat j (by rw [EM.out]; exact hj)).1
            simpa [hj] using this)
          have hget : ∀ j, j < k → (l.map Int.toNat).getD j 0 < n := by
            intro j hj
            have := hat j hj
            have hj' : j < l.length := by rw [← EM.out]; exact hj
            simp [hj'] at this ⊢
            omega
          obtain ⟨z1, z2⟩ := lookF_len EQ.out
          have hbound : ∀ (W : World) (A1 A2 : Option Addr) (c1 c2 : Nat), Below w.heap.size w W → Kd.C (Kd.int .i64) W A1 hh.length hh → hh.length ≤ c1 → Kd.C (Kd.int .i64) W A2 tt.length tt → tt.length ≤ c2 →
              Calls Try.prog 43 #[.pointer (some ⟨g, 0, none⟩), .slice A k c, .slice A1 hh.length c1, .slice A2 tt.length c2] W fun e w' => e = .returned (.int .i64 (boundF (tasksN J J.length) hh tt (l.map Int.toNat))) ∧ Below W.heap.size W w' := by
            intro W A1 A2 c1 c2 hW h1 k1 h2 k2
            have h := shop_bound.calls g J A A1 A2 c c1 c2 (l.map Int.toNat) hh tt W (HS.out.below hW) (by rw [hup, hlen]; exact Kd.C_below HR.out hW) h1 h2 (by rw [hlen]; exact HC.out) k1 k2 (by rw [hlen]; omega) (by rw [hlen, EM.out]; exact HM.out) (fun j hj => by
              rw [hlen] at hj
              have := hget j hj
              rw [z1, z2, ← EN.out]
              exact ⟨this, this, this⟩) HTT.out (fun x => by have := HBD.out; rw [Bool.and_eq_true] at this; exact bddI_getD this.1 x) (fun x => by have := HBD.out; rw [Bool.and_eq_true] at this; exact bddI_getD this.2 x)
            rw [hlen] at h
            exact h
          have HBO := Aside0.mk hbound
          clear h0 her hbd hat hlen hup hget hbound z1 z2
          go_wp2_with (first
            | (refine wpList_load_row rfl 77 (.tmp 4) rfl w.heap.size rfl 77 o (0, 0) _ BO.out Try.underlying77 rfl HI.out ?_)
            | ((with_reducible refine HLK.out.mono ?_); rintro e w5 ⟨hb5, vh, vt, vc, rfl, hr1, hr2, hr3⟩; obtain ⟨A1, c1, rfl, k1, hc1⟩ := Kd.R_reads hr1; obtain ⟨A2, c2, rfl, k2, hc2⟩ := Kd.R_reads hr2; obtain ⟨A3, c3, rfl⟩ := Kd.R_slice hr3; have HC1 := Aside0.mk (And.intro hc1 k1); have HC2 := Aside0.mk (And.intro hc2 k2); have HB5 := Aside0.mk (below_then HB.out (below_size HB.out) hb5); have BO5 := Aside0.mk (blk_below BO.out hb5); clear hb5 hr1 hr2 hr3 hc1 k1 hc2 k2))
          have hnew := blk_drew (blk_new w5 (Obj.cells #[.slice A1 hh.length c1, .slice A2 tt.length c2, .slice A3 cc.length c3, .slice none 0 0, .int .i64 ss] 118))
          have HA5 := below_drew1 (below_alloc (Below.refl w5.heap.size w5) (Obj.cells #[.slice A1 hh.length c1, .slice A2 tt.length c2, .slice A3 cc.length c3, .slice none 0 0, .int .i64 ss] 118))
          have HB6 := Aside0.mk (below_step HB5.out HA5)
          have HC3 := Aside0.mk (Kd.C_below HC1.out.1 HA5)
          have HC4 := Aside0.mk (Kd.C_below HC2.out.1 HA5)
          have q1 := (blk_cell hnew 0).trans rfl
          have q2 := (blk_cell hnew 1).trans rfl
          have q3 := (blk_cell hnew 3).trans rfl
          have q4 := (blk_cell (blk_below BO5.out HA5) 0).trans HO.out.ptr
          have q5 := pw_cell_below HB6.out HL.out
          clear hnew HA5
          refine start_ (n := 19) (S := fun w' => w'.cell? ⟨w5.heap.size, 0, none⟩ = some (.slice A1 hh.length c1) ∧ w'.cell? ⟨w5.heap.size, 1, none⟩ = some (.slice A2 tt.length c2) ∧ w'.cell? ⟨w5.heap.size, 3, none⟩ = some (.slice none 0 0) ∧ w'.cell? ⟨w.heap.size, 0, none⟩ = some (.pointer (some ⟨g, 0, none⟩)) ∧ w'.cell? ⟨rb, 0, none⟩ = some (.int .i64 lim)) (ds := []) #[false, false, false, false, false, false, false, false, false, false, false, false, false, false, false, false, false, false, false] (by kernel_rfl) rfl rfl ⟨q1, q2, q3, q4, q5⟩ (fun hHeld => ?_)
          refine with_tabW se10tab se10bits (fun HT_ HW_ => ?_)
          generalize (w5.alloc (Obj.cells #[.slice A1 hh.length c1, .slice A2 tt.length c2, .slice A3 cc.length c3, .slice none 0 0, .int .i64 ss] 118)).drew = w6 at HB6 HC3 HC4 hHeld ⊢
          refine pure_ (i := 0) (N := some 47) (v := ?_) (a' := ?_) (qd 19 1) rfl rfl (any_of HT_.out (by kernel_rfl)) (fun _ _ _ h => h) (Or.inl ⟨by rfl, ?_⟩) ?_ ?_
          rotate_left
          · intro w'
            go_simp
            with_reducible rfl
          rotate_left
          · simp only [Act.put, qa, qb, qc, i64_w, i32_w]
            rfl
          refine take_ (i := 1) (N := some 48) (v := ?_) (a' := ?_) (qd 19 3) rfl rfl (take_ofW HT_.out HW_.out (by kernel_rfl)) (fun _ _ _ h => h) (Or.inl ⟨by rfl, ?_⟩) hHeld ?_ ?_
          rotate_left
          · rintro w' ⟨s0, s1, s2, s3, s4⟩
            go_simp
            with_reducible rfl
          rotate_left
          · simp only [Act.put, qa, qb, qc, i64_w, i32_w]
            rfl
          refine pure_ (i := 2) (N := some 49) (v := ?_) (a' := ?_) (qd 19 7) rfl rfl (any_of HT_.out (by kernel_rfl)) (fun _ _ _ h => h) (Or.inl ⟨by rfl, ?_⟩) ?_ ?_
          rotate_left
          · intro w'
            go_simp
            with_reducible rfl
          rotate_left
          · simp only [Act.put, qa, qb, qc, i64_w, i32_w]
            rfl
          refine pure_ (i := 3) (N := some 50) (v := ?_) (a' := ?_) (qd 19 15) rfl rfl (any_of HT_.out (by kernel_rfl)) (fun _ _ _ h => h) (Or.inl ⟨by rfl, ?_⟩) ?_ ?_
          rotate_left
          · intro w'
            go_simp
            with_reducible rfl
          rotate_left
          · simp only [Act.put, qa, qb, qc, i64_w, i32_w]
            rfl
          refine pure_ (i := 4) (N := some 51) (v := ?_) (a' := ?_) (qd 19 31) rfl rfl (any_of HT_.out (by kernel_rfl)) (fun _ _ _ h => h) (Or.inl ⟨by rfl, ?_⟩) ?_ ?_
          rotate_left
          · intro w'
            go_simp
            with_reducible rfl
          rotate_left
          · simp only [Act.put, qa, qb, qc, i64_w, i32_w]
            rfl
          refine pure_ (i := 6) (N := some 53) (v := ?_) (a' := ?_) (qd 19 95) rfl rfl (any_of HT_.out (by kernel_rfl)) (fun _ _ _ h => h) (Or.inl ⟨by rfl, ?_⟩) ?_ ?_
          rotate_left
          · intro w'
            go_simp
            with_reducible rfl
          rotate_left
          · simp only [Act.put, qa, qb, qc, i64_w, i32_w]
            rfl
          refine pure_ (i := 7) (N := some 54) (v := ?_) (a' := ?_) (qd 19 223) rfl rfl (any_of HT_.out (by kernel_rfl)) (fun _ _ _ h => h) (Or.inl ⟨by rfl, ?_⟩) ?_ ?_
          rotate_left
          · intro w'
            go_simp
            with_reducible rfl
          rotate_left
          · simp only [Act.put, qa, qb, qc, i64_w, i32_w]
            rfl
          refine pure_ (i := 9) (N := some 56) (v := ?_) (a' := ?_) (qd 19 735) rfl rfl (any_of HT_.out (by kernel_rfl)) (fun _ _ _ h => h) (Or.inl ⟨by rfl, ?_⟩) ?_ ?_
          rotate_left
          · intro w'
            go_simp
            with_reducible rfl
          rotate_left
          · simp only [Act.put, qa, qb, qc, i64_w, i32_w]
            rfl
          refine pure_ (i := 12) (N := some 59) (v := ?_) (a' := ?_) (qd 19 4831) rfl rfl (any_of HT_.out (by kernel_rfl)) (fun _ _ _ h => h) (Or.inl ⟨by rfl, ?_⟩) ?_ ?_
          rotate_left
          · intro w'
            go_simp
            with_reducible rfl
          rotate_left
          · simp only [Act.put, qa, qb, qc, i64_w, i32_w]
            rfl
          refine pure_ (i := 13) (N := some 60) (v := ?_) (a' := ?_) (qd 19 13023) rfl rfl (any_of HT_.out (by kernel_rfl)) (fun _ _ _ h => h) (Or.inl ⟨by rfl, ?_⟩) ?_ ?_
          rotate_left
          · intro w'
            go_simp
            with_reducible rfl
          rotate_left
          · simp only [Act.put, qa, qb, qc, i64_w, i32_w]
            rfl
          refine pure_ (i := 14) (N := some 61) (v := ?_) (a' := ?_) (qd 19 29407) rfl rfl (any_of HT_.out (by kernel_rfl)) (fun _ _ _ h => h) (Or.inl ⟨by rfl, ?_⟩) ?_ ?_
          rotate_left
          · intro w'
            go_simp
            with_reducible rfl
          rotate_left
          · simp only [Act.put, qa, qb, qc, i64_w, i32_w]
            rfl
          refine take_ (i := 5) (N := some 52) (v := ?_) (a' := ?_) (qd 19 29439) rfl rfl (take_ofW HT_.out HW_.out (by kernel_rfl)) (fun _ _ _ h => h) (Or.inl ⟨by rfl, ?_⟩) hHeld ?_ ?_
          rotate_left
          · rintro w' ⟨s0, s1, s2, s3, s4⟩
            go_simp
            with_reducible rfl
          rotate_left
          · simp only [Act.put, qa, qb, qc, i64_w, i32_w]
            rfl
          refine take_ (i := 8) (N := some 55) (v := ?_) (a' := ?_) (qd 19 29695) rfl rfl (take_ofW HT_.out HW_.out (by kernel_rfl)) (fun _ _ _ h => h) (Or.inl ⟨by rfl, ?_⟩) hHeld ?_ ?_
          rotate_left
          · rintro w' ⟨s0, s1, s2, s3, s4⟩
            go_simp
            with_reducible rfl
          rotate_left
          · simp only [Act.put, qa, qb, qc, i64_w, i32_w]
            rfl
          refine take_ (i := 10) (N := some 57) (v := ?_) (a' := ?_) (qd 19 30719) rfl rfl (take_ofW HT_.out HW_.out (by kernel_rfl)) (fun _ _ _ h => h) (Or.inl ⟨by rfl, ?_⟩) hHeld ?_ ?_
          rotate_left
          · rintro w' ⟨s0, s1, s2, s3, s4⟩
            go_simp
            with_reducible rfl
          rotate_left
          · simp only [Act.put, qa, qb, qc, i64_w, i32_w]
            rfl
          refine take_ (i := 15) (N := some 62) (v := ?_) (a' := ?_) (qd 19 63487) rfl rfl (take_ofW HT_.out HW_.out (by kernel_rfl)) (fun _ _ _ h => h) (Or.inl ⟨by rfl, ?_⟩) hHeld ?_ ?_
          rotate_left
          · rintro w' ⟨s0, s1, s2, s3, s4⟩
            go_simp
            with_reducible rfl
          rotate_left
          · simp only [Act.put, qa, qb, qc, i64_w, i32_w]
            rfl
          refine one_ (i := 11) (N := some 58) (qd 19 65535) rfl rfl (one_of HT_.out (by kernel_rfl)) (by decide) (fun K hK => ?_)
          with_reducible refine goes_ (f := 43) (fn := Try.f43) (as0 := #[.tmp 52, .tmp 53, .tmp 55, .tmp 57]) (ts := #[58, 26, 26, 26]) ?t1 ?t2 ?t3 #[.pointer (some ⟨g, 0, none⟩), .slice A k c, .slice A1 hh.length c1, .slice A2 tt.length c2] ?t4 ?t5 ?t6 ?t7 ?t8
          (case t1 => exact Try.func43)
          (case t2 => kernel_rfl)
          (case t3 => kernel_rfl)
          (case t4 => rfl)
          (case t5 => rfl)
          (case t6 => rfl)
          (case t7 => (simp only [List.map_toArray, List.map_cons, List.map_nil]; rfl))
          case t8 =>
          refine (HBO.out w6 A1 A2 c1 c2 HB6.out HC3.out HC1.out.2 HC4.out HC2.out.2).mono ?_
          rintro e w7 ⟨rfl, hb⟩
          refine ⟨_, rfl, ?_⟩
          have HB7 := Aside0.mk (below_then HB6.out (below_size HB6.out) hb)
          refine hK.out _ _ (by obtain ⟨a1, a2, a3, a4, a5⟩ := hHeld; exact ⟨pw_cell_below hb a1, pw_cell_below hb a2, pw_cell_below hb a3, pw_cell_below hb a4, pw_cell_below hb a5⟩) (fun hHeld => ?_)
          clear hK K hb
          refine norm_ (a' := ?_) ?_ ?_
          rotate_left
          · show Act.put _ (some 58) _ = _
            simp only [Act.put, qa, qb, qc, i64_w, i32_w]
            rfl
          refine pure_ (i := 16) (N := some 63) (v := ?_) (a' := ?_) (qd 19 131071) rfl rfl (any_of HT_.out (by kernel_rfl)) (fun _ _ _ h => h) (Or.inl ⟨by rfl, ?_⟩) ?_ ?_
          rotate_left
          · intro w'
            go_simp
            with_reducible rfl
          rotate_left
          · simp only [Act.put, qa, qb, qc, i64_w, i32_w]
            rfl
          refine pure_ (i := 17) (N := some 64) (v := ?_) (a' := ?_) (qd 19 262143) rfl rfl (any_of HT_.out (by kernel_rfl)) (fun _ _ _ h => h) (Or.inl ⟨by rfl, ?_⟩) ?_ ?_
          rotate_left
          · intro w'
            go_simp
            with_reducible rfl
          rotate_left
          · simp only [Act.put, qa, qb, qc, i64_w, i32_w]
            rfl
          refine pure_ (i := 18) (N := some 6) (v := ?_) (a' := ?_) (qd 19 524287) rfl rfl (any_of HT_.out (by kernel_rfl)) (fun _ _ _ h => h) (Or.inl ⟨by rfl, ?_⟩) ?_ ?_
          rotate_left
          · intro w'
            go_simp
            with_reducible rfl
          rotate_left
          · simp only [Act.put, qa, qb, qc, i64_w, i32_w]
            rfl
          refine done_ (done_of HT_.out (by kernel_rfl)) ?_
          go_wp2
          go_ret
          rw [HE.out]
          exact ⟨rfl, HB7.out⟩
end Go.Proofs.Ytipkhaicjjeieaa.V
