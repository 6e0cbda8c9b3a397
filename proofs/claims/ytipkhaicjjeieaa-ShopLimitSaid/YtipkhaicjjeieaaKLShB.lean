/- Walks of the shop's functions, second text: the shop as it is laid in memory, and shop.of. -/
import Derived.Test.YtipkhaicjjeieaaKLShA
namespace Go.Proofs.Ytipkhaicjjeieaa.V
set_option linter.unusedSimpArgs false
set_option linter.unusedVariables false
open Go.RowKit Go.Proofs.YtipkhaicjjeieaaW.PrintWords Go.Proofs.YtipkhaicjjeieaaW.PrintLast Go.Proofs.YtipkhaicjjeieaaW.PrintMore
def jobT (no j : Nat) (r : List S40) : List S89 := r.mapIdx fun a t => ⟨t, ((no + a : Nat) : Int), (j : Int), (a : Int)⟩
def tasksN (l : List (List S40)) : Nat → List S89
  | 0 => []
  | i + 1 => tasksN l i ++ jobT (tasksN l i).length i (l.getD i [])
def firstsN (l : List (List S40)) : Nat → List Int
  | 0 => []
  | i + 1 => firstsN l i ++ [((tasksN l i).length : Int)]
def ofErr (l : List (List S40)) : Int :=
  if l.length > 4 then 3 else if l.any (fun r => decide (r.length > 4)) = true then 3 else if (tasksN l l.length).length > 10 then 3 else if (tasksN l l.length).any S89.bad = true then 2 else 0
def IsShop (w : World) (g : Nat) (l : List (List S40)) : Prop := ∃ A0 c0 At ct Af cf, w.heap[g]? = some (.cells #[.slice A0 l.length c0, .slice At (tasksN l l.length).length ct, .slice Af (firstsN l l.length).length cf] 86 (0, 0)) ∧
  Kd.C (Kd.slice 40 k40) w A0 l.length l ∧ l.length ≤ c0 ∧ Kd.C k89 w At (tasksN l l.length).length (tasksN l l.length) ∧ (tasksN l l.length).length ≤ ct ∧ Kd.C (Kd.int .i64) w Af (firstsN l l.length).length (firstsN l l.length) ∧ (firstsN l l.length).length ≤ cf
theorem IsShop.below {w w1 : World} {g : Nat} {l : List (List S40)} (h : IsShop w g l) (hb : Below w.heap.size w w1) : IsShop w1 g l := by
  obtain ⟨A0, c0, At, ct, Af, cf, h1, h2, h3, h4, h5, h6, h7⟩ := h
  exact ⟨A0, c0, At, ct, Af, cf, blk_below h1 hb, Kd.C_below h2 hb, h3, Kd.C_below h4 hb, h5, Kd.C_below h6 hb, h7⟩
theorem at_NL2 {w : World} {A : Option Addr} {n : Nat} {xs : List (List S40)} (h : Kd.C (Kd.slice 40 k40) w A n xs) (j : Nat) (h1 : j < n) : ∃ ad r A0 c0, A = some ad ∧ r = xs.getD j [] ∧ w.cell? (ad.add j) = some (.slice A0 r.length c0) ∧ r.length ≤ c0 ∧ k40.C w A0 r.length r := by
  obtain ⟨ad, A0, c0, e, h2, h3, h4⟩ := at_L2 h (j : Int) (by omega) (by omega)
  exact ⟨ad, _, A0, c0, e, rfl, h2, h3, h4⟩
theorem firstsN_len (l : List (List S40)) (i : Nat) : (firstsN l i).length = i := by
  induction i with
  | zero => rfl
  | succ i ih => simp [firstsN, ih]
theorem at_N40 {w : World} {A : Option Addr} {n : Nat} {xs : List S40} (h : Kd.C k40 w A n xs) (j : Nat) (h1 : j < n) : ∃ ad x, A = some ad ∧ x = xs.getD j z40 ∧ w.cell? (ad.add (j * 2)) = some (.int .i64 x.f0) ∧ w.cell? ⟨(ad.add (j * 2)).block, (ad.add (j * 2)).off + 1, none⟩ = some (.int .i64 x.f1) := by
  obtain ⟨ad, e, h⟩ := at_T40 h (j : Int) (by omega) (by omega)
  exact ⟨ad, _, e, rfl, h⟩
theorem jobT_len (no j : Nat) (r : List S40) : (jobT no j r).length = r.length := by simp [jobT]
theorem jobT_take (no j k : Nat) (r : List S40) (h : k < r.length) : (jobT no j r).take (k + 1) = (jobT no j r).take k ++ [⟨r.getD k z40, ((no + k : Nat) : Int), (j : Int), (k : Int)⟩] := by
  rw [List.take_add_one]
  congr 1
  simp [jobT, List.getElem?_mapIdx, List.getElem?_eq_getElem h, List.getD_eq_getElem?_getD]
theorem tasksN_len (l : List (List S40)) : ∀ i, (∀ j, j < i → (l.getD j []).length ≤ 4) → (tasksN l i).length ≤ 4 * i
  | 0, _ => Nat.le_refl _
  | i + 1, h => by
    have h1 := tasksN_len l i (fun j hj => h j (by omega))
    have h2 := h i (by omega)
    simp only [tasksN, List.length_append, jobT_len]
    omega
theorem info89 : (Try.prog.info? 89).map (fun i => (i.zero, i.size, i.bytes)) = some (some (.agg #[.int .i64 0, .int .i64 0, .int .i64 0, .int .i64 0, .int .i64 0]), 5, 40) := by kernel_rfl
def of9T : Bool × List (List Nat × List Nat) := (true, [([], []), ([], []), ([1], [1]), ([2], [2]), ([3], [3]), ([], []), ([5], [5]), ([6], [6]), ([7], [7]), ([8], [8]), ([9], [9]), ([4, 10], [4, 10]), ([0, 0, 1, 2, 3, 4, 5, 6, 7, 8, 9, 10, 11], [0]), ([12, 0, 1, 2, 3, 4, 5, 6, 7, 8, 9, 10, 11], [12]), ([13, 11, 11, 0, 1, 2, 3, 4, 5, 6, 7, 8, 9, 10, 11], [11, 13])])
def of9B : List Nat := [0, 0, 2, 6, 14, 0, 32, 96, 224, 480, 992, 2046, 4095, 8191, 16383]
theorem of9tab : rtab .any (opsOf Try.f31 9) = of9T := by kernel_rfl
theorem of9bits : waitsOk of9T.2 of9B = true := by kernel_rfl
def of13T : Bool × List (List Nat × List Nat) := (true, [([], []), ([], []), ([1], [1]), ([2], [2]), ([3], [3]), ([], []), ([], []), ([6], [6]), ([7], [7]), ([8], [8]), ([9], [9]), ([], []), ([], []), ([5, 10, 11, 12], [5, 10, 11, 12]), ([13], [13]), ([4, 14], [4, 14]), ([0, 0, 1, 2, 3, 4, 5, 6, 7, 8, 9, 10, 11, 12, 13, 14, 15], [0]), ([16, 0, 1, 2, 3, 4, 5, 6, 7, 8, 9, 10, 11, 12, 13, 14, 15], [16]), ([17, 15, 15, 0, 1, 2, 3, 4, 5, 6, 7, 8, 9, 10, 11, 12, 13, 14, 15], [15, 17])])
def of13B : List Nat := [0, 0, 2, 6, 14, 0, 0, 64, 192, 448, 960, 0, 0, 8160, 16352, 32766, 65535, 131071, 262143]
theorem of13tab : rtab .any (opsOf Try.f31 13) = of13T := by kernel_rfl
theorem of13bits : waitsOk of13T.2 of13B = true := by kernel_rfl
set_option maxHeartbeats 8000000 in
set_option maxRecDepth 100000 in
theorem shop_of.calls (A0 : Option Addr) (c0 : Nat) (l : List (List S40)) (w : World) (hr : Kd.C (Kd.slice 40 k40) w A0 l.length l) (hc : l.length ≤ c0) (hm : l.length ≤ 1000) :
    Calls Try.prog 31 #[.slice A0 l.length c0] w fun e w' => (∃ p, e = .returned (.tuple #[.pointer p, .int .i64 (ofErr l)]) ∧ (ofErr l = 0 → ∃ g, p = some ⟨g, 0, none⟩ ∧ IsShop w' g l) ∧ (ofErr l ≠ 0 → p = none)) ∧ Below w.heap.size w w' := by
  have HR := Aside0.mk hr
  have HC := Aside0.mk hc
  clear hr hc
  by_cases h4 : l.length > 4
  · have d1 : decide ((l.length : Int) > 4) = true := decide_eq_true (by omega)
    have he : ofErr l = 3 := if_pos h4
    have HE := Aside0.mk he
    clear he h4
    go_enter Try.func31, Try.ntmps31
    go_wp2
    go_ret2
    rw [HE.out]
    exact ⟨⟨none, rfl, fun h => absurd h (by decide), fun _ => rfl⟩, Below.refl _ _⟩
  · have d1 : decide ((l.length : Int) > 4) = false := decide_eq_false (by omega)
    have H4 := Aside0.mk h4
    clear h4
    go_enter Try.func31, Try.ntmps31
    go_wp2
    have BK0 : (w.alloc (Obj.cells #[Value.slice A0 l.length c0, Value.slice none 0 0, Value.slice none 0 0] 86)).heap[w.heap.size]? = some (.cells #[.slice A0 l.length c0, .slice none 0 0, .slice none 0 0] 86 (0, 0)) := blk_new w _
    go_loopw [17] (fun v w' => ∃ i : Nat, i ≤ l.length ∧ v = .int .i64 i ∧ Aside0 (∀ j, j < i → (l.getD j []).length ≤ 4) ∧ ∃ vt vf, Aside0 (w'.heap[w.heap.size]? = some (.cells #[.slice A0 l.length c0, vt, vf] 86 (0, 0))) ∧
      Aside0 (Kd.R k89 89 w' w.heap.size (fun _ => True) vt (tasksN l i)) ∧ Aside0 (Kd.R (Kd.int .i64) 3 w' w.heap.size (fun _ => True) vf (firstsN l i)) ∧ Aside0 (Below w.heap.size w w')) (fun i _ => l.length - (intOf i).toNat)
    case atStart => exact ⟨0, Nat.zero_le _, rfl, ⟨fun j hj => absurd hj (by omega)⟩, _, _, ⟨BK0⟩, ⟨Kd.R_nil _ _ _ _ _⟩, ⟨Kd.R_nil _ _ _ _ _⟩, ⟨below_alloc (Below.refl _ _) _⟩⟩
    case round =>
      clear BK0
      obtain ⟨i, hi, rfl, HS, vt, vf, BK, HT, HF, HB⟩ := hrel
      by_cases hlt : i < l.length
      · obtain ⟨ad, r, A1, c1, e1, hx, h0, hc1, hr1⟩ := at_NL2 HR.out i hlt
        cases e1
        replace h0 := pw_cell_below HB.out h0
        have HX := Aside0.mk hx
        have HR1 := Aside0.mk hr1
        have HC1 := Aside0.mk hc1
        clear hx hr1 hc1
        by_cases h5 : r.length > 4
        · have d2 : decide ((r.length : Int) > 4) = true := decide_eq_true (by omega)
          have he : ofErr l = 3 := by
            unfold ofErr
            rw [if_neg H4.out, if_pos]
            rw [List.any_eq_true]
            refine ⟨r, ?_, decide_eq_true h5⟩
            rw [HX.out, List.getD_eq_getElem?_getD, List.getElem?_eq_getElem hlt]
            exact List.getElem_mem _
          have HE := Aside0.mk he
          clear he h5
          go_wp2
          go_ret2
          rw [HE.out]
          exact ⟨⟨none, rfl, fun h => absurd h (by decide), fun _ => rfl⟩, HB.out⟩
        · have d2 : decide ((r.length : Int) > 4) = false := decide_eq_false (by omega)
          have H5 := Aside0.mk h5
          clear h5
          obtain ⟨At, ct, rfl⟩ := Kd.R_slice HT.out
          obtain ⟨Af, cf, rfl⟩ := Kd.R_slice HF.out
          go_wp2
          have BK1 := Aside0.mk (blk_drew BK.out)
          have HT1 := Aside0.mk (Kd.R_drew HT.out)
          have HF1 := Aside0.mk (Kd.R_drew HF.out)
          have HB1 := Aside0.mk (below_drew1 HB.out)
          refine start_ (n := 15) (S := fun w' => w'.cell? ⟨w.heap.size, 1, none⟩ = some (.slice At (tasksN l i).length ct) ∧ w'.cell? ⟨w.heap.size, 2, none⟩ = some (.slice Af (firstsN l i).length cf)) (ds := [14]) #[false, false, false, false, false, false, false, false, false, false, false, false, false, false, false] (by kernel_rfl) rfl rfl ⟨(blk_cell BK1.out 1).trans rfl, (blk_cell BK1.out 2).trans rfl⟩ (fun hHeld => ?_)
          refine with_tabW of9tab of9bits (fun HT_ HW_ => ?_)
          generalize wr.drew = w1 at BK1 HT1 HF1 HB1 hHeld ⊢
          refine pure_ (i := 0) (N := some 25) (v := ?_) (a' := ?_) (qd 15 1) rfl rfl (any_of HT_.out (by kernel_rfl)) (fun _ _ _ h => h) (Or.inl ⟨by rfl, ?_⟩) ?_ ?_
          rotate_left
          · intro w'
            go_simp
            with_reducible rfl
          rotate_left
          · simp only [Act.put, qa, qb, qc, i64_w, i32_w]
            rfl
          refine pure_ (i := 1) (N := some 26) (v := ?_) (a' := ?_) (qd 15 3) rfl rfl (any_of HT_.out (by kernel_rfl)) (fun _ _ _ h => h) (Or.inl ⟨by rfl, ?_⟩) ?_ ?_
          rotate_left
          · intro w'
            go_simp
            with_reducible rfl
          rotate_left
          · simp only [Act.put, qa, qb, qc, i64_w, i32_w]
            rfl
          refine pure_ (i := 2) (N := some 27) (v := ?_) (a' := ?_) (qd 15 7) rfl rfl (any_of HT_.out (by kernel_rfl)) (fun _ _ _ h => h) (Or.inl ⟨by rfl, ?_⟩) ?_ ?_
          rotate_left
          · intro w'
            go_simp
            with_reducible rfl
          rotate_left
          · simp only [Act.put, qa, qb, qc, i64_w, i32_w]
            rfl
          refine pure_ (i := 3) (N := some 28) (v := ?_) (a' := ?_) (qd 15 15) rfl rfl (any_of HT_.out (by kernel_rfl)) (fun _ _ _ h => h) (Or.inl ⟨by rfl, ?_⟩) ?_ ?_
          rotate_left
          · intro w'
            go_simp
            with_reducible rfl
          rotate_left
          · simp only [Act.put, qa, qb, qc, i64_w, i32_w]
            rfl
          refine pure_ (i := 5) (N := some 30) (v := ?_) (a' := ?_) (qd 15 47) rfl rfl (any_of HT_.out (by kernel_rfl)) (fun _ _ _ h => h) (Or.inl ⟨by rfl, ?_⟩) ?_ ?_
          rotate_left
          · intro w'
            go_simp
            with_reducible rfl
          rotate_left
          · simp only [Act.put, qa, qb, qc, i64_w, i32_w]
            rfl
          refine pure_ (i := 6) (N := some 31) (v := ?_) (a' := ?_) (qd 15 111) rfl rfl (any_of HT_.out (by kernel_rfl)) (fun _ _ _ h => h) (Or.inl ⟨by rfl, ?_⟩) ?_ ?_
          rotate_left
          · intro w'
            go_simp
            with_reducible rfl
          rotate_left
          · simp only [Act.put, qa, qb, qc, i64_w, i32_w]
            rfl
          refine pure_ (i := 7) (N := some 32) (v := ?_) (a' := ?_) (qd 15 239) rfl rfl (any_of HT_.out (by kernel_rfl)) (fun _ _ _ h => h) (Or.inl ⟨by rfl, ?_⟩) ?_ ?_
          rotate_left
          · intro w'
            go_simp
            with_reducible rfl
          rotate_left
          · simp only [Act.put, qa, qb, qc, i64_w, i32_w]
            rfl
          refine take_ (i := 4) (N := some 29) (v := ?_) (a' := ?_) (qd 15 255) rfl rfl (take_ofW HT_.out HW_.out (by kernel_rfl)) (fun _ _ _ h => h) (Or.inl ⟨by rfl, ?_⟩) hHeld ?_ ?_
          rotate_left
          · rintro w' ⟨s0, s1⟩
            go_simp
            with_reducible rfl
          rotate_left
          · simp only [Act.put, qa, qb, qc, i64_w, i32_w]
            rfl
          refine take_ (i := 8) (N := some 33) (v := ?_) (a' := ?_) (qd 15 511) rfl rfl (take_ofW HT_.out HW_.out (by kernel_rfl)) (fun _ _ _ h => h) (Or.inl ⟨by rfl, ?_⟩) hHeld ?_ ?_
          rotate_left
          · rintro w' ⟨s0, s1⟩
            go_simp
            with_reducible rfl
          rotate_left
          · simp only [Act.put, qa, qb, qc, i64_w, i32_w]
            rfl
          refine pure_ (i := 9) (N := some 34) (v := ?_) (a' := ?_) (qd 15 1023) rfl rfl (any_of HT_.out (by kernel_rfl)) (fun _ _ _ h => h) (Or.inl ⟨by rfl, ?_⟩) ?_ ?_
          rotate_left
          · intro w'
            go_simp
            with_reducible rfl
          rotate_left
          · simp only [Act.put, qa, qb, qc, i64_w, i32_w]
            rfl
          refine one_ (i := 10) (N := some 35) (qd 15 2047) rfl rfl (one_of HT_.out (by kernel_rfl)) (by decide) (fun K hK => ?_)
          refine value_ (w1 := ?_) (v := ?_) (by rfl) rfl ?_ ?_
          rotate_left 2
          · go_simp
            constructor
            · rfl
            · rfl
          refine hK.out _ _ ⟨(blk_cell (blk_alloc BK1.out _) 1).trans rfl, (blk_cell (blk_alloc BK1.out _) 2).trans rfl⟩ (fun hHeld => ?_)
          clear hK K
          refine norm_ (a' := ?_) ?_ ?_
          rotate_left
          · show Act.put _ (some 35) _ = _
            simp only [Act.put, qa, qb, qc, i64_w, i32_w]
            rfl
          refine one_ (i := 11) (N := some 36) (qd 15 4095) rfl rfl (one_of HT_.out (by kernel_rfl)) (by decide) (fun K hK => ?_)
          refine Kd.R_append_step (Kd.int .i64) (w0 := w) w.heap.size (by rfl) (.tmp 29) (.tmp 35) 26 3 (.int .i64 0) 8 rfl Try.underlying26 info3 rfl (by decide) (by decide) (.slice Af (firstsN l i).length cf) (firstsN l i) ((tasksN l i).length : Int) [.int .i64 ((tasksN l i).length : Int)] (fun _ => True) (fun _ => False) rfl rfl ?aP (fun _ hk => hk.elim) (fun _ _ => trivial) HF1.out HB1.out (below_size HB1.out) ?aL ?_
          (case aP => exact rfl)
          (case aL => have := firstsN_len l i; omega)
          intro v1 w2 ho hb hg hat
          have BK2 := Aside0.mk (blk_grown BK1.out hg (Kd.R_ne HF1.out BK1.out (by decide)))
          have HT2 := Aside0.mk (Kd.R_over HT1.out HF1.out (by decide) hg)
          have HB2 := Aside0.mk hb
          obtain ⟨Af1, cf1, e⟩ := Kd.R_slice ho
          rw [List.length_append, List.length_singleton] at e
          subst e
          have HF2 := Aside0.mk ho
          clear ho hb hg hat
          refine hK.out _ _ ⟨(blk_cell BK2.out 1).trans rfl, (blk_cell BK2.out 2).trans rfl⟩ (fun hHeld => ?_)
          clear hK K
          refine norm_ (a' := ?_) ?_ ?_
          rotate_left
          · show Act.put _ (some 36) _ = _
            simp only [Act.put, qa, qb, qc, i64_w, i32_w]
            rfl
          refine pure_ (i := 12) (N := some 37) (v := ?_) (a' := ?_) (qd 15 8191) rfl rfl (any_of HT_.out (by kernel_rfl)) (fun _ _ _ h => h) (Or.inl ⟨by rfl, ?_⟩) ?_ ?_
          rotate_left
          · intro w'
            go_simp
            with_reducible rfl
          rotate_left
          · simp only [Act.put, qa, qb, qc, i64_w, i32_w]
            rfl
          refine pure_ (i := 13) (N := some 38) (v := ?_) (a' := ?_) (qd 15 16383) rfl rfl (any_of HT_.out (by kernel_rfl)) (fun _ _ _ h => h) (Or.inl ⟨by rfl, ?_⟩) ?_ ?_
          rotate_left
          · intro w'
            go_simp
            with_reducible rfl
          rotate_left
          · simp only [Act.put, qa, qb, qc, i64_w, i32_w]
            rfl
          refine last_ (i := 14) (N := none) (qd 15 32767) rfl rfl (one_of HT_.out (by kernel_rfl)) (by decide) (fun K hK => ?_)
          have hcz := (blk_cell BK2.out 2).trans rfl
          have hfz := blk_frozen BK2.out 2
          refine skip_ (w1 := ?_) (by rfl) rfl ?_ ?_
          rotate_left
          · go_simp
            rfl
          refine hK.out _ _ ?_
          clear hK K hcz hfz
          refine done_ (done_of HT_.out (by kernel_rfl)) ?_
          have BK3 : w2.setCell ⟨w.heap.size, 2, none⟩ (.slice Af1 ((firstsN l i).length + 1) cf1) |>.heap[w.heap.size]? = some (.cells #[.slice (some ad) l.length c0, .slice At (tasksN l i).length ct, .slice Af1 ((firstsN l i).length + 1) cf1] 86 (0, 0)) := by simpa using blk_set BK2.out 2 _
          have HT3 := Aside0.mk (Kd.R_set HT2.out BK2.out (by decide) 2 (.slice Af1 ((firstsN l i).length + 1) cf1))
          have HF3 := Aside0.mk (Kd.R_set HF2.out BK2.out (by decide) 2 (.slice Af1 ((firstsN l i).length + 1) cf1))
          have HB3 := Aside0.mk (HB2.out.setCell (p := ⟨w.heap.size, 2, none⟩) (Nat.le_refl _) (.slice Af1 ((firstsN l i).length + 1) cf1))
          have BK3 := Aside0.mk BK3
          clear BK2 HT2 HF2 HB2 BK1 HT1 HF1 HB1 hHeld
          generalize w2.setCell ⟨w.heap.size, 2, none⟩ (.slice Af1 ((firstsN l i).length + 1) cf1) = w3 at BK3 HT3 HF3 HB3 ⊢
          go_wp2
          go_loopw [41] (fun v w' => ∃ k : Nat, k ≤ r.length ∧ v = .int .i64 k ∧ ∃ vt, Aside0 (w'.heap[w.heap.size]? = some (.cells #[.slice (some ad) l.length c0, vt, .slice Af1 ((firstsN l i).length + 1) cf1] 86 (0, 0))) ∧
            Aside0 (Kd.R k89 89 w' w.heap.size (fun _ => True) vt (tasksN l i ++ (jobT (tasksN l i).length i r).take k)) ∧ Aside0 (Kd.R (Kd.int .i64) 3 w' w.heap.size (fun _ => True) (.slice Af1 ((firstsN l i).length + 1) cf1) (firstsN l i ++ [((tasksN l i).length : Int)])) ∧ Aside0 (Below w.heap.size w w')) (fun v _ => r.length - (intOf v).toNat)
          case atStart => exact ⟨0, Nat.zero_le _, rfl, _, ⟨BK3.out⟩, ⟨by rw [List.take_zero, List.append_nil]; exact HT3.out⟩, HF3, HB3⟩
          case round =>
            clear BK3 HT3 HF3 HB3
            obtain ⟨k, hk, rfl, vt, BK, HT, HF, HB⟩ := hrel
            by_cases hlt2 : k < r.length
            · obtain ⟨ad1, x, e1, hx, h1, h2⟩ := at_N40 (Kd.C_below HR1.out HB.out) k hlt2
              cases e1
              have HX2 := Aside0.mk hx
              clear hx
              obtain ⟨At1, ct1, rfl⟩ := Kd.R_slice HT.out
              have hlen : (tasksN l i ++ (jobT (tasksN l i).length i r).take k).length = (tasksN l i).length + k := by rw [List.length_append, List.length_take, jobT_len]; omega
              rw [hlen] at BK HT
              have HL := Aside0.mk hlen
              have hk4 : r.length ≤ 4 := by have := H5.out; omega
              clear hlen
              go_wp2
              have BK1 := Aside0.mk (blk_drew (blk_alloc BK.out (Obj.cells #[Value.int IntKind.i64 x.f0, Value.int IntKind.i64 x.f1] 40)))
              have BT1 := Aside0.mk (blk_drew (blk_new wr (Obj.cells #[Value.int IntKind.i64 x.f0, Value.int IntKind.i64 x.f1] 40)))
              have HT1 := Aside0.mk (Kd.R_drew (Kd.R_alloc HT.out (Obj.cells #[Value.int IntKind.i64 x.f0, Value.int IntKind.i64 x.f1] 40)))
              have HF1 := Aside0.mk (Kd.R_drew (Kd.R_alloc HF.out (Obj.cells #[Value.int IntKind.i64 x.f0, Value.int IntKind.i64 x.f1] 40)))
              have HB1 := Aside0.mk (below_drew1 (below_alloc HB.out (Obj.cells #[Value.int IntKind.i64 x.f0, Value.int IntKind.i64 x.f1] 40)))
              refine start_ (n := 19) (S := fun w' => w'.cell? ⟨w.heap.size, 1, none⟩ = some (.slice At1 ((tasksN l i).length + k) ct1) ∧ w'.cell? ⟨wr.heap.size, 0, none⟩ = some (.int .i64 x.f0) ∧ w'.cell? ⟨wr.heap.size, 1, none⟩ = some (.int .i64 x.f1)) (ds := [18]) #[false, false, false, false, false, false, false, false, false, false, false, false, false, false, false, false, false, false, false] (by kernel_rfl) rfl rfl ⟨(blk_cell BK1.out 1).trans rfl, (blk_cell BT1.out 0).trans rfl, (blk_cell BT1.out 1).trans rfl⟩ (fun hHeld => ?_)
              refine with_tabW of13tab of13bits (fun HT_ HW_ => ?_)
              generalize (wr.alloc (Obj.cells #[Value.int IntKind.i64 x.f0, Value.int IntKind.i64 x.f1] 40)).drew = w1 at BK1 BT1 HT1 HF1 HB1 hHeld ⊢
              refine pure_ (i := 0) (N := some 46) (v := ?_) (a' := ?_) (qd 19 1) rfl rfl (any_of HT_.out (by kernel_rfl)) (fun _ _ _ h => h) (Or.inl ⟨by rfl, ?_⟩) ?_ ?_
              rotate_left
              · intro w'
                go_simp
                with_reducible rfl
              rotate_left
              · simp only [Act.put, qa, qb, qc, i64_w, i32_w]
                rfl
              refine pure_ (i := 1) (N := some 47) (v := ?_) (a' := ?_) (qd 19 3) rfl rfl (any_of HT_.out (by kernel_rfl)) (fun _ _ _ h => h) (Or.inl ⟨by rfl, ?_⟩) ?_ ?_
              rotate_left
              · intro w'
                go_simp
                with_reducible rfl
              rotate_left
              · simp only [Act.put, qa, qb, qc, i64_w, i32_w]
                rfl
              refine pure_ (i := 2) (N := some 48) (v := ?_) (a' := ?_) (qd 19 7) rfl rfl (any_of HT_.out (by kernel_rfl)) (fun _ _ _ h => h) (Or.inl ⟨by rfl, ?_⟩) ?_ ?_
              rotate_left
              · intro w'
                go_simp
                with_reducible rfl
              rotate_left
              · simp only [Act.put, qa, qb, qc, i64_w, i32_w]
                rfl
              refine pure_ (i := 3) (N := some 49) (v := ?_) (a' := ?_) (qd 19 15) rfl rfl (any_of HT_.out (by kernel_rfl)) (fun _ _ _ h => h) (Or.inl ⟨by rfl, ?_⟩) ?_ ?_
              rotate_left
              · intro w'
                go_simp
                with_reducible rfl
              rotate_left
              · simp only [Act.put, qa, qb, qc, i64_w, i32_w]
                rfl
              refine pure_ (i := 6) (N := some 52) (v := ?_) (a' := ?_) (qd 19 79) rfl rfl (any_of HT_.out (by kernel_rfl)) (fun _ _ _ h => h) (Or.inl ⟨by rfl, ?_⟩) ?_ ?_
              rotate_left
              · intro w'
                go_simp
                with_reducible rfl
              rotate_left
              · simp only [Act.put, qa, qb, qc, i64_w, i32_w]
                rfl
              refine pure_ (i := 7) (N := some 53) (v := ?_) (a' := ?_) (qd 19 207) rfl rfl (any_of HT_.out (by kernel_rfl)) (fun _ _ _ h => h) (Or.inl ⟨by rfl, ?_⟩) ?_ ?_
              rotate_left
              · intro w'
                go_simp
                with_reducible rfl
              rotate_left
              · simp only [Act.put, qa, qb, qc, i64_w, i32_w]
                rfl
              refine pure_ (i := 8) (N := some 54) (v := ?_) (a' := ?_) (qd 19 463) rfl rfl (any_of HT_.out (by kernel_rfl)) (fun _ _ _ h => h) (Or.inl ⟨by rfl, ?_⟩) ?_ ?_
              rotate_left
              · intro w'
                go_simp
                with_reducible rfl
              rotate_left
              · simp only [Act.put, qa, qb, qc, i64_w, i32_w]
                rfl
              refine pure_ (i := 11) (N := some 57) (v := ?_) (a' := ?_) (qd 19 2511) rfl rfl (any_of HT_.out (by kernel_rfl)) (fun _ _ _ h => h) (Or.inl ⟨by rfl, ?_⟩) ?_ ?_
              rotate_left
              · intro w'
                go_simp
                with_reducible rfl
              rotate_left
              · simp only [Act.put, qa, qb, qc, i64_w, i32_w]
                rfl
              refine pure_ (i := 12) (N := some 58) (v := ?_) (a' := ?_) (qd 19 6607) rfl rfl (any_of HT_.out (by kernel_rfl)) (fun _ _ _ h => h) (Or.inl ⟨by rfl, ?_⟩) ?_ ?_
              rotate_left
              · intro w'
                go_simp
                with_reducible rfl
              rotate_left
              · simp only [Act.put, qa, qb, qc, i64_w, i32_w]
                rfl
              refine take_ (i := 4) (N := some 50) (v := ?_) (a' := ?_) (qd 19 6623) rfl rfl (take_ofW HT_.out HW_.out (by kernel_rfl)) (fun _ _ _ h => h) (Or.inl ⟨by rfl, ?_⟩) hHeld ?_ ?_
              rotate_left
              · rintro w' ⟨s0, s1, s2⟩
                go_simp
                with_reducible rfl
              rotate_left
              · simp only [Act.put, qa, qb, qc, i64_w, i32_w]
                rfl
              refine take_ (i := 5) (N := some 51) (v := ?_) (a' := ?_) (qd 19 6655) rfl rfl (take_ofW HT_.out HW_.out (by kernel_rfl)) (fun _ _ _ h => h) (Or.inl ⟨by rfl, ?_⟩) hHeld ?_ ?_
              rotate_left
              · rintro w' ⟨s0, s1, s2⟩
                go_simp
                with_reducible rfl
              rotate_left
              · simp only [Act.put, qa, qb, qc, i64_w, i32_w]
                rfl
              refine take_ (i := 9) (N := some 55) (v := ?_) (a' := ?_) (qd 19 7167) rfl rfl (take_ofW HT_.out HW_.out (by kernel_rfl)) (fun _ _ _ h => h) (Or.inl ⟨by rfl, ?_⟩) hHeld ?_ ?_
              rotate_left
              · rintro w' ⟨s0, s1, s2⟩
                go_simp
                with_reducible rfl
              rotate_left
              · simp only [Act.put, qa, qb, qc, i64_w, i32_w]
                rfl
              refine pure_ (i := 10) (N := some 56) (v := ?_) (a' := ?_) (qd 19 8191) rfl rfl (any_of HT_.out (by kernel_rfl)) (fun _ _ _ h => h) (Or.inl ⟨by rfl, ?_⟩) ?_ ?_
              rotate_left
              · intro w'
                go_simp
                with_reducible rfl
              rotate_left
              · simp only [Act.put, qa, qb, qc, i64_w, i32_w]
                rfl
              refine pure_ (i := 13) (N := some 59) (v := ?_) (a' := ?_) (qd 19 16383) rfl rfl (any_of HT_.out (by kernel_rfl)) (fun _ _ _ h => h) (Or.inl ⟨by rfl, ?_⟩) ?_ ?_
              rotate_left
              · intro w'
                go_simp
                with_reducible rfl
              rotate_left
              · simp only [Act.put, qa, qb, qc, i64_w, i32_w]
                rfl
              refine one_ (i := 14) (N := some 60) (qd 19 32767) rfl rfl (one_of HT_.out (by kernel_rfl)) (by decide) (fun K hK => ?_)
              refine value_ (w1 := ?_) (v := ?_) (by rfl) rfl ?_ ?_
              rotate_left 2
              · go_simp
                constructor
                · rfl
                · rfl
              refine hK.out _ _ ⟨(blk_cell (blk_alloc BK1.out _) 1).trans rfl, (blk_cell (blk_alloc BT1.out _) 0).trans rfl, (blk_cell (blk_alloc BT1.out _) 1).trans rfl⟩ (fun hHeld => ?_)
              clear hK K
              refine norm_ (a' := ?_) ?_ ?_
              rotate_left
              · show Act.put _ (some 60) _ = _
                simp only [Act.put, qa, qb, qc, i64_w, i32_w]
                rfl
              refine one_ (i := 15) (N := some 61) (qd 19 65535) rfl rfl (one_of HT_.out (by kernel_rfl)) (by decide) (fun K hK => ?_)
              refine Kd.R_append_step k89 (w0 := w) w.heap.size (by rfl) (.tmp 50) (.tmp 60) 84 89 (.agg #[.int .i64 0, .int .i64 0, .int .i64 0, .int .i64 0, .int .i64 0]) 40 rfl Try.underlying84 info89 rfl (by decide) (by decide) (.slice At1 ((tasksN l i).length + k) ct1) (tasksN l i ++ (jobT (tasksN l i).length i r).take k) ⟨x, (((tasksN l i).length + k : Nat) : Int), (i : Int), (k : Int)⟩ [.int .i64 x.f0, .int .i64 x.f1, .int .i64 (((tasksN l i).length + k : Nat) : Int), .int .i64 (i : Int), .int .i64 (k : Int)] (fun _ => True) (fun _ => False) rfl rfl ?bP (fun _ hk => hk.elim) (fun _ _ => trivial) HT1.out HB1.out (below_size HB1.out) ?bL ?_
              (case bP => exact k89_mkM _ _ _ _)
              (case bL => rw [HL.out]; have := tasksN_len l i (fun j hj => HS.out j hj); have := H5.out; have := H4.out; omega)
              intro v1 w2 ho hb hg hat
              have BK2 := Aside0.mk (blk_grown BK1.out hg (Kd.R_ne HT1.out BK1.out (by decide)))
              have BT2 := Aside0.mk (blk_grown BT1.out hg (Kd.R_ne HT1.out BT1.out (by decide)))
              have HF2 := Aside0.mk (Kd.R_over HF1.out HT1.out (by decide) hg)
              have HB2 := Aside0.mk hb
              obtain ⟨At2, ct2, e⟩ := Kd.R_slice ho
              rw [List.length_append, List.length_singleton, HL.out] at e
              subst e
              have HT2 := Aside0.mk ho
              clear ho hb hg hat
              refine hK.out _ _ ⟨(blk_cell BK2.out 1).trans rfl, (blk_cell BT2.out 0).trans rfl, (blk_cell BT2.out 1).trans rfl⟩ (fun hHeld => ?_)
              clear hK K
              refine norm_ (a' := ?_) ?_ ?_
              rotate_left
              · show Act.put _ (some 61) _ = _
                simp only [Act.put, qa, qb, qc, i64_w, i32_w]
                rfl
              refine pure_ (i := 16) (N := some 62) (v := ?_) (a' := ?_) (qd 19 131071) rfl rfl (any_of HT_.out (by kernel_rfl)) (fun _ _ _ h => h) (Or.inl ⟨by rfl, ?_⟩) ?_ ?_
              rotate_left
              · intro w'
                go_simp
                with_reducible rfl
              rotate_left
              · simp only [Act.put, qa, qb, qc, i64_w, i32_w]
                rfl
              refine pure_ (i := 17) (N := some 63) (v := ?_) (a' := ?_) (qd 19 262143) rfl rfl (any_of HT_.out (by kernel_rfl)) (fun _ _ _ h => h) (Or.inl ⟨by rfl, ?_⟩) ?_ ?_
              rotate_left
              · intro w'
                go_simp
                with_reducible rfl
              rotate_left
              · simp only [Act.put, qa, qb, qc, i64_w, i32_w]
                rfl
              refine last_ (i := 18) (N := none) (qd 19 524287) rfl rfl (one_of HT_.out (by kernel_rfl)) (by decide) (fun K hK => ?_)
              have hcz := (blk_cell BK2.out 1).trans rfl
              have hfz := blk_frozen BK2.out 1
              refine skip_ (w1 := ?_) (by rfl) rfl ?_ ?_
              rotate_left
              · go_simp
                rfl
              refine hK.out _ _ ?_
              clear hK K hcz hfz
              refine done_ (done_of HT_.out (by kernel_rfl)) ?_
              have BK3 := Aside0.mk (show (w2.setCell ⟨w.heap.size, 1, none⟩ (.slice At2 ((tasksN l i).length + k + 1) ct2)).heap[w.heap.size]? = some (.cells #[.slice (some ad) l.length c0, .slice At2 ((tasksN l i).length + k + 1) ct2, .slice Af1 ((firstsN l i).length + 1) cf1] 86 (0, 0)) by simpa using blk_set BK2.out 1 _)
              have HT3 := Aside0.mk (Kd.R_set HT2.out BK2.out (by decide) 1 (.slice At2 ((tasksN l i).length + k + 1) ct2))
              have HF3 := Aside0.mk (Kd.R_set HF2.out BK2.out (by decide) 1 (.slice At2 ((tasksN l i).length + k + 1) ct2))
              have HB3 := Aside0.mk (HB2.out.setCell (p := ⟨w.heap.size, 1, none⟩) (Nat.le_refl _) (.slice At2 ((tasksN l i).length + k + 1) ct2))
              go_wp2
              refine ⟨⟨k + 1, by omega, rfl, _, BK3, ⟨?_⟩, HF3, HB3⟩, by simp [intOf]; omega⟩
              rw [jobT_take _ _ _ _ hlt2, ← List.append_assoc, ← HX2.out]
              exact HT3.out
            · obtain rfl : k = r.length := by omega
              have htk : (jobT (tasksN l i).length i r).take r.length = jobT (tasksN l i).length i r := List.take_of_length_le (by rw [jobT_len]; exact Nat.le_refl _)
              rw [htk] at HT
              clear htk hlt2
              go_wp2
              refine ⟨⟨i + 1, by omega, rfl, ⟨fun j hj => ?_⟩, _, _, BK, ⟨?_⟩, HF, HB⟩, by simp [intOf]; omega⟩
              · by_cases e : j = i
                · subst e; rw [← HX.out]; have := H5.out; omega
                · exact HS.out j (by omega)
              · show Kd.R k89 89 wr w.heap.size (fun _ => True) vt (tasksN l i ++ jobT (tasksN l i).length i (l.getD i []))
                rw [← HX.out]; exact HT.out
      · obtain rfl : i = l.length := by omega
        obtain ⟨At, ct, rfl⟩ := Kd.R_slice HT.out
        obtain ⟨Af, cf, rfl⟩ := Kd.R_slice HF.out
        have hz1 := (blk_cell BK.out 1).trans rfl
        obtain ⟨_, hct, hCT⟩ := Kd.R_reads' HT.out
        obtain ⟨_, hcf, hCF⟩ := Kd.R_reads' HF.out
        have HCT := Aside0.mk hCT
        have HCF := Aside0.mk hCF
        have HNF := Aside0.mk hcf
        clear hCT hCF hcf
        have hn : (tasksN l l.length).length ≤ 16 := by have := tasksN_len l l.length (fun j hj => HS.out j hj); have := H4.out; omega
        have h3 : (l.any fun r => decide (r.length > 4)) = false := by
          rw [List.any_eq_false]
          intro r hr
          obtain ⟨j, hj, rfl⟩ := List.getElem_of_mem hr
          have := HS.out j hj
          rw [List.getD_eq_getElem?_getD, List.getElem?_eq_getElem hj] at this
          have this : l[j].length ≤ 4 := this
          simpa using this
        have he : ofErr l = if (tasksN l l.length).length > 10 then 3 else if (tasksN l l.length).any S89.bad = true then 2 else 0 := by
          unfold ofErr
          rw [if_neg H4.out, h3, if_neg (by decide)]
        have HE := Aside0.mk he
        clear he h3
        by_cases h10 : (tasksN l l.length).length > 10
        · have d2 : decide (((tasksN l l.length).length : Int) > 10) = true := decide_eq_true (by omega)
          have HE2 := Aside0.mk (HE.out.trans (if_pos h10))
          clear h10
          go_wp2
          go_ret2
          rw [HE2.out]
          exact ⟨⟨none, rfl, fun h => absurd h (by decide), fun _ => rfl⟩, HB.out⟩
        · have d2 : decide (((tasksN l l.length).length : Int) > 10) = false := decide_eq_false (by omega)
          have HE1 := Aside0.mk (HE.out.trans (if_neg h10))
          clear h10
          cases hb : (tasksN l l.length).any S89.bad
          · have HBD := Aside0.mk hb
            have HE2 := Aside0.mk (HE1.out.trans (if_neg (by rw [hb]; decide)))
            clear hb
            go_wp2_with (first | ((with_reducible refine (ContainsFunc_of_1.calls At ct (tasksN l l.length) _ HCT.out hct (by omega)).mono ?_); rw [HBD.out]; rintro e w4 ⟨rfl, hb4⟩; have HB4 := Aside0.mk hb4; clear hb4))
            go_ret2
            rw [HE2.out]
            refine ⟨⟨_, rfl, fun _ => ⟨_, rfl, _, _, _, _, _, _, blk_below BK.out HB4.out, Kd.C_below (Kd.C_below HR.out HB.out) HB4.out, HC.out, Kd.C_below HCT.out HB4.out, hct, ?_, HNF.out⟩, fun h => absurd rfl h⟩, below_then HB.out (below_size HB.out) HB4.out⟩
            exact Kd.C_below HCF.out HB4.out
          · have HBD := Aside0.mk hb
            have HE2 := Aside0.mk (HE1.out.trans (if_pos hb))
            clear hb
            go_wp2_with (first | ((with_reducible refine (ContainsFunc_of_1.calls At ct (tasksN l l.length) _ HCT.out hct (by omega)).mono ?_); rw [HBD.out]; rintro e w4 ⟨rfl, hb4⟩; have HB4 := Aside0.mk hb4; clear hb4))
            go_ret2
            rw [HE2.out]
            exact ⟨⟨none, rfl, fun h => absurd h (by decide), fun _ => rfl⟩, below_then HB.out (below_size HB.out) HB4.out⟩
end Go.Proofs.Ytipkhaicjjeieaa.V
