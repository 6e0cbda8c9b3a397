/- Walks of the shop's functions: the statement on the number of a proof's nodes (ShopLimit). -/
import Derived.Test.YtipkhaicjjeieaaKLShAl
import Derived.Deep.MidRow
namespace Go.Proofs.Ytipkhaicjjeieaa.V
set_option linter.unusedSimpArgs false
set_option linter.unusedVariables false
open Go.RowKit Go.Proofs.YtipkhaicjjeieaaW.PrintWords Go.Proofs.YtipkhaicjjeieaaW.PrintLast Go.Proofs.YtipkhaicjjeieaaW.PrintMore
def nd1 : S38 := ⟨1, 0, 0, [0]⟩
def J1 : List (List S40) := [[⟨1, 5⟩]]
theorem err_J1 : ofErr J1 = 0 := by decide +kernel
theorem read_nd1 (lim : Int) (f : Nat) (rest : List S38) : readF (tasksN J1 J1.length) lim (f + 1) (natN (tasksN J1 J1.length) (tasksN J1 J1.length).length) (nd1 :: rest) = some (decide (5 > lim), rest) := by
  have e : chainB (tasksN J1 J1.length) (natN (tasksN J1 J1.length) (tasksN J1 J1.length).length) lim [0] = decide (5 > lim) := by
    have h1 : okN (tasksN J1 J1.length) (natN (tasksN J1 J1.length) (tasksN J1 J1.length).length) [0] 1 = true := by decide +kernel
    have h2 : twN [0] 1 = false := by decide +kernel
    have h3 : smN (tasksN J1 J1.length) [0] 1 = 5 := by decide +kernel
    unfold chainB
    show (okN _ _ [0] 1 && (decide (0 < 1) && (twN [0] 1 || decide (smN _ [0] 1 > lim)))) = _
    rw [h1, h2, h3]
    simp
  rw [readF, if_neg (by decide), if_pos (by rfl)]
  show some (chainB _ _ lim [0], rest) = _
  rw [e]
theorem check_arg {lim : Int} (h : limB lim = false) (l : List S38) : checkF J1 lim l = some (false, 2) := by
  unfold checkF
  rw [if_neg (fun q => q err_J1), if_pos h]
theorem check_many {lim : Int} (h : limB lim = true) {l : List S38} (hl : l.length > 65535) : checkF J1 lim l = some (false, 3) := by
  unfold checkF
  rw [if_neg (fun q => q err_J1), if_neg (by rw [h]; decide), if_pos hl]
theorem check_all {lim : Int} (h : limB lim = true) {n : Nat} (hn : n + 2 ≤ 65535) : checkF J1 lim (List.replicate (n + 2) nd1) = some (false, 0) := by
  unfold checkF
  rw [if_neg (fun q => q err_J1), if_neg (by rw [h]; decide), if_neg (by simp; omega), List.replicate_succ, read_nd1]
  simp [List.replicate_succ]
theorem check_one {lim : Int} (h : limB lim = true) : checkF J1 lim [nd1] = some (decide (lim < 5), 0) := by
  unfold checkF
  rw [if_neg (fun q => q err_J1), if_neg (by rw [h]; decide), if_neg (by simp), read_nd1]
  simp
structure Pf (w0 w : World) (P n i : Nat) : Prop where
  below : Below w0.heap.size w0 w
  lo : w0.heap.size ≤ P
  blk : ∃ cs, w.heap[P]? = some (.cells cs 38 (0, 0)) ∧ cs.size = n * 4 ∧ ∀ t, t < i → ∃ b, b ≠ P ∧ w.heap[b]? = some (.cells (rowI [0]) 3 (0, 0)) ∧ cs[t * 4]? = some (.int .i64 1) ∧ cs[t * 4 + 1]? = some (.int .i64 0) ∧ cs[t * 4 + 2]? = some (.int .i64 0) ∧ cs[t * 4 + 3]? = some (.slice (some ⟨b, 0, none⟩) 1 1)
section
variable {w0 w : World} {P n i : Nat}
theorem Pf.below_ {w1 : World} (h : Pf w0 w P n i) (hb : Below w.heap.size w w1) : Pf w0 w1 P n i := by
  obtain ⟨cs, h1, h2, h3⟩ := h.blk
  refine ⟨below_step h.below hb, h.lo, cs, blk_below h1 hb, h2, fun t ht => ?_⟩
  obtain ⟨b, q1, q2, q3⟩ := h3 t ht
  exact ⟨b, q1, blk_below q2 hb, q3⟩
theorem Pf.there (h : Pf w0 w P n i) (hi : i < n) : w.there P (i * 4) 4 := by
  obtain ⟨cs, h1, h2, _⟩ := h.blk
  intro j hj
  refine ⟨?_, blk_frozen h1 _⟩
  have := blk_cell h1 (i * 4 + j)
  rw [this, Array.getElem?_eq_getElem (by omega)]
  rfl
theorem Pf.put (h : Pf w0 w P n i) (hi : i < n) {b : Nat} (hb : b ≠ P) (hr : w.heap[b]? = some (.cells (rowI [0]) 3 (0, 0))) : Pf w0 (w.setCells P (i * 4) [.int .i64 1, .int .i64 0, .int .i64 0, .slice (some ⟨b, 0, none⟩) 1 1]) P n (i + 1) := by
  obtain ⟨cs, h1, h2, h3⟩ := h.blk
  have e : w.setCells P (i * 4) [.int .i64 1, .int .i64 0, .int .i64 0, .slice (some ⟨b, 0, none⟩) 1 1] = (((w.setCell ⟨P, i * 4, none⟩ (.int .i64 1)).setCell ⟨P, i * 4 + 1, none⟩ (.int .i64 0)).setCell ⟨P, i * 4 + 1 + 1, none⟩ (.int .i64 0)).setCell ⟨P, i * 4 + 1 + 1 + 1, none⟩ (.slice (some ⟨b, 0, none⟩) 1 1) := rfl
  rw [e]
  have far : ∀ k, k ≠ P → w.heap[k]? = some (.cells (rowI [0]) 3 (0, 0)) → ((((w.setCell ⟨P, i * 4, none⟩ (.int .i64 1)).setCell ⟨P, i * 4 + 1, none⟩ (.int .i64 0)).setCell ⟨P, i * 4 + 1 + 1, none⟩ (.int .i64 0)).setCell ⟨P, i * 4 + 1 + 1 + 1, none⟩ (.slice (some ⟨b, 0, none⟩) 1 1)).heap[k]? = some (.cells (rowI [0]) 3 (0, 0)) := fun k hk hq => blk_far (blk_far (blk_far (blk_far hq hk _) hk _) hk _) hk _
  refine ⟨(((h.below.setCell h.lo _).setCell h.lo _).setCell h.lo _).setCell h.lo _, h.lo, _, blk_set (blk_set (blk_set (blk_set h1 _ _) _ _) _ _) _ _, by simp [h2], fun t ht => ?_⟩
  by_cases ht2 : t = i
  · subst ht2
    refine ⟨b, hb, far b hb hr, ?_, ?_, ?_, ?_⟩
    · rw [Array.getElem?_setIfInBounds_ne (by omega), Array.getElem?_setIfInBounds_ne (by omega), Array.getElem?_setIfInBounds_ne (by omega), Array.getElem?_setIfInBounds_self_of_lt (by omega)]
    · rw [Array.getElem?_setIfInBounds_ne (by omega), Array.getElem?_setIfInBounds_ne (by omega), Array.getElem?_setIfInBounds_self_of_lt (by simp only [Array.size_setIfInBounds]; omega)]
    · rw [Array.getElem?_setIfInBounds_ne (by omega), Array.getElem?_setIfInBounds_self_of_lt (by simp only [Array.size_setIfInBounds]; omega)]
    · rw [Array.getElem?_setIfInBounds_self_of_lt (by simp only [Array.size_setIfInBounds]; omega)]
  · obtain ⟨b2, q1, q2, q3, q4, q5, q6⟩ := h3 t (by omega)
    refine ⟨b2, q1, far b2 q1 q2, ?_, ?_, ?_, ?_⟩
    · rw [Array.getElem?_setIfInBounds_ne (by omega), Array.getElem?_setIfInBounds_ne (by omega), Array.getElem?_setIfInBounds_ne (by omega), Array.getElem?_setIfInBounds_ne (by omega)]
      exact q3
    · rw [Array.getElem?_setIfInBounds_ne (by omega), Array.getElem?_setIfInBounds_ne (by omega), Array.getElem?_setIfInBounds_ne (by omega), Array.getElem?_setIfInBounds_ne (by omega)]
      exact q4
    · rw [Array.getElem?_setIfInBounds_ne (by omega), Array.getElem?_setIfInBounds_ne (by omega), Array.getElem?_setIfInBounds_ne (by omega), Array.getElem?_setIfInBounds_ne (by omega)]
      exact q5
    · rw [Array.getElem?_setIfInBounds_ne (by omega), Array.getElem?_setIfInBounds_ne (by omega), Array.getElem?_setIfInBounds_ne (by omega), Array.getElem?_setIfInBounds_ne (by omega)]
      exact q6
theorem Pf.C (h : Pf w0 w P n n) (hn : n ≤ 70000) (m : Nat) (hm : m ≤ n) : Kd.C k38 w (some ⟨P, 0, none⟩) (List.replicate m nd1).length (List.replicate m nd1) := by
  obtain ⟨cs, h1, h2, h3⟩ := h.blk
  rw [List.length_replicate]
  refine ⟨List.length_replicate, by omega, fun _ => ⟨_, rfl, fun j p hp => ?_⟩⟩
  rw [List.getElem?_replicate] at hp
  split at hp
  · cases hp
    rename_i hj
    obtain ⟨b, q1, q2, q3, q4, q5, q6⟩ := h3 j (by omega)
    refine ⟨_, rfl, k38_mk w nd1 (A3 := some ⟨b, 0, none⟩) (c3 := 1) (by decide) (C_row q2 (by decide)), fun i u hu => ?_⟩
    rw [add_plain]
    refine (blk_cell h1 _).trans ?_
    match i, hu with
    | 0, hu => exact q3.trans hu
    | 1, hu => exact q4.trans hu
    | 2, hu => exact q5.trans hu
    | 3, hu => exact q6.trans hu
  · cases hp
end
theorem info38z : (Try.prog.info? 38).map (fun i => (i.zero, i.size, i.bytes)) = some (some (.agg #[.int .i64 0, .int .i64 0, .int .i64 0, .slice none 0 0]), 4, 48) := by kernel_rfl
theorem info38s : (Try.prog.info? 38).map (·.size) = some 4 := by kernel_rfl
theorem run_makeP (W : World) (n : Nat) (hn : n ≤ 70000) (ev : Operand → Value) (o : Oper) (x y : Operand) (ho : o.op = .makeSlice 32 x y) (hx : ev x = .int .i64 n) (hy : ev y = .int .i64 n) :
    (execOp ev o).run Try.prog W = .ok (.value (.slice (some ⟨W.heap.size, 0, none⟩) n n)) (W.alloc (.cells (madeCells #[.int .i64 0, .int .i64 0, .int .i64 0, .slice none 0 0] (n * 4)) 38)) := by
  obtain ⟨i0, hi, hzz⟩ := Option.map_eq_some_iff.1 info38z
  simp only [Prod.mk.injEq] at hzz
  obtain ⟨hz0, hz1, hz2⟩ := hzz
  have hr := run_make (P := Try.prog) W 32 38 i0 _ Try.underlying32 hi hz0 .i64 .i64 (n : Int) (n : Int) (by omega) (by omega) (by rw [hz2]; omega) (by omega)
  rw [hz1, Int.toNat_natCast] at hr
  simp only [execOp, ho, hx, hy]
  simp [hr, Value.cells]
theorem Pf.start {w0 w : World} (h : Below w0.heap.size w0 w) (n : Nat) : Pf w0 (w.alloc (.cells (madeCells #[.int .i64 0, .int .i64 0, .int .i64 0, .slice none 0 0] (n * 4)) 38)) w.heap.size n 0 :=
  ⟨below_alloc h _, h.size, _, blk_new w _, by simp [madeCells], fun t ht => by omega⟩
def wK (w : World) : World := (w.alloc (Obj.cells #[.int .i64 1, .int .i64 5] 40)).alloc (Obj.cells #[.slice (some ⟨w.heap.size, 0, none⟩) 1 1] 41)
theorem wK_below (w : World) : Below w.heap.size w (wK w) := below_alloc (below_alloc (Below.refl _ _) _) _
theorem wK_C (w : World) : Kd.C (Kd.slice 40 k40) (wK w) (some ⟨w.heap.size + 1, 0, none⟩) J1.length J1 := by
  have b0 : (wK w).heap[w.heap.size]? = some (.cells #[.int .i64 1, .int .i64 5] 40 (0, 0)) := blk_alloc (blk_new w _) _
  have b1 : (wK w).heap[w.heap.size + 1]? = some (.cells #[.slice (some ⟨w.heap.size, 0, none⟩) 1 1] 41 (0, 0)) := by
    have h := blk_new (w.alloc (Obj.cells #[.int .i64 1, .int .i64 5] 40)) (Obj.cells #[.slice (some ⟨w.heap.size, 0, none⟩) 1 1] 41)
    rw [show (w.alloc (Obj.cells #[.int .i64 1, .int .i64 5] 40)).heap.size = w.heap.size + 1 by simp] at h
    exact h
  have r0 : k40.C (wK w) (some ⟨w.heap.size, 0, none⟩) 1 [⟨1, 5⟩] := C_lit (xs := [⟨1, 5⟩]) k40 b0 (fun j p hp => by
    match j, hp with
    | 0, hp =>
      cases hp
      refine ⟨_, k40_mk (wK w) _, fun i u hu => ?_⟩
      match i, hu with
      | 0, hu => exact hu
      | 1, hu => exact hu) (by simp)
  refine C_lit (Kd.slice 40 k40) b1 (fun j p hp => ?_) (by decide)
  match j, hp with
  | 0, hp =>
    cases hp
    refine ⟨_, ⟨some ⟨w.heap.size, 0, none⟩, 1, rfl, by decide, r0⟩, fun i u hu => ?_⟩
    match i, hu with
    | 0, hu => exact hu
theorem Pf.check {w0 w : World} {P n : Nat} (h : Pf w0 w P n n) (hn : n ≤ 70000) (m : Nat) (hm : m ≤ n) (lim : Int) (r : Bool × Int) (hr : checkF J1 lim (List.replicate m nd1) = some r) (w1 : World) (hb : Below w.heap.size w w1) (A : Option Addr) (hA : Kd.C (Kd.slice 40 k40) w1 A J1.length J1) :
    Calls Try.prog 20 #[.slice A 1 1, .int .i64 lim, .slice (some ⟨P, 0, none⟩) m n] w1 fun e w' => e = .returned (.tuple #[.bool r.1, .int .i64 r.2]) ∧ Below w1.heap.size w1 w' := by
  have hc := (h.below_ hb).C hn m hm
  have h2 := shop_Check.calls A 1 J1 lim (some ⟨P, 0, none⟩) n (List.replicate m nd1) r w1 hA (by decide) (by decide) hc (by rw [List.length_replicate]; exact hm) (fun nd hd => by rw [List.eq_of_mem_replicate hd]; decide) hr
  rw [List.length_replicate] at h2
  exact h2
set_option maxHeartbeats 2000000 in
set_option maxRecDepth 100000 in
theorem limit_rest (more : Bool) (lim : Int) (n : Nat) (v14 v15 : Value) (w : World) (hn : 2 ≤ n ∧ n ≤ 65536) (hm : more = decide (n > 65535)) :
    ((Go.Code.region 4 #[{ dst := some 16, op := Go.Op.move (Go.Operand.tmp 5), type := 3, pos := "law.go:133", after := #[], guard := none }, { dst := some 17, op := Go.Op.makeSlice 32 (Go.Operand.tmp 16) (Go.Operand.tmp 16), type := 32, pos := "law.go:133", after := #[{ on := 0, ground := Go.Ground.data }, { on := 0, ground := Go.Ground.data }], guard := none }, { dst := some 6, op := Go.Op.assign (Go.Operand.tmp 17), type := 32, pos := "law.go:133", after := #[{ on := 1, ground := Go.Ground.data }, { on := 0, ground := Go.Ground.phase }, { on := 1, ground := Go.Ground.phase }], guard := none }] false).seq (((Go.Code.region 5 #[{ dst := some 7, op := Go.Op.assign (Go.Operand.const (Go.Value.int Go.IntKind.i64 0)), type := 3, pos := "law.go:134", after := #[], guard := none }] false).seq (Go.Code.block 0 (((Go.Code.region 6 #[{ dst := some 18, op := Go.Op.move (Go.Operand.tmp 7), type := 3, pos := "law.go:134", after := #[], guard := none }, { dst := some 19, op := Go.Op.move (Go.Operand.tmp 5), type := 3, pos := "law.go:134", after := #[], guard := none }, { dst := some 20, op := Go.Op.binOp Go.BinOp.lss 3 (Go.Operand.tmp 18) (Go.Operand.tmp 19) 3, type := 4, pos := "law.go:134", after := #[{ on := 0, ground := Go.Ground.data }, { on := 1, ground := Go.Ground.data }], guard := none }] false).seq (Go.Code.cond (Go.Operand.tmp 20) Go.Code.skip (Go.Code.exit 0))).seq ((Go.Code.block 1 (Go.Code.region 8 #[{ dst := some 23, op := Go.Op.move (Go.Operand.tmp 6), type := 32, pos := "law.go:135", after := #[], guard := none }, { dst := some 24, op := Go.Op.move (Go.Operand.tmp 7), type := 3, pos := "law.go:135", after := #[], guard := none }, { dst := some 25, op := Go.Op.buildSlice 26 1 #[(0, Go.Operand.const (Go.Value.int Go.IntKind.i64 0))], type := 26, pos := "law.go:135", after := #[], guard := none }, { dst := some 26, op := Go.Op.build 38 #[(0, Go.Operand.const (Go.Value.int Go.IntKind.i64 1)), (3, Go.Operand.tmp 25)], type := 38, pos := "law.go:135", after := #[{ on := 2, ground := Go.Ground.data }], guard := none }, { dst := some 27, op := Go.Op.indexAddr 32 (Go.Operand.tmp 23) (Go.Operand.tmp 24), type := 0, pos := "law.go:135", after := #[{ on := 0, ground := Go.Ground.data }, { on := 1, ground := Go.Ground.data }, { on := 0, ground := Go.Ground.phase }, { on := 1, ground := Go.Ground.phase }, { on := 2, ground := Go.Ground.phase }, { on := 3, ground := Go.Ground.phase }], guard := none }, { dst := none, op := Go.Op.store 38 (Go.Operand.tmp 27) (Go.Operand.tmp 26), type := 0, pos := "law.go:135", after := #[{ on := 4, ground := Go.Ground.data }, { on := 3, ground := Go.Ground.data }, { on := 0, ground := Go.Ground.phase }, { on := 1, ground := Go.Ground.phase }, { on := 2, ground := Go.Ground.phase }, { on := 3, ground := Go.Ground.phase }], guard := none }] false)).seq (Go.Code.region 7 #[{ dst := some 21, op := Go.Op.move (Go.Operand.tmp 7), type := 3, pos := "law.go:134", after := #[], guard := none }, { dst := some 22, op := Go.Op.binOp Go.BinOp.add 3 (Go.Operand.tmp 21) (Go.Operand.const (Go.Value.int Go.IntKind.i64 1)) 3, type := 3, pos := "law.go:134", after := #[{ on := 0, ground := Go.Ground.data }], guard := none }, { dst := some 7, op := Go.Op.assign (Go.Operand.tmp 22), type := 3, pos := "law.go:134", after := #[{ on := 1, ground := Go.Ground.data }, { on := 0, ground := Go.Ground.phase }, { on := 1, ground := Go.Ground.phase }], guard := none }] false))).loop)).seq ((Go.Code.region 9 #[{ dst := some 28, op := Go.Op.build 40 #[(0, Go.Operand.const (Go.Value.int Go.IntKind.i64 1)), (1, Go.Operand.const (Go.Value.int Go.IntKind.i64 5))], type := 40, pos := "law.go:137", after := #[], guard := none }, { dst := some 29, op := Go.Op.buildSlice 41 1 #[(0, Go.Operand.tmp 28)], type := 41, pos := "law.go:137", after := #[{ on := 0, ground := Go.Ground.data }], guard := none }, { dst := some 30, op := Go.Op.buildSlice 22 1 #[(0, Go.Operand.tmp 29)], type := 22, pos := "law.go:137", after := #[{ on := 1, ground := Go.Ground.data }], guard := none }, { dst := some 8, op := Go.Op.assign (Go.Operand.tmp 30), type := 22, pos := "law.go:137", after := #[{ on := 2, ground := Go.Ground.data }, { on := 0, ground := Go.Ground.phase }, { on := 1, ground := Go.Ground.phase }, { on := 2, ground := Go.Ground.phase }], guard := none }] false).seq ((Go.Code.region 10 #[{ dst := some 32, op := Go.Op.move (Go.Operand.tmp 8), type := 22, pos := "law.go:138", after := #[], guard := none }, { dst := some 33, op := Go.Op.move (Go.Operand.tmp 1), type := 3, pos := "law.go:138", after := #[], guard := none }, { dst := some 34, op := Go.Op.move (Go.Operand.tmp 6), type := 32, pos := "law.go:138", after := #[], guard := none }, { dst := some 35, op := Go.Op.call { callee := Go.Callee.value (Go.Operand.func 20), args := #[Go.Operand.tmp 32, Go.Operand.tmp 33, Go.Operand.tmp 34], argTypes := #[22, 3, 32] }, type := 34, pos := "law.go:138", after := #[{ on := 0, ground := Go.Ground.data }, { on := 1, ground := Go.Ground.data }, { on := 2, ground := Go.Ground.data }], guard := none }, { dst := some 31, op := Go.Op.move (Go.Operand.tmp 35), type := 34, pos := "law.go:138", after := #[{ on := 3, ground := Go.Ground.data }], guard := none }, { dst := some 36, op := Go.Op.extract (Go.Operand.tmp 31) 0, type := 4, pos := "law.go:138", after := #[{ on := 4, ground := Go.Ground.data }], guard := none }, { dst := some 37, op := Go.Op.extract (Go.Operand.tmp 31) 1, type := 27, pos := "law.go:138", after := #[{ on := 4, ground := Go.Ground.data }, { on := 7, ground := Go.Ground.gcOnly Go.Departure.lateStores }], guard := none }, { dst := some 9, op := Go.Op.assign (Go.Operand.tmp 36), type := 4, pos := "law.go:138", after := #[{ on := 5, ground := Go.Ground.data }, { on := 3, ground := Go.Ground.chain }, { on := 0, ground := Go.Ground.phase }, { on := 1, ground := Go.Ground.phase }, { on := 2, ground := Go.Ground.phase }, { on := 3, ground := Go.Ground.phase }, { on := 4, ground := Go.Ground.phase }, { on := 5, ground := Go.Ground.phase }, { on := 6, ground := Go.Ground.textOnly Go.Departure.lateStores }], guard := none }, { dst := some 10, op := Go.Op.assign (Go.Operand.tmp 37), type := 27, pos := "law.go:138", after := #[{ on := 6, ground := Go.Ground.data }, { on := 7, ground := Go.Ground.chain }, { on := 0, ground := Go.Ground.phase }, { on := 1, ground := Go.Ground.phase }, { on := 2, ground := Go.Ground.phase }, { on := 3, ground := Go.Ground.phase }, { on := 4, ground := Go.Ground.phase }, { on := 5, ground := Go.Ground.phase }, { on := 6, ground := Go.Ground.phase }, { on := 7, ground := Go.Ground.phase }], guard := none }] false).seq (((Go.Code.region 11 #[{ dst := some 38, op := Go.Op.move (Go.Operand.tmp 1), type := 3, pos := "law.go:139", after := #[], guard := none }, { dst := some 39, op := Go.Op.binOp Go.BinOp.lss 3 (Go.Operand.tmp 38) (Go.Operand.const (Go.Value.int Go.IntKind.i64 0)) 3, type := 4, pos := "law.go:139", after := #[{ on := 0, ground := Go.Ground.data }], guard := none }, { dst := some 40, op := Go.Op.move (Go.Operand.tmp 39), type := 4, pos := "law.go:139", after := #[{ on := 1, ground := Go.Ground.data }], guard := none }, { dst := some 41, op := Go.Op.move (Go.Operand.tmp 1), type := 3, pos := "law.go:139", after := #[{ on := 2, ground := Go.Ground.guard }], guard := some (2, false) }, { dst := some 42, op := Go.Op.binOp Go.BinOp.gtr 3 (Go.Operand.tmp 41) (Go.Operand.const (Go.Value.int Go.IntKind.i64 10000)) 3, type := 4, pos := "law.go:139", after := #[{ on := 3, ground := Go.Ground.data }, { on := 2, ground := Go.Ground.guard }], guard := some (2, false) }, { dst := some 43, op := Go.Op.pick (Go.Operand.tmp 40) (Go.Operand.const (Go.Value.bool true)) (Go.Operand.tmp 42), type := 4, pos := "law.go:139", after := #[{ on := 2, ground := Go.Ground.data }, { on := 4, ground := Go.Ground.data }], guard := none }] false).seq (Go.Code.cond (Go.Operand.tmp 43) ((Go.Code.region 12 #[{ dst := some 44, op := Go.Op.move (Go.Operand.tmp 9), type := 4, pos := "law.go:140", after := #[], guard := none }, { dst := some 45, op := Go.Op.unOp Go.UnOp.not 4 (Go.Operand.tmp 44), type := 4, pos := "law.go:140", after := #[{ on := 0, ground := Go.Ground.data }], guard := none }, { dst := some 46, op := Go.Op.move (Go.Operand.tmp 45), type := 4, pos := "law.go:140", after := #[{ on := 1, ground := Go.Ground.data }], guard := none }, { dst := some 47, op := Go.Op.move (Go.Operand.tmp 10), type := 27, pos := "law.go:140", after := #[{ on := 2, ground := Go.Ground.guard }], guard := some (2, true) }, { dst := some 48, op := Go.Op.binOp Go.BinOp.eql 27 (Go.Operand.tmp 47) (Go.Operand.const (Go.Value.int Go.IntKind.i64 2)) 27, type := 4, pos := "law.go:140", after := #[{ on := 3, ground := Go.Ground.data }, { on := 2, ground := Go.Ground.guard }], guard := some (2, true) }, { dst := some 49, op := Go.Op.pick (Go.Operand.tmp 46) (Go.Operand.tmp 48) (Go.Operand.const (Go.Value.bool false)), type := 4, pos := "law.go:140", after := #[{ on := 2, ground := Go.Ground.data }, { on := 4, ground := Go.Ground.data }], guard := none }, { dst := some 50, op := Go.Op.move (Go.Operand.tmp 49), type := 4, pos := "law.go:140", after := #[{ on := 5, ground := Go.Ground.data }, { on := 2, ground := Go.Ground.chain }], guard := none }, { dst := some 51, op := Go.Op.call { callee := Go.Callee.value (Go.Operand.func 13), args := #[], argTypes := #[] }, type := 4, pos := "law.go:140", after := #[{ on := 6, ground := Go.Ground.chain }, { on := 6, ground := Go.Ground.guard }], guard := some (6, true) }, { dst := some 52, op := Go.Op.pick (Go.Operand.tmp 50) (Go.Operand.tmp 51) (Go.Operand.const (Go.Value.bool false)), type := 4, pos := "law.go:140", after := #[{ on := 6, ground := Go.Ground.data }, { on := 7, ground := Go.Ground.data }], guard := none }, { dst := some 4, op := Go.Op.assign (Go.Operand.tmp 52), type := 4, pos := "law.go:140", after := #[{ on := 8, ground := Go.Ground.data }, { on := 7, ground := Go.Ground.chain }, { on := 0, ground := Go.Ground.phase }, { on := 1, ground := Go.Ground.phase }, { on := 2, ground := Go.Ground.phase }, { on := 3, ground := Go.Ground.phase }, { on := 4, ground := Go.Ground.phase }, { on := 5, ground := Go.Ground.phase }, { on := 6, ground := Go.Ground.phase }, { on := 7, ground := Go.Ground.phase }, { on := 8, ground := Go.Ground.phase }], guard := none }] false).seq Go.Code.ret) Go.Code.skip)).seq (((Go.Code.region 13 #[{ dst := some 53, op := Go.Op.move (Go.Operand.tmp 0), type := 4, pos := "law.go:142", after := #[], guard := none }] false).seq (Go.Code.cond (Go.Operand.tmp 53) ((Go.Code.region 14 #[{ dst := some 54, op := Go.Op.move (Go.Operand.tmp 9), type := 4, pos := "law.go:143", after := #[], guard := none }, { dst := some 55, op := Go.Op.unOp Go.UnOp.not 4 (Go.Operand.tmp 54), type := 4, pos := "law.go:143", after := #[{ on := 0, ground := Go.Ground.data }], guard := none }, { dst := some 56, op := Go.Op.move (Go.Operand.tmp 55), type := 4, pos := "law.go:143", after := #[{ on := 1, ground := Go.Ground.data }], guard := none }, { dst := some 57, op := Go.Op.move (Go.Operand.tmp 10), type := 27, pos := "law.go:143", after := #[{ on := 2, ground := Go.Ground.guard }], guard := some (2, true) }, { dst := some 58, op := Go.Op.binOp Go.BinOp.eql 27 (Go.Operand.tmp 57) (Go.Operand.const (Go.Value.int Go.IntKind.i64 3)) 27, type := 4, pos := "law.go:143", after := #[{ on := 3, ground := Go.Ground.data }, { on := 2, ground := Go.Ground.guard }], guard := some (2, true) }, { dst := some 59, op := Go.Op.pick (Go.Operand.tmp 56) (Go.Operand.tmp 58) (Go.Operand.const (Go.Value.bool false)), type := 4, pos := "law.go:143", after := #[{ on := 2, ground := Go.Ground.data }, { on := 4, ground := Go.Ground.data }], guard := none }, { dst := some 60, op := Go.Op.move (Go.Operand.tmp 59), type := 4, pos := "law.go:143", after := #[{ on := 5, ground := Go.Ground.data }, { on := 2, ground := Go.Ground.chain }], guard := none }, { dst := some 61, op := Go.Op.call { callee := Go.Callee.value (Go.Operand.func 13), args := #[], argTypes := #[] }, type := 4, pos := "law.go:143", after := #[{ on := 6, ground := Go.Ground.chain }, { on := 6, ground := Go.Ground.guard }], guard := some (6, true) }, { dst := some 62, op := Go.Op.pick (Go.Operand.tmp 60) (Go.Operand.tmp 61) (Go.Operand.const (Go.Value.bool false)), type := 4, pos := "law.go:143", after := #[{ on := 6, ground := Go.Ground.data }, { on := 7, ground := Go.Ground.data }], guard := none }, { dst := some 4, op := Go.Op.assign (Go.Operand.tmp 62), type := 4, pos := "law.go:143", after := #[{ on := 8, ground := Go.Ground.data }, { on := 7, ground := Go.Ground.chain }, { on := 0, ground := Go.Ground.phase }, { on := 1, ground := Go.Ground.phase }, { on := 2, ground := Go.Ground.phase }, { on := 3, ground := Go.Ground.phase }, { on := 4, ground := Go.Ground.phase }, { on := 5, ground := Go.Ground.phase }, { on := 6, ground := Go.Ground.phase }, { on := 7, ground := Go.Ground.phase }, { on := 8, ground := Go.Ground.phase }], guard := none }] false).seq Go.Code.ret) Go.Code.skip)).seq ((Go.Code.region 15 #[{ dst := some 64, op := Go.Op.move (Go.Operand.tmp 8), type := 22, pos := "law.go:145", after := #[], guard := none }, { dst := some 65, op := Go.Op.move (Go.Operand.tmp 1), type := 3, pos := "law.go:145", after := #[], guard := none }, { dst := some 66, op := Go.Op.move (Go.Operand.tmp 6), type := 32, pos := "law.go:145", after := #[], guard := none }, { dst := some 67, op := Go.Op.slice 32 (Go.Operand.tmp 66) none (some (Go.Operand.const (Go.Value.int Go.IntKind.i64 1))) none, type := 32, pos := "law.go:145", after := #[{ on := 2, ground := Go.Ground.data }], guard := none }, { dst := some 68, op := Go.Op.call { callee := Go.Callee.value (Go.Operand.func 20), args := #[Go.Operand.tmp 64, Go.Operand.tmp 65, Go.Operand.tmp 67], argTypes := #[22, 3, 32] }, type := 34, pos := "law.go:145", after := #[{ on := 0, ground := Go.Ground.data }, { on := 1, ground := Go.Ground.data }, { on := 3, ground := Go.Ground.data }], guard := none }, { dst := some 63, op := Go.Op.move (Go.Operand.tmp 68), type := 34, pos := "law.go:145", after := #[{ on := 4, ground := Go.Ground.data }], guard := none }, { dst := some 69, op := Go.Op.extract (Go.Operand.tmp 63) 0, type := 4, pos := "law.go:145", after := #[{ on := 5, ground := Go.Ground.data }], guard := none }, { dst := some 70, op := Go.Op.extract (Go.Operand.tmp 63) 1, type := 27, pos := "law.go:145", after := #[{ on := 5, ground := Go.Ground.data }, { on := 8, ground := Go.Ground.gcOnly Go.Departure.lateStores }], guard := none }, { dst := some 11, op := Go.Op.assign (Go.Operand.tmp 69), type := 4, pos := "law.go:145", after := #[{ on := 6, ground := Go.Ground.data }, { on := 4, ground := Go.Ground.chain }, { on := 0, ground := Go.Ground.phase }, { on := 1, ground := Go.Ground.phase }, { on := 2, ground := Go.Ground.phase }, { on := 3, ground := Go.Ground.phase }, { on := 4, ground := Go.Ground.phase }, { on := 5, ground := Go.Ground.phase }, { on := 6, ground := Go.Ground.phase }, { on := 7, ground := Go.Ground.textOnly Go.Departure.lateStores }], guard := none }, { dst := some 12, op := Go.Op.assign (Go.Operand.tmp 70), type := 27, pos := "law.go:145", after := #[{ on := 7, ground := Go.Ground.data }, { on := 8, ground := Go.Ground.chain }, { on := 0, ground := Go.Ground.phase }, { on := 1, ground := Go.Ground.phase }, { on := 2, ground := Go.Ground.phase }, { on := 3, ground := Go.Ground.phase }, { on := 4, ground := Go.Ground.phase }, { on := 5, ground := Go.Ground.phase }, { on := 6, ground := Go.Ground.phase }, { on := 7, ground := Go.Ground.phase }, { on := 8, ground := Go.Ground.phase }], guard := none }] false).seq ((Go.Code.region 16 #[{ dst := some 71, op := Go.Op.move (Go.Operand.tmp 9), type := 4, pos := "law.go:146", after := #[], guard := none }, { dst := some 72, op := Go.Op.unOp Go.UnOp.not 4 (Go.Operand.tmp 71), type := 4, pos := "law.go:146", after := #[{ on := 0, ground := Go.Ground.data }], guard := none }, { dst := some 73, op := Go.Op.move (Go.Operand.tmp 72), type := 4, pos := "law.go:146", after := #[{ on := 1, ground := Go.Ground.data }], guard := none }, { dst := some 74, op := Go.Op.move (Go.Operand.tmp 10), type := 27, pos := "law.go:146", after := #[{ on := 2, ground := Go.Ground.guard }], guard := some (2, true) }, { dst := some 75, op := Go.Op.binOp Go.BinOp.eql 27 (Go.Operand.tmp 74) (Go.Operand.const (Go.Value.int Go.IntKind.i64 0)) 27, type := 4, pos := "law.go:146", after := #[{ on := 3, ground := Go.Ground.data }, { on := 2, ground := Go.Ground.guard }], guard := some (2, true) }, { dst := some 76, op := Go.Op.pick (Go.Operand.tmp 73) (Go.Operand.tmp 75) (Go.Operand.const (Go.Value.bool false)), type := 4, pos := "law.go:146", after := #[{ on := 2, ground := Go.Ground.data }, { on := 4, ground := Go.Ground.data }], guard := none }, { dst := some 77, op := Go.Op.move (Go.Operand.tmp 76), type := 4, pos := "law.go:146", after := #[{ on := 5, ground := Go.Ground.data }, { on := 2, ground := Go.Ground.chain }], guard := none }, { dst := some 78, op := Go.Op.move (Go.Operand.tmp 12), type := 27, pos := "law.go:146", after := #[{ on := 6, ground := Go.Ground.guard }], guard := some (6, true) }, { dst := some 79, op := Go.Op.binOp Go.BinOp.eql 27 (Go.Operand.tmp 78) (Go.Operand.const (Go.Value.int Go.IntKind.i64 0)) 27, type := 4, pos := "law.go:146", after := #[{ on := 7, ground := Go.Ground.data }, { on := 6, ground := Go.Ground.guard }], guard := some (6, true) }, { dst := some 80, op := Go.Op.pick (Go.Operand.tmp 77) (Go.Operand.tmp 79) (Go.Operand.const (Go.Value.bool false)), type := 4, pos := "law.go:146", after := #[{ on := 6, ground := Go.Ground.data }, { on := 8, ground := Go.Ground.data }], guard := none }, { dst := some 81, op := Go.Op.move (Go.Operand.tmp 80), type := 4, pos := "law.go:146", after := #[{ on := 9, ground := Go.Ground.data }, { on := 6, ground := Go.Ground.chain }], guard := none }, { dst := some 82, op := Go.Op.move (Go.Operand.tmp 11), type := 4, pos := "law.go:146", after := #[{ on := 10, ground := Go.Ground.guard }], guard := some (10, true) }, { dst := some 83, op := Go.Op.move (Go.Operand.tmp 1), type := 3, pos := "law.go:146", after := #[{ on := 10, ground := Go.Ground.guard }], guard := some (10, true) }, { dst := some 84, op := Go.Op.binOp Go.BinOp.lss 3 (Go.Operand.tmp 83) (Go.Operand.const (Go.Value.int Go.IntKind.i64 5)) 3, type := 4, pos := "law.go:146", after := #[{ on := 12, ground := Go.Ground.data }, { on := 10, ground := Go.Ground.guard }], guard := some (10, true) }, { dst := some 85, op := Go.Op.binOp Go.BinOp.eql 4 (Go.Operand.tmp 82) (Go.Operand.tmp 84) 4, type := 4, pos := "law.go:146", after := #[{ on := 11, ground := Go.Ground.data }, { on := 13, ground := Go.Ground.data }, { on := 10, ground := Go.Ground.guard }], guard := some (10, true) }, { dst := some 86, op := Go.Op.pick (Go.Operand.tmp 81) (Go.Operand.tmp 85) (Go.Operand.const (Go.Value.bool false)), type := 4, pos := "law.go:146", after := #[{ on := 10, ground := Go.Ground.data }, { on := 14, ground := Go.Ground.data }], guard := none }, { dst := some 87, op := Go.Op.move (Go.Operand.tmp 86), type := 4, pos := "law.go:146", after := #[{ on := 15, ground := Go.Ground.data }, { on := 10, ground := Go.Ground.chain }], guard := none }, { dst := some 88, op := Go.Op.call { callee := Go.Callee.value (Go.Operand.func 13), args := #[], argTypes := #[] }, type := 4, pos := "law.go:146", after := #[{ on := 16, ground := Go.Ground.chain }, { on := 16, ground := Go.Ground.guard }], guard := some (16, true) }, { dst := some 89, op := Go.Op.pick (Go.Operand.tmp 87) (Go.Operand.tmp 88) (Go.Operand.const (Go.Value.bool false)), type := 4, pos := "law.go:146", after := #[{ on := 16, ground := Go.Ground.data }, { on := 17, ground := Go.Ground.data }], guard := none }, { dst := some 4, op := Go.Op.assign (Go.Operand.tmp 89), type := 4, pos := "law.go:146", after := #[{ on := 18, ground := Go.Ground.data }, { on := 17, ground := Go.Ground.chain }, { on := 0, ground := Go.Ground.phase }, { on := 1, ground := Go.Ground.phase }, { on := 2, ground := Go.Ground.phase }, { on := 3, ground := Go.Ground.phase }, { on := 4, ground := Go.Ground.phase }, { on := 5, ground := Go.Ground.phase }, { on := 6, ground := Go.Ground.phase }, { on := 7, ground := Go.Ground.phase }, { on := 8, ground := Go.Ground.phase }, { on := 9, ground := Go.Ground.phase }, { on := 10, ground := Go.Ground.phase }, { on := 11, ground := Go.Ground.phase }, { on := 12, ground := Go.Ground.phase }, { on := 13, ground := Go.Ground.phase }, { on := 14, ground := Go.Ground.phase }, { on := 15, ground := Go.Ground.phase }, { on := 16, ground := Go.Ground.phase }, { on := 17, ground := Go.Ground.phase }, { on := 18, ground := Go.Ground.phase }], guard := none }] false).seq Go.Code.ret)))))))).wp Try.prog (bodyPost Try.prog Try.f5 (fun e w' => e = .returned (.bool true) ∧ Below w.heap.size w w')) { tmps := #[.bool more, .int .i64 lim, undef, undef, .bool false, .int .i64 (n : Int), undef, undef, undef, undef, undef, undef, undef, .bool more, v14, v15, undef, undef, undef, undef, undef, undef, undef, undef, undef, undef, undef, undef, undef, undef, undef, undef, undef, undef, undef, undef, undef, undef, undef, undef, undef, undef, undef, undef, undef, undef, undef, undef, undef, undef, undef, undef, undef, undef, undef, undef, undef, undef, undef, undef, undef, undef, undef, undef, undef, undef, undef, undef, undef, undef, undef, undef, undef, undef, undef, undef, undef, undef, undef, undef, undef, undef, undef, undef, undef, undef, undef, undef, undef, undef], defers := [] } w := by
  have HM := Aside0.mk hm
  clear hm
  go_wp2_with (first | ((with_reducible refine gate_dst (N := 17) rfl ?_); refine Kd.event_run rfl (run_makeP _ n (by omega) _ _ (.tmp 16) (.tmp 16) rfl rfl rfl) ?_))
  have HPF := Aside0.mk (Pf.start (Below.refl w.heap.size w) n)
  obtain ⟨P, hP⟩ : ∃ P, P = w.heap.size := ⟨_, rfl⟩
  rw [← hP] at HPF ⊢
  clear hP
  generalize w.alloc (Obj.cells (madeCells #[.int .i64 0, .int .i64 0, .int .i64 0, .slice none 0 0] (n * 4)) 38) = w1 at HPF ⊢
  go_loopw [7] (fun v w' => ∃ i : Nat, i ≤ n ∧ v = .int .i64 i ∧ Aside0 (Pf w w' P n i)) (fun v _ => n - (intOf v).toNat)
  case atStart => exact ⟨0, Nat.zero_le _, rfl, HPF⟩
  case round =>
    clear HPF
    obtain ⟨i, hi, rfl, HPF⟩ := hrel
    have hP2 : P < wr.heap.size := by
      obtain ⟨cs, h1, _⟩ := HPF.out.blk
      exact blk_lt h1
    by_cases hin : i < n
    · have HP2 := Aside0.mk (Pf.below_ HPF.out (below_alloc (Below.refl wr.heap.size wr) (Obj.cells #[.int .i64 0] 3)))
      have HNB := Aside0.mk (blk_new wr (Obj.cells #[.int .i64 0] 3))
      have hii : (i : Int) < (n : Int) := by omega
      have hwi : wrap64 ((i : Int) + 1) = (i : Int) + 1 := wr64_in _ (by omega)
      go_wp2_with (first | (refine wpList_store_mid rfl 38 (.tmp 27) (.tmp 26) rfl P (i * 4) #[.int .i64 1, .int .i64 0, .int .i64 0, .slice (some ⟨wr.heap.size, 0, none⟩) 1 1] rfl rfl ?ht ?hi ?h1 ?hk; (case ht => exact HP2.out.there hin); (case hi => exact info38s); (case h1 => simp [Value.oneCell'])))
      go_roundw
      case rel => exact ⟨i + 1, hin, rfl, ⟨HP2.out.put hin (by omega) HNB.out⟩⟩
      case measure =>
        simp only [intOf, Int.toNat_natCast]
        omega
    · obtain rfl : i = n := Nat.le_antisymm hi (Nat.le_of_not_lt hin)
      have HC1 := Aside0.mk (wK_C wr)
      have HB1 := Aside0.mk (wK_below wr)
      cases hl : limB lim
      · have hlim : lim < 0 ∨ ¬ lim < 0 ∧ lim > 10000 := by
          unfold limB at hl
          simp only [decide_eq_false_iff_not] at hl
          omega
        have HCK : Aside0 (Calls Try.prog 20 #[.slice (some ⟨wr.heap.size + 1, 0, none⟩) 1 1, .int .i64 lim, .slice (some ⟨P, 0, none⟩) i i] (wK wr) (fun e w' => e = .returned (.tuple #[.bool false, .int .i64 2]) ∧ Below (wK wr).heap.size (wK wr) w')) := ⟨Pf.check HPF.out (by omega) i (Nat.le_refl _) lim (false, 2) (check_arg hl _) (wK wr) HB1.out _ HC1.out⟩
        unfold wK at HCK HC1 HB1
        clear hl
        rcases hlim with hlo | ⟨hlo, hhi⟩
        · have D1 : decide (lim < 0) = true := decide_eq_true hlo
          go_wp2_with (first
            | ((with_reducible refine HCK.out.mono ?_); rintro e w2 ⟨rfl, hb2⟩; have HB2 := Aside0.mk hb2; clear hb2)
            | ((with_reducible refine (law06_alive.calls _).mono ?_); rintro e w3 ⟨rfl, hb3⟩; have HB3 := Aside0.mk hb3; clear hb3))
          go_ret
          exact ⟨rfl, below_step (below_step (below_step HPF.out.below HB1.out) HB2.out) HB3.out⟩
        · have D1 : decide (lim < 0) = false := decide_eq_false hlo
          have D2 : decide (lim > 10000) = true := decide_eq_true hhi
          go_wp2_with (first
            | ((with_reducible refine HCK.out.mono ?_); rintro e w2 ⟨rfl, hb2⟩; have HB2 := Aside0.mk hb2; clear hb2)
            | ((with_reducible refine (law06_alive.calls _).mono ?_); rintro e w3 ⟨rfl, hb3⟩; have HB3 := Aside0.mk hb3; clear hb3))
          go_ret
          exact ⟨rfl, below_step (below_step (below_step HPF.out.below HB1.out) HB2.out) HB3.out⟩
      · have hlim : ¬ lim < 0 ∧ ¬ lim > 10000 := by
          unfold limB at hl
          simp only [decide_eq_true_eq] at hl
          omega
        have HL := Aside0.mk hl
        clear hl
        have D1 : decide (lim < 0) = false := decide_eq_false hlim.1
        have D2 : decide (lim > 10000) = false := decide_eq_false hlim.2
        cases more with
        | true =>
          have hbig : i > 65535 := of_decide_eq_true HM.out.symm
          have HCK : Aside0 (Calls Try.prog 20 #[.slice (some ⟨wr.heap.size + 1, 0, none⟩) 1 1, .int .i64 lim, .slice (some ⟨P, 0, none⟩) i i] (wK wr) (fun e w' => e = .returned (.tuple #[.bool false, .int .i64 3]) ∧ Below (wK wr).heap.size (wK wr) w')) := ⟨Pf.check HPF.out (by omega) i (Nat.le_refl _) lim (false, 3) (check_many HL.out (by rw [List.length_replicate]; exact hbig)) (wK wr) HB1.out _ HC1.out⟩
          unfold wK at HCK HC1 HB1
          go_wp2_with (first
            | ((with_reducible refine HCK.out.mono ?_); rintro e w2 ⟨rfl, hb2⟩; have HB2 := Aside0.mk hb2; clear hb2)
            | ((with_reducible refine (law06_alive.calls _).mono ?_); rintro e w3 ⟨rfl, hb3⟩; have HB3 := Aside0.mk hb3; clear hb3))
          go_ret
          exact ⟨rfl, below_step (below_step (below_step HPF.out.below HB1.out) HB2.out) HB3.out⟩
        | false =>
          have hsm : ¬ i > 65535 := of_decide_eq_false HM.out.symm
          have HCK : Aside0 (Calls Try.prog 20 #[.slice (some ⟨wr.heap.size + 1, 0, none⟩) 1 1, .int .i64 lim, .slice (some ⟨P, 0, none⟩) i i] (wK wr) (fun e w' => e = .returned (.tuple #[.bool false, .int .i64 0]) ∧ Below (wK wr).heap.size (wK wr) w')) := ⟨Pf.check HPF.out (by omega) i (Nat.le_refl _) lim (false, 0) (by
            obtain ⟨k, rfl⟩ : ∃ k, i = k + 2 := ⟨i - 2, by omega⟩
            exact check_all HL.out (by omega)) (wK wr) HB1.out _ HC1.out⟩
          unfold wK at HCK HC1 HB1
          have hi1 : (1 : Int) ≤ (i : Int) := by omega
          go_wp2_with (first
            | ((with_reducible refine HCK.out.mono ?_); rintro e w2 ⟨rfl, hb2⟩; have HB2 := Aside0.mk hb2; clear hb2; have HCK2 := Aside0.mk (Pf.check HPF.out (by omega) 1 (by omega) lim (decide (lim < 5), 0) (check_one HL.out) w2 (below_step HB1.out HB2.out) _ (Kd.C_below HC1.out HB2.out)))
            | ((with_reducible refine HCK2.out.mono ?_); rintro e w4 ⟨rfl, hb4⟩; have HB4 := Aside0.mk hb4; clear hb4)
            | ((with_reducible refine (law06_alive.calls _).mono ?_); rintro e w3 ⟨rfl, hb3⟩; have HB3 := Aside0.mk hb3; clear hb3))
          go_ret
          exact ⟨rfl, below_step (below_step (below_step (below_step HPF.out.below HB1.out) HB2.out) HB4.out) HB3.out⟩
set_option maxHeartbeats 2000000 in
set_option maxRecDepth 100000 in
theorem law_ShopLimit.calls (more : Bool) (lim : Int) (w : World) : Calls Try.prog 5 #[.bool more, .int .i64 lim] w fun e w' => e = .returned (.bool true) ∧ Below w.heap.size w w' := by
  cases more with
  | false =>
    go_enter Try.func5, Try.ntmps5
    refine wp_seq ?_
    refine wp_region_list ?_
    iterate 1 (refine wpList_step fun K hK => ?_; go_simp; (refine hK _ _ ?_; clear hK K))
    refine wpList_nil ?_
    refine wp_seq ?_
    refine wp_region_list ?_
    iterate 1 (refine wpList_step fun K hK => ?_; go_simp; (refine hK _ _ ?_; clear hK K))
    refine wpList_nil ?_
    refine wp_seq_k fun K hK => ?_
    have HK := Aside0.mk (fun v14 v15 => hK _ w (limit_rest false lim 65535 v14 v15 w (by decide) (by decide)))
    clear hK
    go_wp2
    exact HK.out _ _
  | true =>
    go_enter Try.func5, Try.ntmps5
    refine wp_seq ?_
    refine wp_region_list ?_
    iterate 1 (refine wpList_step fun K hK => ?_; go_simp; (refine hK _ _ ?_; clear hK K))
    refine wpList_nil ?_
    refine wp_seq ?_
    refine wp_region_list ?_
    iterate 1 (refine wpList_step fun K hK => ?_; go_simp; (refine hK _ _ ?_; clear hK K))
    refine wpList_nil ?_
    refine wp_seq_k fun K hK => ?_
    have HK := Aside0.mk (fun v14 v15 => hK _ w (limit_rest true lim 65536 v14 v15 w (by decide) (by decide)))
    clear hK
    go_wp2
    exact HK.out _ _
end Go.Proofs.Ytipkhaicjjeieaa.V
