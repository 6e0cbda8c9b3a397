/- Walks of the shop's functions, fourteenth text: the search for the longest chains. -/
import Derived.Test.YtipkhaicjjeieaaKLShM
namespace Go.Proofs.Ytipkhaicjjeieaa.V
set_option linter.unusedSimpArgs false
set_option linter.unusedVariables false
open Go.RowKit Go.Proofs.YtipkhaicjjeieaaW.PrintWords Go.Proofs.YtipkhaicjjeieaaW.PrintLast Go.Proofs.YtipkhaicjjeieaaW.PrintMore
@[go_sem] theorem run_store_func' {P : Program} {w : World} {a : Addr} {m : Mode} (f : Fn) (x y : Array Value) : (store a (.func f x y) m).run P w = stored P w a (.func f x y) m := run_store P w a _ m rfl
theorem run_makeI (W : World) (n : Nat) (hn : n ≤ 1000) (ev : Operand → Value) (o : Oper) (x y : Operand) (ho : o.op = .makeSlice 26 x y) (hx : ev x = .int .i64 n) (hy : ev y = .int .i64 n) :
    (execOp ev o).run Try.prog W = .ok (.value (.slice (some ⟨W.heap.size, 0, none⟩) n n)) (W.alloc (.cells (rowI (List.replicate n 0)) 3)) := by
  obtain ⟨i0, hi, hzz⟩ := Option.map_eq_some_iff.1 info3
  simp only [Prod.mk.injEq] at hzz
  obtain ⟨hz0, hz1, hz2⟩ := hzz
  have hr := run_make (P := Try.prog) W 26 3 i0 (.int .i64 0) Try.underlying26 hi hz0 .i64 .i64 (n : Int) (n : Int) (by omega) (by omega) (by rw [hz2]; omega) (by omega)
  rw [hz1] at hr
  have e : madeCells (Value.int .i64 0).cells ((n : Int).toNat * 1) = rowI (List.replicate n 0) := by
    rw [Int.toNat_natCast, Nat.mul_one]
    apply Array.ext'
    simp only [madeCells, rowI, Value.cells, List.map_replicate]
    refine List.eq_replicate_iff.2 ⟨by simp, fun b hb => ?_⟩
    simp [Nat.mod_one] at hb
    exact hb.2.symm
  rw [e, Int.toNat_natCast] at hr
  simp [execOp, ho, hx, hy, hr]
def LongPost (w : World) (n : Nat) (r : Dre) (e : Ending) (w' : World) : Prop :=
  Below w.heap.size w w' ∧ match r with
  | .ok S => ∃ gu gf, e = .returned (.tuple #[.slice (some ⟨gu, 0, none⟩) n n, .slice (some ⟨gf, 0, none⟩) n n]) ∧ gu ≠ gf ∧ w.heap.size ≤ gu ∧ w.heap.size ≤ gf ∧ S.su.length = n ∧ S.fr.length = n ∧ w'.heap[gu]? = some (.cells (rowI S.su) 3 (0, 0)) ∧ w'.heap[gf]? = some (.cells (rowI S.fr) 3 (0, 0))
  | .cyc l => ∃ A c, e = .panicked [{ v := .iface 128 (.agg #[.slice A l.length c]), recovered := false }] ∧ Kd.R (Kd.int .i64) 3 w' w.heap.size (fun _ => True) (.slice A l.length c) l
structure Lo (w : World) (o : Array Value) (n : Nat) (u v : Value) (W : World) : Prop where
  below : Below w.heap.size w W
  bo : W.heap[w.heap.size]? = some (.cells o 77 (0, 0))
  pu : W.heap[w.heap.size + 1]? = some (.cells #[u] 26 (0, 0))
  pf : W.heap[w.heap.size + 1 + 1]? = some (.cells #[v] 26 (0, 0))
  pn : W.heap[w.heap.size + 1 + 1 + 1]? = some (.cells #[.int .i64 n] 3 (0, 0))
theorem Lo.alloc {w W : World} {o : Array Value} {n : Nat} {u v : Value} (h : Lo w o n u v W) (ob : Obj) : Lo w o n u v (W.alloc ob) :=
  ⟨below_alloc h.below _, blk_alloc h.bo _, blk_alloc h.pu _, blk_alloc h.pf _, blk_alloc h.pn _⟩
theorem Lo.setU {w W : World} {o : Array Value} {n : Nat} {u v : Value} (h : Lo w o n u v W) (x : Value) : Lo w o n x v (W.setCell ⟨w.heap.size + 1, 0, none⟩ x) :=
  ⟨h.below.setCell (by simp) _, blk_far h.bo (by simp) _, blk_put h.pu _ _ rfl, blk_far h.pf (by simp) _, blk_far h.pn (by simp; omega) _⟩
theorem Lo.setV {w W : World} {o : Array Value} {n : Nat} {u v : Value} (h : Lo w o n u v W) (x : Value) : Lo w o n u x (W.setCell ⟨w.heap.size + 1 + 1, 0, none⟩ x) :=
  ⟨h.below.setCell (by simp; omega) _, blk_far h.bo (by simp; omega) _, blk_far h.pu (by simp) _, blk_put h.pf _ _ rfl, blk_far h.pn (by simp) _⟩
theorem dfs_start {w w2 : World} {o : Array Value} {g n gu gf : Nat} {nx : Nat → Nat → Bool} (ho : IsOrd o g nx) (L : Lo w o n (.slice (some ⟨gu, 0, none⟩) n n) (.slice (some ⟨gf, 0, none⟩) n n) w2) (z : w2.heap.size = w.heap.size + 6) (side : gu = w.heap.size + 4 ∧ gf = w.heap.size + 5 ∨ gu = w.heap.size + 5 ∧ gf = w.heap.size + 4)
    (ru : w2.heap[gu]? = some (.cells (rowI (List.replicate n 0)) 3 (0, 0))) (rf : w2.heap[gf]? = some (.cells (rowI (List.replicate n 0)) 3 (0, 0))) :
    Dfs w w.heap.size gu gf g o nx n ((((w2.alloc (Obj.cells (rowI (List.replicate n 0)) 3)).alloc (Obj.cells #[.slice (some ⟨w.heap.size + 6, 0, none⟩) n n] 26)).alloc (Obj.cells #[.slice none 0 0] 26)).alloc (Obj.cells #[.func (.func 78) #[] #[.pointer (some ⟨w.heap.size + 6 + 1, 0, none⟩), .pointer (some ⟨w.heap.size + 6 + 1 + 1, 0, none⟩), .pointer (some ⟨w.heap.size + 1 + 1, 0, none⟩), .pointer (some ⟨w.heap.size + 1 + 1 + 1, 0, none⟩), .pointer (some ⟨w.heap.size, 0, none⟩), .pointer (some ⟨w.heap.size + 6 + 1 + 1 + 1, 0, none⟩), .pointer (some ⟨w.heap.size + 1, 0, none⟩)]] 132)) ⟨List.replicate n 0, List.replicate n 0, List.replicate n 0, []⟩ := by
  have n6 := blk_new w2 (Obj.cells (rowI (List.replicate n 0)) 3)
  rw [z] at n6
  have z7 : (w2.alloc (Obj.cells (rowI (List.replicate n 0)) 3)).heap.size = w.heap.size + 7 := by simp [z]
  have n7 := blk_new (w2.alloc (Obj.cells (rowI (List.replicate n 0)) 3)) (Obj.cells #[.slice (some ⟨w.heap.size + 6, 0, none⟩) n n] 26)
  rw [z7] at n7
  have z8 : ((w2.alloc (Obj.cells (rowI (List.replicate n 0)) 3)).alloc (Obj.cells #[.slice (some ⟨w.heap.size + 6, 0, none⟩) n n] 26)).heap.size = w.heap.size + 8 := by simp [z]
  have n8 := blk_new ((w2.alloc (Obj.cells (rowI (List.replicate n 0)) 3)).alloc (Obj.cells #[.slice (some ⟨w.heap.size + 6, 0, none⟩) n n] 26)) (Obj.cells #[.slice none 0 0] 26)
  rw [z8] at n8
  have z9 : (((w2.alloc (Obj.cells (rowI (List.replicate n 0)) 3)).alloc (Obj.cells #[.slice (some ⟨w.heap.size + 6, 0, none⟩) n n] 26)).alloc (Obj.cells #[.slice none 0 0] 26)).heap.size = w.heap.size + 9 := by simp [z]
  have n9 := blk_new (((w2.alloc (Obj.cells (rowI (List.replicate n 0)) 3)).alloc (Obj.cells #[.slice (some ⟨w.heap.size + 6, 0, none⟩) n n] 26)).alloc (Obj.cells #[.slice none 0 0] 26)) (Obj.cells #[.func (.func 78) #[] #[.pointer (some ⟨w.heap.size + 6 + 1, 0, none⟩), .pointer (some ⟨w.heap.size + 6 + 1 + 1, 0, none⟩), .pointer (some ⟨w.heap.size + 1 + 1, 0, none⟩), .pointer (some ⟨w.heap.size + 1 + 1 + 1, 0, none⟩), .pointer (some ⟨w.heap.size, 0, none⟩), .pointer (some ⟨w.heap.size + 6 + 1 + 1 + 1, 0, none⟩), .pointer (some ⟨w.heap.size + 1, 0, none⟩)]] 132)
  rw [z9] at n9
  refine ⟨by omega, by simp [z], below_alloc (below_alloc (below_alloc (below_alloc L.below _) _) _) _, by simp, ho, blk_alloc (blk_alloc (blk_alloc (blk_alloc L.bo _) _) _) _, blk_alloc (blk_alloc (blk_alloc (blk_alloc L.pu _) _) _) _, blk_alloc (blk_alloc (blk_alloc (blk_alloc L.pf _) _) _) _, blk_alloc (blk_alloc (blk_alloc (blk_alloc L.pn _) _) _) _, blk_alloc (blk_alloc n7 _) _, n9, blk_alloc (blk_alloc (blk_alloc (blk_alloc ru _) _) _) _, blk_alloc (blk_alloc (blk_alloc (blk_alloc rf _) _) _) _, blk_alloc (blk_alloc (blk_alloc n6 _) _) _, .slice none 0 0, blk_alloc n8 _, Kd.R_nil _ _ _ _ _⟩
theorem allF_stay {nx : Nat → Nat → Bool} {tm : Nat → Int} {n f k : Nat} {r : Option Dre} (h : allF nx tm n f k = r) (hr : ∀ S', r ≠ some (.ok S')) : ∀ d, allF nx tm n f (k + d) = r
  | 0 => h
  | d + 1 => by
    have e : k + (d + 1) = (k + d) + 1 := by omega
    rw [e, allF, allF_stay h hr d]
    match r, hr with
    | none, _ => rfl
    | some (.cyc l), _ => rfl
    | some (.ok S'), hr => exact absurd rfl (hr S')
theorem allF_next {nx : Nat → Nat → Bool} {tm : Nat → Int} {n f i : Nat} {S : Dst} {r : Option Dre} (h : allF nx tm n f i = some (.ok S)) (hi : i < n) (hv : visitF nx tm n f i S = r) (hr : ∀ S', r ≠ some (.ok S')) : allF nx tm n f n = r := by
  have e : allF nx tm n f (i + 1) = r := by rw [allF, h]; exact hv
  have := allF_stay e hr (n - (i + 1))
  rwa [show i + 1 + (n - (i + 1)) = n by omega] at this
theorem inv_start (n : Nat) : InvF ⟨List.replicate n 0, List.replicate n 0, List.replicate n 0, []⟩ := by
  intro x hx
  exfalso
  simp only [List.getD_eq_getElem?_getD, List.getElem?_replicate] at hx
  split at hx <;> simp at hx
theorem Dfs.sameU {w0 w : World} {B gu gf g n : Nat} {o : Array Value} {nx : Nat → Nat → Bool} {S : Dst} (h : Dfs w0 B gu gf g o nx n w S) : Dfs w0 B gu gf g o nx n (w.setCell ⟨B + 1, 0, none⟩ (.slice (some ⟨gu, 0, none⟩) n n)) S := by
  obtain ⟨h1, h2, h3, h4, h5, bo, pu, pf, pn, ps, pv, ru, rf, rs, v, pp, pr⟩ := h
  exact ⟨h1, by simpa using h2, h3.setCell (by simp) _, h4, h5, blk_far bo (by simp) _, blk_put pu _ _ rfl, blk_far pf (by simp) _, blk_far pn (by simp) _, blk_far ps (by simp) _, blk_far pv (by simp) _, blk_far ru (by simp; omega) _, blk_far rf (by simp; omega) _, blk_far rs (by simp) _, v, blk_far pp (by simp) _, Kd.R_far pr (fun k hk => by simp; omega) _⟩
theorem Dfs.sameF {w0 w : World} {B gu gf g n : Nat} {o : Array Value} {nx : Nat → Nat → Bool} {S : Dst} (h : Dfs w0 B gu gf g o nx n w S) : Dfs w0 B gu gf g o nx n (w.setCell ⟨B + 1 + 1, 0, none⟩ (.slice (some ⟨gf, 0, none⟩) n n)) S := by
  obtain ⟨h1, h2, h3, h4, h5, bo, pu, pf, pn, ps, pv, ru, rf, rs, v, pp, pr⟩ := h
  exact ⟨h1, by simpa using h2, h3.setCell (by simp; omega) _, h4, h5, blk_far bo (by simp; omega) _, blk_far pu (by simp) _, blk_put pf _ _ rfl, blk_far pn (by simp) _, blk_far ps (by simp) _, blk_far pv (by simp) _, blk_far ru (by simp; omega) _, blk_far rf (by simp; omega) _, blk_far rs (by simp) _, v, blk_far pp (by simp) _, Kd.R_far pr (fun k hk => by simp; omega) _⟩
def lo12T : Bool × List (List Nat × List Nat) := (true, [([], []), ([], []), ([0, 0], [0]), ([1, 2, 0, 1, 2], [1])])
def lo12B : List Nat := [0, 0, 1, 7]
theorem lo12tab : rtab .any (opsOf Try.f74 12) = lo12T := by kernel_rfl
theorem lo12bits : waitsOk lo12T.2 lo12B = true := by kernel_rfl
def lo2T : Bool × List (List Nat × List Nat) := (true, [([], []), ([0, 0], [0]), ([], []), ([2, 2], [2]), ([1, 0, 1], [1]), ([3, 4, 0, 1, 2, 3, 4], [3])])
def lo2B : List Nat := [0, 1, 0, 4, 3, 31]
theorem lo2tab : rtab .any (opsOf Try.f74 2) = lo2T := by kernel_rfl
theorem lo2bits : waitsOk lo2T.2 lo2B = true := by kernel_rfl
set_option maxHeartbeats 8000000 in
set_option maxRecDepth 100000 in
theorem order_longest.calls (o : Array Value) (g : Nat) (nx : Nat → Nat → Bool) (J : List (List S40)) (w : World) (n f : Nat) (r : Dre) (ho : IsOrd o g nx) (hs : IsShop w g J) (hn : n = (tasksN J J.length).length) (h10 : n ≤ 10) (hf : f ≤ 90) (hr : allF nx (timeT (tasksN J J.length)) n f n = some r) :
    Calls Try.prog 74 #[.agg o] w (LongPost w n r) := by
  have HO := Aside0.mk ho
  have h0 := ho.ptr
  have HS := Aside0.mk hs
  have HR := Aside0.mk hr
  have HN := Aside0.mk hn
  obtain ⟨A0, c0, At, ct, Af, cf, hb, _, _, hT, hct, _, _⟩ := hs
  rw [← hn] at hb hct
  have h2 : (((w.alloc (Obj.cells o 77)).alloc (Obj.cells #[.slice none 0 0] 26)).alloc (Obj.cells #[.slice none 0 0] 26)).cell? ⟨g, 1, none⟩ = some (.slice At n ct) := (blk_cell (blk_alloc (blk_alloc (blk_alloc hb _) _) _) 1).trans rfl
  have hlt := blk_lt hb
  clear hr hn hT hb ho
  go_enter Try.func74, Try.ntmps74
  go_wp2
  have HL : Lo w o n (.slice none 0 0) (.slice none 0 0) ((((w.alloc (Obj.cells o 77)).alloc (Obj.cells #[.slice none 0 0] 26)).alloc (Obj.cells #[.slice none 0 0] 26)).alloc (Obj.cells #[.int .i64 n] 3)).drew := by
    refine ⟨below_drew1 (below_alloc (below_alloc (below_alloc (below_alloc (Below.refl _ _) _) _) _) _), blk_drew (blk_alloc (blk_alloc (blk_alloc (blk_new _ _) _) _) _), ?_, ?_, ?_⟩
    · have := blk_new (w.alloc (Obj.cells o 77)) (Obj.cells #[.slice none 0 0] 26)
      rw [show (w.alloc (Obj.cells o 77)).heap.size = w.heap.size + 1 by simp] at this
      exact blk_drew (blk_alloc (blk_alloc this _) _)
    · have := blk_new ((w.alloc (Obj.cells o 77)).alloc (Obj.cells #[.slice none 0 0] 26)) (Obj.cells #[.slice none 0 0] 26)
      rw [show ((w.alloc (Obj.cells o 77)).alloc (Obj.cells #[.slice none 0 0] 26)).heap.size = w.heap.size + 1 + 1 by simp] at this
      exact blk_drew (blk_alloc this _)
    · have := blk_new (((w.alloc (Obj.cells o 77)).alloc (Obj.cells #[.slice none 0 0] 26)).alloc (Obj.cells #[.slice none 0 0] 26)) (Obj.cells #[.int .i64 n] 3)
      rw [show (((w.alloc (Obj.cells o 77)).alloc (Obj.cells #[.slice none 0 0] 26)).alloc (Obj.cells #[.slice none 0 0] 26)).heap.size = w.heap.size + 1 + 1 + 1 by simp] at this
      exact blk_drew this
  have HZ : ((((w.alloc (Obj.cells o 77)).alloc (Obj.cells #[.slice none 0 0] 26)).alloc (Obj.cells #[.slice none 0 0] 26)).alloc (Obj.cells #[.int .i64 n] 3)).drew.heap.size = w.heap.size + 4 := by
    show ((((w.alloc (Obj.cells o 77)).alloc (Obj.cells #[.slice none 0 0] 26)).alloc (Obj.cells #[.slice none 0 0] 26)).alloc (Obj.cells #[.int .i64 n] 3)).heap.size = _
    simp
  clear h0 h2
  refine start_ (n := 6) (S := fun w' => w'.cell? ⟨w.heap.size + 1 + 1 + 1, 0, none⟩ = some (.int .i64 n)) (ds := []) #[false, false, false, false, false, false] (by kernel_rfl) rfl rfl ((blk_cell HL.pn 0).trans rfl) (fun hHeld => ?_)
  refine with_tabW lo2tab lo2bits (fun HT_ HW_ => ?_)
  generalize ((((w.alloc (Obj.cells o 77)).alloc (Obj.cells #[.slice none 0 0] 26)).alloc (Obj.cells #[.slice none 0 0] 26)).alloc (Obj.cells #[.int .i64 n] 3)).drew = W1 at HL HZ hHeld ⊢
  refine take_ (i := 0) (N := some 15) (v := ?_) (a' := ?_) (qd 6 1) rfl rfl (take_ofW HT_.out HW_.out (by kernel_rfl)) (fun _ _ _ h => h) (Or.inl ⟨by rfl, ?_⟩) hHeld ?_ ?_
  rotate_left
  · rintro w' s0
    go_simp
    with_reducible rfl
  rotate_left
  · simp only [Act.put, qa, qb, qc, i64_w, i32_w]
    rfl
  refine take_ (i := 2) (N := some 17) (v := ?_) (a' := ?_) (qd 6 5) rfl rfl (take_ofW HT_.out HW_.out (by kernel_rfl)) (fun _ _ _ h => h) (Or.inl ⟨by rfl, ?_⟩) hHeld ?_ ?_
  rotate_left
  · rintro w' s0
    go_simp
    with_reducible rfl
  rotate_left
  · simp only [Act.put, qa, qb, qc, i64_w, i32_w]
    rfl
  refine join_ (σ := Nat × Nat) 0 (qd 6 63) (fun s => [(16, .slice (some ⟨s.1, 0, none⟩) n n), (18, .slice (some ⟨s.2, 0, none⟩) n n)]) (fun s w' => Lo w o n (.slice (some ⟨s.1, 0, none⟩) n n) (.slice (some ⟨s.2, 0, none⟩) n n) w' ∧ w'.heap.size = w.heap.size + 6 ∧ (s.1 = w.heap.size + 4 ∧ s.2 = w.heap.size + 5 ∨ s.1 = w.heap.size + 5 ∧ s.2 = w.heap.size + 4) ∧ w'.heap[s.1]? = some (.cells (rowI (List.replicate n 0)) 3 (0, 0)) ∧ w'.heap[s.2]? = some (.cells (rowI (List.replicate n 0)) 3 (0, 0))) (fun s w2 hF => ?_) (fun hcont => ?_)
  rotate_left
  · refine two_ (i := 1) (j := 3) (Ni := some 16) (Nj := some 18) (qd 6 7) (qd 6 13) rfl rfl rfl rfl (by kernel_rfl) (by decide) (by decide) (fun K hK => ?_) (fun K hK => ?_)
    · refine value_ (by rfl) rfl (run_makeI _ n (by omega) _ _ (.tmp 15) (.tmp 15) rfl rfl rfl) ?_
      have L2 := HL.alloc (Obj.cells (rowI (List.replicate n 0)) 3)
      have g2 := blk_new W1 (Obj.cells (rowI (List.replicate n 0)) 3)
      have z2 : (W1.alloc (Obj.cells (rowI (List.replicate n 0)) 3)).heap.size = w.heap.size + 5 := by simp [HZ]
      rw [HZ] at g2 ⊢
      refine hK.out _ _ ((blk_cell L2.pn 0).trans rfl) (fun hHeld => ?_)
      clear hK K
      generalize W1.alloc (Obj.cells (rowI (List.replicate n 0)) 3) = W2 at L2 g2 z2 hHeld ⊢
      refine norm_ (a' := ?_) ?_ ?_
      rotate_left
      · show Act.put _ (some 16) _ = _
        simp only [Act.put, qa, qb, qc, i64_w, i32_w]
        rfl
      refine two_ (i := 3) (j := 4) (Ni := some 18) (Nj := none) (qd 6 15) (qd 6 23) rfl rfl rfl rfl (by kernel_rfl) (by decide) (by decide) (fun K hK => ?_) (fun K hK => ?_)
      · refine value_ (by rfl) rfl (run_makeI _ n (by omega) _ _ (.tmp 17) (.tmp 17) rfl rfl rfl) ?_
        have L3 := L2.alloc (Obj.cells (rowI (List.replicate n 0)) 3)
        have g3 := blk_new W2 (Obj.cells (rowI (List.replicate n 0)) 3)
        have g2' := blk_alloc g2 (Obj.cells (rowI (List.replicate n 0)) 3)
        have z3 : (W2.alloc (Obj.cells (rowI (List.replicate n 0)) 3)).heap.size = w.heap.size + 6 := by simp [z2]
        rw [z2] at g3 ⊢
        refine hK.out _ _ ((blk_cell L3.pn 0).trans rfl) (fun hHeld => ?_)
        clear hK K
        generalize W2.alloc (Obj.cells (rowI (List.replicate n 0)) 3) = W3 at L3 g3 z3 g2' hHeld ⊢
        refine norm_ (a' := ?_) ?_ ?_
        rotate_left
        · show Act.put _ (some 18) _ = _
          simp only [Act.put, qa, qb, qc, i64_w, i32_w]
          rfl
        refine one_ (i := 4) (N := none) (qd 6 31) rfl rfl (one_of HT_.out (by kernel_rfl)) (by decide) (fun K hK => ?_)
        have hcz := (blk_cell L3.pu 0).trans rfl
        have hfz := blk_frozen L3.pu 0
        refine skip_ (w1 := ?_) (by rfl) rfl ?_ ?_
        rotate_left
        · go_simp
          rfl
        have L4 := L3.setU (.slice (some ⟨w.heap.size + 4, 0, none⟩) n n)
        have z4 : (W3.setCell ⟨w.heap.size + 1, 0, none⟩ (.slice (some ⟨w.heap.size + 4, 0, none⟩) n n)).heap.size = w.heap.size + 6 := by simp [z3]
        have g2'' := blk_far g2' (p := ⟨w.heap.size + 1, 0, none⟩) (by simp <;> omega) (.slice (some ⟨w.heap.size + 4, 0, none⟩) n n)
        have g3' := blk_far g3 (p := ⟨w.heap.size + 1, 0, none⟩) (by simp <;> omega) (.slice (some ⟨w.heap.size + 4, 0, none⟩) n n)
        refine hK.out _ _ ((blk_cell L4.pn 0).trans rfl) (fun hHeld => ?_)
        clear hK K hcz hfz
        generalize W3.setCell ⟨w.heap.size + 1, 0, none⟩ (.slice (some ⟨w.heap.size + 4, 0, none⟩) n n) = W4 at L4 z4 g2'' g3' hHeld ⊢
        refine one_ (i := 5) (N := none) (qd 6 63) rfl rfl (one_of HT_.out (by kernel_rfl)) (by decide) (fun K hK => ?_)
        have hcz := (blk_cell L4.pf 0).trans rfl
        have hfz := blk_frozen L4.pf 0
        refine skip_ (w1 := ?_) (by rfl) rfl ?_ ?_
        rotate_left
        · go_simp
          rfl
        have L5 := L4.setV (.slice (some ⟨w.heap.size + 5, 0, none⟩) n n)
        have z5 : (W4.setCell ⟨w.heap.size + 1 + 1, 0, none⟩ (.slice (some ⟨w.heap.size + 5, 0, none⟩) n n)).heap.size = w.heap.size + 6 := by simp [z4]
        have g2''' := blk_far g2'' (p := ⟨w.heap.size + 1 + 1, 0, none⟩) (by simp <;> omega) (.slice (some ⟨w.heap.size + 5, 0, none⟩) n n)
        have g3'' := blk_far g3' (p := ⟨w.heap.size + 1 + 1, 0, none⟩) (by simp <;> omega) (.slice (some ⟨w.heap.size + 5, 0, none⟩) n n)
        refine hK.out _ _ ((blk_cell L5.pn 0).trans rfl) (fun hHeld => ?_)
        clear hK K hcz hfz
        generalize W4.setCell ⟨w.heap.size + 1 + 1, 0, none⟩ (.slice (some ⟨w.heap.size + 5, 0, none⟩) n n) = W5 at L5 z5 g2''' g3'' hHeld ⊢
        have hc := hcont (w.heap.size + 4, w.heap.size + 5) _ ⟨L5, z5, (.inl ⟨rfl, rfl⟩), g2''', g3''⟩
        simp only [putAll, Act.put, qa, qb, qc, i64_w, i32_w] at hc ⊢
        exact hc
      · have hcz := (blk_cell L2.pu 0).trans rfl
        have hfz := blk_frozen L2.pu 0
        refine skip_ (w1 := ?_) (by rfl) rfl ?_ ?_
        rotate_left
        · go_simp
          rfl
        have L3 := L2.setU (.slice (some ⟨w.heap.size + 4, 0, none⟩) n n)
        have z3 : (W2.setCell ⟨w.heap.size + 1, 0, none⟩ (.slice (some ⟨w.heap.size + 4, 0, none⟩) n n)).heap.size = w.heap.size + 5 := by simp [z2]
        have g2' := blk_far g2 (p := ⟨w.heap.size + 1, 0, none⟩) (by simp <;> omega) (.slice (some ⟨w.heap.size + 4, 0, none⟩) n n)
        refine hK.out _ _ ((blk_cell L3.pn 0).trans rfl) (fun hHeld => ?_)
        clear hK K hcz hfz
        generalize W2.setCell ⟨w.heap.size + 1, 0, none⟩ (.slice (some ⟨w.heap.size + 4, 0, none⟩) n n) = W3 at L3 z3 g2' hHeld ⊢
        refine one_ (i := 3) (N := some 18) (qd 6 31) rfl rfl (one_of HT_.out (by kernel_rfl)) (by decide) (fun K hK => ?_)
        refine value_ (by rfl) rfl (run_makeI _ n (by omega) _ _ (.tmp 17) (.tmp 17) rfl rfl rfl) ?_
        have L4 := L3.alloc (Obj.cells (rowI (List.replicate n 0)) 3)
        have g3 := blk_new W3 (Obj.cells (rowI (List.replicate n 0)) 3)
        have g2'' := blk_alloc g2' (Obj.cells (rowI (List.replicate n 0)) 3)
        have z4 : (W3.alloc (Obj.cells (rowI (List.replicate n 0)) 3)).heap.size = w.heap.size + 6 := by simp [z3]
        rw [z3] at g3 ⊢
        refine hK.out _ _ ((blk_cell L4.pn 0).trans rfl) (fun hHeld => ?_)
        clear hK K
        generalize W3.alloc (Obj.cells (rowI (List.replicate n 0)) 3) = W4 at L4 g3 z4 g2'' hHeld ⊢
        refine norm_ (a' := ?_) ?_ ?_
        rotate_left
        · show Act.put _ (some 18) _ = _
          simp only [Act.put, qa, qb, qc, i64_w, i32_w]
          rfl
        refine one_ (i := 5) (N := none) (qd 6 63) rfl rfl (one_of HT_.out (by kernel_rfl)) (by decide) (fun K hK => ?_)
        have hcz := (blk_cell L4.pf 0).trans rfl
        have hfz := blk_frozen L4.pf 0
        refine skip_ (w1 := ?_) (by rfl) rfl ?_ ?_
        rotate_left
        · go_simp
          rfl
        have L5 := L4.setV (.slice (some ⟨w.heap.size + 5, 0, none⟩) n n)
        have z5 : (W4.setCell ⟨w.heap.size + 1 + 1, 0, none⟩ (.slice (some ⟨w.heap.size + 5, 0, none⟩) n n)).heap.size = w.heap.size + 6 := by simp [z4]
        have g2''' := blk_far g2'' (p := ⟨w.heap.size + 1 + 1, 0, none⟩) (by simp <;> omega) (.slice (some ⟨w.heap.size + 5, 0, none⟩) n n)
        have g3' := blk_far g3 (p := ⟨w.heap.size + 1 + 1, 0, none⟩) (by simp <;> omega) (.slice (some ⟨w.heap.size + 5, 0, none⟩) n n)
        refine hK.out _ _ ((blk_cell L5.pn 0).trans rfl) (fun hHeld => ?_)
        clear hK K hcz hfz
        generalize W4.setCell ⟨w.heap.size + 1 + 1, 0, none⟩ (.slice (some ⟨w.heap.size + 5, 0, none⟩) n n) = W5 at L5 z5 g2''' g3' hHeld ⊢
        have hc := hcont (w.heap.size + 4, w.heap.size + 5) _ ⟨L5, z5, (.inl ⟨rfl, rfl⟩), g2''', g3'⟩
        simp only [putAll, Act.put, qa, qb, qc, i64_w, i32_w] at hc ⊢
        exact hc
    · refine value_ (by rfl) rfl (run_makeI _ n (by omega) _ _ (.tmp 17) (.tmp 17) rfl rfl rfl) ?_
      have L2 := HL.alloc (Obj.cells (rowI (List.replicate n 0)) 3)
      have g2 := blk_new W1 (Obj.cells (rowI (List.replicate n 0)) 3)
      have z2 : (W1.alloc (Obj.cells (rowI (List.replicate n 0)) 3)).heap.size = w.heap.size + 5 := by simp [HZ]
      rw [HZ] at g2 ⊢
      refine hK.out _ _ ((blk_cell L2.pn 0).trans rfl) (fun hHeld => ?_)
      clear hK K
      generalize W1.alloc (Obj.cells (rowI (List.replicate n 0)) 3) = W2 at L2 g2 z2 hHeld ⊢
      refine norm_ (a' := ?_) ?_ ?_
      rotate_left
      · show Act.put _ (some 18) _ = _
        simp only [Act.put, qa, qb, qc, i64_w, i32_w]
        rfl
      refine one_ (i := 1) (N := some 16) (qd 6 15) rfl rfl (one_of HT_.out (by kernel_rfl)) (by decide) (fun K hK => ?_)
      refine value_ (by rfl) rfl (run_makeI _ n (by omega) _ _ (.tmp 15) (.tmp 15) rfl rfl rfl) ?_
      have L3 := L2.alloc (Obj.cells (rowI (List.replicate n 0)) 3)
      have g3 := blk_new W2 (Obj.cells (rowI (List.replicate n 0)) 3)
      have g2' := blk_alloc g2 (Obj.cells (rowI (List.replicate n 0)) 3)
      have z3 : (W2.alloc (Obj.cells (rowI (List.replicate n 0)) 3)).heap.size = w.heap.size + 6 := by simp [z2]
      rw [z2] at g3 ⊢
      refine hK.out _ _ ((blk_cell L3.pn 0).trans rfl) (fun hHeld => ?_)
      clear hK K
      generalize W2.alloc (Obj.cells (rowI (List.replicate n 0)) 3) = W3 at L3 g3 z3 g2' hHeld ⊢
      refine norm_ (a' := ?_) ?_ ?_
      rotate_left
      · show Act.put _ (some 16) _ = _
        simp only [Act.put, qa, qb, qc, i64_w, i32_w]
        rfl
      refine one_ (i := 4) (N := none) (qd 6 31) rfl rfl (one_of HT_.out (by kernel_rfl)) (by decide) (fun K hK => ?_)
      have hcz := (blk_cell L3.pu 0).trans rfl
      have hfz := blk_frozen L3.pu 0
      refine skip_ (w1 := ?_) (by rfl) rfl ?_ ?_
      rotate_left
      · go_simp
        rfl
      have L4 := L3.setU (.slice (some ⟨w.heap.size + 5, 0, none⟩) n n)
      have z4 : (W3.setCell ⟨w.heap.size + 1, 0, none⟩ (.slice (some ⟨w.heap.size + 5, 0, none⟩) n n)).heap.size = w.heap.size + 6 := by simp [z3]
      have g2'' := blk_far g2' (p := ⟨w.heap.size + 1, 0, none⟩) (by simp <;> omega) (.slice (some ⟨w.heap.size + 5, 0, none⟩) n n)
      have g3' := blk_far g3 (p := ⟨w.heap.size + 1, 0, none⟩) (by simp <;> omega) (.slice (some ⟨w.heap.size + 5, 0, none⟩) n n)
      refine hK.out _ _ ((blk_cell L4.pn 0).trans rfl) (fun hHeld => ?_)
      clear hK K hcz hfz
      generalize W3.setCell ⟨w.heap.size + 1, 0, none⟩ (.slice (some ⟨w.heap.size + 5, 0, none⟩) n n) = W4 at L4 z4 g2'' g3' hHeld ⊢
      refine one_ (i := 5) (N := none) (qd 6 63) rfl rfl (one_of HT_.out (by kernel_rfl)) (by decide) (fun K hK => ?_)
      have hcz := (blk_cell L4.pf 0).trans rfl
      have hfz := blk_frozen L4.pf 0
      refine skip_ (w1 := ?_) (by rfl) rfl ?_ ?_
      rotate_left
      · go_simp
        rfl
      have L5 := L4.setV (.slice (some ⟨w.heap.size + 4, 0, none⟩) n n)
      have z5 : (W4.setCell ⟨w.heap.size + 1 + 1, 0, none⟩ (.slice (some ⟨w.heap.size + 4, 0, none⟩) n n)).heap.size = w.heap.size + 6 := by simp [z4]
      have g2''' := blk_far g2'' (p := ⟨w.heap.size + 1 + 1, 0, none⟩) (by simp <;> omega) (.slice (some ⟨w.heap.size + 4, 0, none⟩) n n)
      have g3'' := blk_far g3' (p := ⟨w.heap.size + 1 + 1, 0, none⟩) (by simp <;> omega) (.slice (some ⟨w.heap.size + 4, 0, none⟩) n n)
      refine hK.out _ _ ((blk_cell L5.pn 0).trans rfl) (fun hHeld => ?_)
      clear hK K hcz hfz
      generalize W4.setCell ⟨w.heap.size + 1 + 1, 0, none⟩ (.slice (some ⟨w.heap.size + 4, 0, none⟩) n n) = W5 at L5 z5 g2''' g3'' hHeld ⊢
      have hc := hcont (w.heap.size + 5, w.heap.size + 4) _ ⟨L5, z5, (.inr ⟨rfl, rfl⟩), g3'', g2'''⟩
      simp only [putAll, Act.put, qa, qb, qc, i64_w, i32_w] at hc ⊢
      exact hc
  clear HL HZ hHeld
  obtain ⟨gu, gf⟩ := s
  obtain ⟨L, z, side, ru, rf⟩ := hF
  have LL := Aside0.mk L
  have ZZ := Aside0.mk z
  have SIDE := Aside0.mk side
  have RU := Aside0.mk ru
  have RF := Aside0.mk rf
  have k1 : w2.cell? ⟨w.heap.size + 1 + 1 + 1, 0, none⟩ = some (.int .i64 n) := (blk_cell L.pn 0).trans rfl
  have k2 := L.below.size
  have k3 : ((((w2.alloc (Obj.cells (rowI (List.replicate n 0)) 3)).alloc (Obj.cells #[.slice (some ⟨w2.heap.size, 0, none⟩) n n] 26)).alloc (Obj.cells #[.slice none 0 0] 26)).alloc (Obj.cells #[.func (.func 78) #[] #[.pointer (some ⟨w2.heap.size + 1, 0, none⟩), .pointer (some ⟨w2.heap.size + 1 + 1, 0, none⟩), .pointer (some ⟨w.heap.size + 1 + 1, 0, none⟩), .pointer (some ⟨w.heap.size + 1 + 1 + 1, 0, none⟩), .pointer (some ⟨w.heap.size, 0, none⟩), .pointer (some ⟨w2.heap.size + 1 + 1 + 1, 0, none⟩), .pointer (some ⟨w.heap.size + 1, 0, none⟩)]] 132)).cell? ⟨w.heap.size + 1 + 1 + 1, 0, none⟩ = some (.int .i64 n) := (blk_cell (blk_alloc (blk_alloc (blk_alloc (blk_alloc L.pn _) _) _) _) 0).trans rfl
  clear L z side ru rf
  refine norm_ (a' := ?_) ?_ ?_
  rotate_left
  · simp only [putAll, Act.put, qa, qb, qc, i64_w, i32_w]
    rfl
  refine done_ (done_of HT_.out (by kernel_rfl)) ?_
  go_wp2_with (first | ((with_reducible refine gate_dst (N := 20) rfl ?_); refine Kd.event_run rfl (run_makeI _ n (by omega) _ _ (.tmp 19) (.tmp 19) rfl rfl rfl) ?_))
  rw [ZZ.out]
  have HD := Aside0.mk (dfs_start HO.out LL.out ZZ.out SIDE.out RU.out RF.out)
  clear k1 k2 k3
  go_loopw [23] (fun v w' => ∃ i : Nat, i ≤ n ∧ v = .int .i64 i ∧ ∃ S, Aside0 (allF nx (timeT (tasksN J J.length)) n f i = some (.ok S)) ∧ Aside0 (InvF S ∧ S.pa = []) ∧ Aside0 (Dfs w w.heap.size gu gf g o nx n w' S)) (fun v _ => n - (intOf v).toNat)
  case atStart => exact ⟨0, Nat.zero_le _, rfl, _, ⟨rfl⟩, ⟨inv_start n, rfl⟩, HD⟩
  case round =>
    clear HD LL ZZ RU RF
    obtain ⟨i, hi, rfl, S, HL, HI, HDi⟩ := hrel
    by_cases hlt : i < n
    · have q9 := (blk_cell HDi.out.pv 0).trans rfl
      obtain ⟨r', er⟩ : ∃ r', visitF nx (timeT (tasksN J J.length)) n f i S = some r' := by
        cases e : visitF nx (timeT (tasksN J J.length)) n f i S with
        | some r' => exact ⟨r', rfl⟩
        | none =>
          have h := HR.out
          rw [allF_next HL.out hlt e (fun _ => by simp)] at h
          cases h
      have hc := visit_ok w w.heap.size gu gf g n o nx J rfl HS.out HN.out h10 f i S r' wr HDi.out HI.out.1 hlt (by rw [HI.out.2]; simp; omega) er
      unfold VisitArgs at hc
      have HC := Aside0.mk hc
      have ER := Aside0.mk er
      clear hc er
      cases r' with
      | cyc l =>
        have hl := HR.out
        rw [allF_next HL.out hlt ER.out (fun _ => by simp)] at hl
        obtain rfl : Dre.cyc l = r := Option.some.inj hl
        go_wp2_with (first
          | (refine HC.out.mono ?_; rintro e w5 ⟨A, c, rfl, hR, hBl⟩; exact ⟨rfl, hBl, A, c, rfl, hR⟩))
      | ok S' =>
        go_wp2_with (first
          | (refine HC.out.mono ?_; rintro e w5 ⟨⟨v5, rfl⟩, hd5⟩; have HD5 := Aside0.mk hd5; clear hd5 q9))
        obtain ⟨i1, p1⟩ := visitF_keeps f i S S' HI.out.1 ER.out
        exact ⟨⟨i + 1, by omega, rfl, S', ⟨by rw [allF, HL.out]; exact ER.out⟩, ⟨i1, by rw [p1, HI.out.2]⟩, HD5⟩, by simp [intOf]; omega⟩
    · obtain rfl : i = n := by omega
      go_wp2
      have HD6 := Aside0.mk HDi.out.drew
      clear HDi
      have p1 := (blk_cell HD6.out.pu 0).trans rfl
      have p2 := (blk_cell HD6.out.pf 0).trans rfl
      refine start_ (n := 4) (S := fun w' => w'.cell? ⟨w.heap.size + 1, 0, none⟩ = some (.slice (some ⟨gu, 0, none⟩) i i) ∧ w'.cell? ⟨w.heap.size + 1 + 1, 0, none⟩ = some (.slice (some ⟨gf, 0, none⟩) i i)) (ds := [3]) #[false, false, false, false] (by kernel_rfl) rfl rfl ⟨p1, p2⟩ (fun hHeld => ?_)
      refine with_tabW lo12tab lo12bits (fun HT_ HW_ => ?_)
      generalize wr.drew = w6 at HD6 hHeld ⊢
      refine take_ (i := 0) (N := some 30) (v := ?_) (a' := ?_) #[true, false, false, false] rfl rfl (take_ofW HT_.out HW_.out (by kernel_rfl)) (fun _ _ _ h => h) (Or.inl ⟨by rfl, ?_⟩) hHeld ?_ ?_
      rotate_left
      · rintro w' ⟨s0, s1⟩
        go_simp
        with_reducible rfl
      rotate_left
      · simp only [Act.put, qa, qb, qc, i64_w, i32_w]
        rfl
      refine take_ (i := 1) (N := some 31) (v := ?_) (a' := ?_) #[true, true, false, false] rfl rfl (take_ofW HT_.out HW_.out (by kernel_rfl)) (fun _ _ _ h => h) (Or.inl ⟨by rfl, ?_⟩) hHeld ?_ ?_
      rotate_left
      · rintro w' ⟨s0, s1⟩
        go_simp
        with_reducible rfl
      rotate_left
      · simp only [Act.put, qa, qb, qc, i64_w, i32_w]
        rfl
      refine one_ (i := 2) (N := none) #[true, true, true, false] rfl rfl (one_of HT_.out (by kernel_rfl)) (by decide) (fun K hK => ?_)
      obtain ⟨hcz, _⟩ := hHeld
      have hfz := blk_frozen HD6.out.pu 0
      refine skip_ (w1 := ?_) (by rfl) rfl ?_ ?_
      rotate_left
      · go_simp
        rfl
      have HD7 := Aside0.mk HD6.out.sameU
      refine hK.out _ _ ⟨(blk_cell HD7.out.pu 0).trans rfl, (blk_cell HD7.out.pf 0).trans rfl⟩ (fun hHeld => ?_)
      clear hK K hcz hfz HD6
      generalize w6.setCell ⟨w.heap.size + 1, 0, none⟩ (.slice (some ⟨gu, 0, none⟩) i i) = w7 at HD7 hHeld ⊢
      refine last_ (i := 3) (N := none) #[true, true, true, true] rfl rfl (one_of HT_.out (by kernel_rfl)) (by decide) (fun K hK => ?_)
      have hcz : w7.cell? ⟨w.heap.size + 1 + 1, 0, none⟩ = some (.slice (some ⟨gf, 0, none⟩) i i) := (blk_cell HD7.out.pf 0).trans rfl
      have hfz : w7.frozen? ⟨w.heap.size + 1 + 1, 0, none⟩ = false := blk_frozen HD7.out.pf 0
      refine skip_ (w1 := ?_) (by rfl) rfl ?_ ?_
      rotate_left
      · go_simp
        rfl
      refine hK.out _ _ ?_
      have HD8 := Aside0.mk HD7.out.sameF
      clear hK K hcz hfz HD7
      refine done_ (done_of HT_.out (by kernel_rfl)) ?_
      generalize w7.setCell ⟨w.heap.size + 1 + 1, 0, none⟩ (.slice (some ⟨gf, 0, none⟩) i i) = w8 at HD8 ⊢
      go_wp2
      have r1 : w8.cell? ⟨w.heap.size + 1, 0, none⟩ = some (.slice (some ⟨gu, 0, none⟩) i i) := (blk_cell HD8.out.pu 0).trans rfl
      have r2 : w8.cell? ⟨w.heap.size + 1 + 1, 0, none⟩ = some (.slice (some ⟨gf, 0, none⟩) i i) := (blk_cell HD8.out.pf 0).trans rfl
      have hl := HR.out
      rw [HL.out] at hl
      obtain rfl : Dre.ok S = r := Option.some.inj hl
      have D := HD8.out
      refine bodyPost_ret (v := .tuple #[.slice (some ⟨gu, 0, none⟩) i i, .slice (some ⟨gf, 0, none⟩) i i]) ?_ rfl ⟨D.below, gu, gf, rfl, D.ne.1, by have := D.ne; omega, by have := D.ne; omega, D.lens.2.1, D.lens.2.2, D.ru, D.rf⟩
      have hres : Try.f74.results = #[.cell 2 26, .cell 3 26] := rfl
      clear hl HL HI HR HS HN HO SIDE HD8 D
      simp only [results, hres]
      go_simp
end Go.Proofs.Ytipkhaicjjeieaa.V
