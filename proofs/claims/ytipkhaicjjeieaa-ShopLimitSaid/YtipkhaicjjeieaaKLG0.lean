/- Walks of the shop's functions: texts behind each other, joined. Conditions stand in each theorem. -/
import Derived.Test.YtipkhaicjjeieaaKLShH
section
namespace Go.Proofs.Ytipkhaicjjeieaa.V
set_option linter.unusedSimpArgs false
set_option linter.unusedVariables false
open Go.RowKit Go.Proofs.YtipkhaicjjeieaaW.PrintWords Go.Proofs.YtipkhaicjjeieaaW.PrintLast Go.Proofs.YtipkhaicjjeieaaW.PrintMore
structure Dst where
  st : List Int
  su : List Int
  fr : List Int
  pa : List Int
inductive Dre where
  | ok (S : Dst)
  | cyc (l : List Int)
def topF (t p : Nat) (S : Dst) : Dst := if S.su.getD p 0 > S.su.getD t 0 then { S with su := S.su.set t (S.su.getD p 0), fr := S.fr.set t p } else S
def stepF (V : Nat → Dst → Option Dre) (nx : Nat → Nat → Bool) (t p : Nat) : Option Dre → Option Dre
  | some (.ok S) => if nx p t = true then (match V p S with
    | some (.ok S') => some (.ok (topF t p S'))
    | r => r) else some (.ok S)
  | r => r
def loopF (V : Nat → Dst → Option Dre) (nx : Nat → Nat → Bool) (t : Nat) (S : Dst) : Nat → Option Dre
  | 0 => some (.ok S)
  | k + 1 => stepF V nx t k (loopF V nx t S k)
def openF (t : Nat) (S : Dst) : Dst := { st := S.st.set t 1, su := S.su, fr := S.fr.set t (-1), pa := S.pa ++ [(t : Int)] }
def shutF (tm : Nat → Int) (t : Nat) (S : Dst) : Dst := { st := S.st.set t 2, su := S.su.set t (wrap64 (S.su.getD t 0 + tm t)), fr := S.fr, pa := S.pa.take (S.pa.length - 1) }
def visitF (nx : Nat → Nat → Bool) (tm : Nat → Int) (n : Nat) : Nat → Nat → Dst → Option Dre
  | 0, _, _ => none
  | f + 1, t, S =>
    if S.st.getD t 0 = 1 then some (.cyc (S.pa.drop (indexN S.pa t S.pa.length).toNat ++ [(t : Int)]))
    else if S.st.getD t 0 = 2 then some (.ok S)
    else match loopF (visitF nx tm n f) nx t (openF t S) n with
      | some (.ok S') => some (.ok (shutF tm t S'))
      | r => r
def allF (nx : Nat → Nat → Bool) (tm : Nat → Int) (n f : Nat) : Nat → Option Dre
  | 0 => some (.ok ⟨List.replicate n 0, List.replicate n 0, List.replicate n 0, []⟩)
  | k + 1 => match allF nx tm n f k with
    | some (.ok S) => visitF nx tm n f k S
    | r => r
theorem loopF_stay {V : Nat → Dst → Option Dre} {nx : Nat → Nat → Bool} {t : Nat} {S : Dst} {k : Nat} {r : Option Dre} (h : loopF V nx t S k = r) (hr : ∀ S', r ≠ some (.ok S')) : ∀ d, loopF V nx t S (k + d) = r
  | 0 => h
  | d + 1 => by
    have e : k + (d + 1) = (k + d) + 1 := by omega
    rw [e, loopF, loopF_stay h hr d]
    match r, hr with
    | none, _ => rfl
    | some (.cyc l), _ => rfl
    | some (.ok S'), hr => exact absurd rfl (hr S')
def rowI (l : List Int) : Array Value := (l.map (Value.int .i64)).toArray
theorem rowI_get (l : List Int) (i : Nat) (h : i < l.length) : (rowI l)[i]? = some (.int .i64 (l.getD i 0)) := by
  simp [rowI, h]
theorem rowI_set (l : List Int) (i : Nat) (x : Int) : (rowI l).setIfInBounds i (.int .i64 x) = rowI (l.set i x) := by
  simp [rowI, List.map_set]
structure Dfs (w0 : World) (B gu gf g : Nat) (o : Array Value) (nx : Nat → Nat → Bool) (n : Nat) (w : World) (S : Dst) : Prop where
  ne : gu ≠ gf ∧ B + 4 ≤ gu ∧ gu ≤ B + 5 ∧ B + 4 ≤ gf ∧ gf ≤ B + 5
  sz : B + 10 ≤ w.heap.size
  below : Below B w0 w
  lens : S.st.length = n ∧ S.su.length = n ∧ S.fr.length = n
  ord : IsOrd o g nx
  bo : w.heap[B]? = some (.cells o 77 (0, 0))
  pu : w.heap[B + 1]? = some (.cells #[.slice (some ⟨gu, 0, none⟩) n n] 26 (0, 0))
  pf : w.heap[B + 2]? = some (.cells #[.slice (some ⟨gf, 0, none⟩) n n] 26 (0, 0))
  pn : w.heap[B + 3]? = some (.cells #[.int .i64 n] 3 (0, 0))
  ps : w.heap[B + 7]? = some (.cells #[.slice (some ⟨B + 6, 0, none⟩) n n] 26 (0, 0))
  pv : w.heap[B + 9]? = some (.cells #[.func (.func 78) #[] #[.pointer (some ⟨B + 7, 0, none⟩), .pointer (some ⟨B + 8, 0, none⟩), .pointer (some ⟨B + 2, 0, none⟩), .pointer (some ⟨B + 3, 0, none⟩), .pointer (some ⟨B, 0, none⟩), .pointer (some ⟨B + 9, 0, none⟩), .pointer (some ⟨B + 1, 0, none⟩)]] 132 (0, 0))
  ru : w.heap[gu]? = some (.cells (rowI S.su) 3 (0, 0))
  rf : w.heap[gf]? = some (.cells (rowI S.fr) 3 (0, 0))
  rs : w.heap[B + 6]? = some (.cells (rowI S.st) 3 (0, 0))
  pa : ∃ v, w.heap[B + 8]? = some (.cells #[v] 26 (0, 0)) ∧ Kd.R (Kd.int .i64) 3 w B (fun k => B + 10 ≤ k) v S.pa
theorem Dfs.setSt {w0 w : World} {B gu gf g n : Nat} {o : Array Value} {nx : Nat → Nat → Bool} {S : Dst} (h : Dfs w0 B gu gf g o nx n w S) (t : Nat) (x : Int) : Dfs w0 B gu gf g o nx n (w.setCell ⟨B + 6, t, none⟩ (.int .i64 x)) { S with st := S.st.set t x } := by
  obtain ⟨h1, h2, h3, h4, h5, bo, pu, pf, pn, ps, pv, ru, rf, rs, v, pp, pr⟩ := h
  refine ⟨h1, by simpa using h2, h3.setCell (by simp) _, by simpa using h4, h5, blk_far bo (by simp) _, blk_far pu (by simp) _, blk_far pf (by simp) _, blk_far pn (by simp) _, blk_far ps (by simp) _, blk_far pv (by simp) _, blk_far ru (by simp; omega) _, blk_far rf (by simp; omega) _, ?_, v, blk_far pp (by simp) _, Kd.R_far pr (fun k hk => by simp; omega) _⟩
  rw [← rowI_set]
  exact blk_set rs _ _
theorem Dfs.setSu {w0 w : World} {B gu gf g n : Nat} {o : Array Value} {nx : Nat → Nat → Bool} {S : Dst} (h : Dfs w0 B gu gf g o nx n w S) (t : Nat) (x : Int) : Dfs w0 B gu gf g o nx n (w.setCell ⟨gu, t, none⟩ (.int .i64 x)) { S with su := S.su.set t x } := by
  obtain ⟨h1, h2, h3, h4, h5, bo, pu, pf, pn, ps, pv, ru, rf, rs, v, pp, pr⟩ := h
  refine ⟨h1, by simpa using h2, h3.setCell (by simp; omega) _, by simpa using h4, h5, blk_far bo (by simp; omega) _, blk_far pu (by simp; omega) _, blk_far pf (by simp; omega) _, blk_far pn (by simp; omega) _, blk_far ps (by simp; omega) _, blk_far pv (by simp; omega) _, ?_, blk_far rf (by simp; omega) _, blk_far rs (by simp; omega) _, v, blk_far pp (by simp; omega) _, Kd.R_far pr (fun k hk => by simp; omega) _⟩
  rw [← rowI_set]
  exact blk_set ru _ _
theorem Dfs.setFr {w0 w : World} {B gu gf g n : Nat} {o : Array Value} {nx : Nat → Nat → Bool} {S : Dst} (h : Dfs w0 B gu gf g o nx n w S) (t : Nat) (x : Int) : Dfs w0 B gu gf g o nx n (w.setCell ⟨gf, t, none⟩ (.int .i64 x)) { S with fr := S.fr.set t x } := by
  obtain ⟨h1, h2, h3, h4, h5, bo, pu, pf, pn, ps, pv, ru, rf, rs, v, pp, pr⟩ := h
  refine ⟨h1, by simpa using h2, h3.setCell (by simp; omega) _, by simpa using h4, h5, blk_far bo (by simp; omega) _, blk_far pu (by simp; omega) _, blk_far pf (by simp; omega) _, blk_far pn (by simp; omega) _, blk_far ps (by simp; omega) _, blk_far pv (by simp; omega) _, blk_far ru (by simp; omega) _, ?_, blk_far rs (by simp; omega) _, v, blk_far pp (by simp; omega) _, Kd.R_far pr (fun k hk => by simp; omega) _⟩
  rw [← rowI_set]
  exact blk_set rf _ _
theorem Dfs.setPa {w0 w : World} {B gu gf g n : Nat} {o : Array Value} {nx : Nat → Nat → Bool} {S : Dst} (h : Dfs w0 B gu gf g o nx n w S) {v : Value} {l : List Int} (hv : Kd.R (Kd.int .i64) 3 w B (fun k => B + 10 ≤ k) v l) : Dfs w0 B gu gf g o nx n (w.setCell ⟨B + 8, 0, none⟩ v) { S with pa := l } := by
  obtain ⟨h1, h2, h3, h4, h5, bo, pu, pf, pn, ps, pv, ru, rf, rs, u, pp, pr⟩ := h
  refine ⟨h1, by simpa using h2, h3.setCell (by simp) _, h4, h5, blk_far bo (by simp) _, blk_far pu (by simp) _, blk_far pf (by simp) _, blk_far pn (by simp) _, blk_far ps (by simp) _, blk_far pv (by simp) _, blk_far ru (by simp; omega) _, blk_far rf (by simp; omega) _, blk_far rs (by simp) _, v, ?_, Kd.R_far hv (fun k hk => by simp; omega) _⟩
  exact blk_put pp _ _ rfl
theorem Dfs.drew {w0 w : World} {B gu gf g n : Nat} {o : Array Value} {nx : Nat → Nat → Bool} {S : Dst} (h : Dfs w0 B gu gf g o nx n w S) : Dfs w0 B gu gf g o nx n w.drew S := by
  obtain ⟨h1, h2, h3, h4, h5, bo, pu, pf, pn, ps, pv, ru, rf, rs, v, pp, pr⟩ := h
  exact ⟨h1, h2, below_drew1 h3, h4, h5, bo, pu, pf, pn, ps, pv, ru, rf, rs, v, pp, Kd.R_drew pr⟩
theorem Dfs.grown {w0 w w1 : World} {B gu gf g n : Nat} {o : Array Value} {nx : Nat → Nat → Bool} {S : Dst} (h : Dfs w0 B gu gf g o nx n w S) {row : Option Nat} (hg : w.grownBy w1 row) (hrow : ∀ k, row = some k → B + 10 ≤ k) (hb : Below B w0 w1) (hs : w.heap.size ≤ w1.heap.size) {u v : Value} {l : List Int} (hp : w.heap[B + 8]? = some (.cells #[u] 26 (0, 0))) (hv : Kd.R (Kd.int .i64) 3 w1 B (fun k => B + 10 ≤ k) v l) : Dfs w0 B gu gf g o nx n (w1.setCell ⟨B + 8, 0, none⟩ v) { S with pa := l } := by
  obtain ⟨h1, h2, h3, h4, h5, bo, pu, pf, pn, ps, pv, ru, rf, rs, u', pp, pr⟩ := h
  have hne : ∀ k, k < B + 10 → some k ≠ row := fun k hk he => by have := hrow k he.symm; omega
  refine ⟨h1, by simp; omega, hb.setCell (by simp) _, h4, h5, blk_far (blk_grown bo hg (hne _ (by omega))) (by simp) _, blk_far (blk_grown pu hg (hne _ (by omega))) (by simp) _, blk_far (blk_grown pf hg (hne _ (by omega))) (by simp) _, blk_far (blk_grown pn hg (hne _ (by omega))) (by simp) _, blk_far (blk_grown ps hg (hne _ (by omega))) (by simp) _, blk_far (blk_grown pv hg (hne _ (by omega))) (by simp) _, blk_far (blk_grown ru hg (hne _ (by omega))) (by simp; omega) _, blk_far (blk_grown rf hg (hne _ (by omega))) (by simp; omega) _, blk_far (blk_grown rs hg (hne _ (by omega))) (by simp) _, v, ?_, Kd.R_far hv (fun k hk => by simp; omega) _⟩
  exact blk_put (blk_grown pp hg (hne _ (by omega))) _ _ rfl
set_option linter.unusedSimpArgs false
set_option linter.unusedVariables false
open Go.RowKit Go.Proofs.YtipkhaicjjeieaaW.PrintWords Go.Proofs.YtipkhaicjjeieaaW.PrintLast Go.Proofs.YtipkhaicjjeieaaW.PrintMore
def VisitPost (w0 : World) (B gu gf g : Nat) (o : Array Value) (nx : Nat → Nat → Bool) (n : Nat) (r : Dre) (e : Ending) (w' : World) : Prop :=
  match r with
  | .ok S' => (∃ v, e = .returned v) ∧ Dfs w0 B gu gf g o nx n w' S'
  | .cyc l => ∃ A c, e = .panicked [{ v := .iface 128 (.agg #[.slice A l.length c]), recovered := false }] ∧ Kd.R (Kd.int .i64) 3 w' B (fun _ => True) (.slice A l.length c) l ∧ Below B w0 w'
theorem slices_Clone_drop.calls (A : Option Addr) (c m : Nat) (l : List Int) (w : World) (hr : Kd.C (Kd.int .i64) w A (l.drop m).length (l.drop m)) (hc : l.length - m ≤ c) (hm : l.length ≤ 1000) :
    Calls Try.prog 68 #[.slice A (l.length - m) c] w fun e w' => ∃ v0_ : Value, e = .returned v0_ ∧ Kd.R (Kd.int .i64) 3 w' w.heap.size (fun _ => True) v0_ (l.drop m) ∧ Below w.heap.size w w' := by
  have h := slices_Clone.calls A c (l.drop m) w hr (by rw [List.length_drop]; exact hc) (by rw [List.length_drop]; omega)
  rwa [List.length_drop] at h
set_option maxHeartbeats 8000000 in
set_option maxRecDepth 100000 in
theorem visit_cyc (w0 : World) (B gu gf g n : Nat) (o : Array Value) (nx : Nat → Nat → Bool) (t : Nat) (S : Dst) (w : World) (hd : Dfs w0 B gu gf g o nx n w S) (ht : t < n) (hp : S.pa.length ≤ 100) (h1 : S.st.getD t 0 = 1) (hi : 0 ≤ indexN S.pa t S.pa.length) :
    Calls Try.prog 78 #[.int .i64 t, .pointer (some ⟨B + 7, 0, none⟩), .pointer (some ⟨B + 8, 0, none⟩), .pointer (some ⟨B + 2, 0, none⟩), .pointer (some ⟨B + 3, 0, none⟩), .pointer (some ⟨B, 0, none⟩), .pointer (some ⟨B + 9, 0, none⟩), .pointer (some ⟨B + 1, 0, none⟩)] w
      (VisitPost w0 B gu gf g o nx n (.cyc (S.pa.drop (indexN S.pa t S.pa.length).toNat ++ [(t : Int)]))) := by
  obtain ⟨v, pp, pr⟩ := hd.pa
  obtain ⟨l, el⟩ : ∃ l, l = S.pa := ⟨_, rfl⟩
  rw [← el] at pr hp hi ⊢
  have EL := Aside0.mk el
  clear el
  obtain ⟨k, ek⟩ : ∃ k : Nat, (k : Int) = indexN l t l.length := ⟨_, Int.toNat_of_nonneg hi⟩
  have hk := (indexN_lt l t l.length).2
  rw [← ek] at hk ⊢
  have hkn : k < l.length := by omega
  obtain ⟨gp, cap, rfl, gb, gl, _⟩ := Kd.R_form pr (by omega)
  obtain ⟨_, hlc, hC⟩ := Kd.R_reads' pr
  have q1 : w.cell? ⟨B + 7, 0, none⟩ = some (.slice (some ⟨B + 6, 0, none⟩) n n) := (blk_cell hd.ps 0).trans rfl
  have q2 := (blk_cell hd.rs t).trans (rowI_get S.st t (by rw [hd.lens.1]; exact ht))
  rw [h1] at q2
  have q3 : w.cell? ⟨B + 8, 0, none⟩ = some (.slice (some ⟨gp, 0, none⟩) l.length cap) := (blk_cell pp 0).trans rfl
  have hti : (t : Int) < (n : Int) := by omega
  have hcut := Kd.C_drop hC (m := k) (c := cap) (by omega) hlc
  rw [if_neg (by omega)] at hcut
  have eA : (some (⟨gp, 0, none⟩ : Addr)).map (·.add (k * (Kd.int .i64).sz)) = some ⟨gp, k, none⟩ := by
    show some (Addr.add ⟨gp, 0, none⟩ (k * 1)) = _
    rw [Nat.mul_one]
    cases k with
    | zero => rfl
    | succ j => rw [addS, Nat.zero_add]
  rw [eA] at hcut
  have HD := Aside0.mk hd
  have HC := Aside0.mk hC
  have HCUT := Aside0.mk hcut
  have EK := Aside0.mk ek
  have HP := Aside0.mk hp
  have hk2 : (k : Int) ≤ (l.length : Int) := by omega
  have hk3 : (l.length : Int) ≤ (cap : Int) := by omega
  have hk4 : 0 ≤ (k : Int) := by omega
  clear ek hd pp pr hC hcut hp hi
  go_enter Try.func78, Try.ntmps78
  go_wp2_with (first
    | ((with_reducible refine (slices_Index.calls (some ⟨gp, 0, none⟩) cap l t _ HC.out hlc (by have := HP.out; omega)).mono ?_); rw [← EK.out]; rintro e w1 ⟨rfl, hb1⟩; have HB1 := Aside0.mk hb1; have q4 := pw_cell_below hb1 q3; have Z1 : B ≤ w1.heap.size := (by have := HD.out.sz; have := below_size hb1; omega); have HW1 := Aside0.mk (below_then HD.out.below (by have := HD.out.sz; omega) hb1); clear hb1 q3)
    | ((with_reducible refine (slices_Clone_drop.calls (some ⟨gp, k, none⟩) (cap - k) k l _ (Kd.C_below HCUT.out HB1.out) (by omega) (by have := HP.out; omega)).mono ?_); rintro e w2 ⟨v1, rfl, ho, hb2⟩; have Z2 : B ≤ w2.heap.size := (by have := below_size hb2; omega); have HW2 := Aside0.mk (below_then HW1.out Z1 hb2); have HO2 := Aside0.mk (Kd.R_lower ho Z1); clear ho hb2 q4)
    | ((with_reducible refine gate_builtin (b := .append) (xs := #[.tmp 22, .tmp 24]) rfl ?_); at_builtin; refine Kd.R_append (Kd.int .i64) (w0 := w0) B rfl (.tmp 22) (.tmp 24) 26 3 (.int .i64 0) 8 rfl Try.underlying26 info3 rfl (by decide) (by decide) v1 (l.drop k) (t : Int) [.int .i64 (t : Int)] (fun _ => True) (fun _ => False) rfl rfl ?aP (fun _ hk => hk.elim) (fun _ _ => trivial) HO2.out HW2.out Z2 ?aL ?_; (case aP => exact rfl); (case aL => have := HP.out; have := List.length_drop (i := k) (l := l); omega); intro v3 w3 ho hb hg hat; obtain ⟨A3, c3, rfl⟩ := Kd.R_slice ho; have HO3 := Aside0.mk ho; have HW3 := Aside0.mk hb; clear ho hb hg hat)
    )
  show _ ∧ _
  have eL : (l.drop k ++ [(t : Int)]).length = l.length - k + 1 := by rw [List.length_append, List.length_drop, List.length_singleton]
  exact ⟨rfl, A3, c3, by rw [eL], HO3.out, HW3.out⟩
set_option maxHeartbeats 8000000 in
set_option maxRecDepth 100000 in
theorem visit_done (w0 : World) (B gu gf g n : Nat) (o : Array Value) (nx : Nat → Nat → Bool) (t : Nat) (S : Dst) (w : World) (hd : Dfs w0 B gu gf g o nx n w S) (ht : t < n) (h1 : S.st.getD t 0 = 2) :
    Calls Try.prog 78 #[.int .i64 t, .pointer (some ⟨B + 7, 0, none⟩), .pointer (some ⟨B + 8, 0, none⟩), .pointer (some ⟨B + 2, 0, none⟩), .pointer (some ⟨B + 3, 0, none⟩), .pointer (some ⟨B, 0, none⟩), .pointer (some ⟨B + 9, 0, none⟩), .pointer (some ⟨B + 1, 0, none⟩)] w
      (VisitPost w0 B gu gf g o nx n (.ok S)) := by
  have q1 : w.cell? ⟨B + 7, 0, none⟩ = some (.slice (some ⟨B + 6, 0, none⟩) n n) := (blk_cell hd.ps 0).trans rfl
  have q2 := (blk_cell hd.rs t).trans (rowI_get S.st t (by rw [hd.lens.1]; exact ht))
  rw [h1] at q2
  have hti : (t : Int) < (n : Int) := by omega
  have HD := Aside0.mk hd
  clear hd
  go_enter Try.func78, Try.ntmps78
  go_wp2
  (try simp only [Exit.inBlock, Exit.then])
  refine bodyPost_ret (results_none rfl _ _ _) rfl ?_
  exact ⟨⟨_, rfl⟩, HD.out⟩
set_option linter.unusedSimpArgs false
set_option linter.unusedVariables false
open Go.RowKit Go.Proofs.YtipkhaicjjeieaaW.PrintWords Go.Proofs.YtipkhaicjjeieaaW.PrintLast Go.Proofs.YtipkhaicjjeieaaW.PrintMore
def InvF (S : Dst) : Prop := ∀ x : Nat, S.st.getD x 0 = 1 → (x : Int) ∈ S.pa
theorem indexN_mem {l : List Int} {x : Int} (h : x ∈ l) : 0 ≤ indexN l x l.length := by
  refine Int.not_lt.1 fun h2 => ?_
  obtain ⟨j, hj, e⟩ := List.getElem_of_mem h
  exact (indexN_no l x l.length).1 h2 j hj (by rw [List.getD_eq_getElem?_getD, List.getElem?_eq_getElem hj, e]; rfl)
theorem getD_set (l : List Int) (i j : Nat) (x : Int) : (l.set i x).getD j 0 = if i = j ∧ j < l.length then x else l.getD j 0 := by
  simp only [List.getD_eq_getElem?_getD, List.getElem?_set]
  by_cases e : i = j
  · subst e
    by_cases h : i < l.length
    · simp [h]
    · simp [h]
  · simp [e]
theorem InvF.opened {S : Dst} (h : InvF S) (t : Nat) : InvF (openF t S) := by
  intro x hx
  simp only [openF, getD_set] at hx ⊢
  by_cases e : t = x ∧ x < S.st.length
  · rw [e.1]; simp
  · rw [if_neg e] at hx
    exact List.mem_append_left _ (h x hx)
theorem InvF.top {S : Dst} (h : InvF S) (t p : Nat) : InvF (topF t p S) ∧ (topF t p S).pa = S.pa := by
  unfold topF
  split
  · exact ⟨h, rfl⟩
  · exact ⟨h, rfl⟩
theorem loopF_keeps {V : Nat → Dst → Option Dre} (hV : ∀ p S S', InvF S → V p S = some (.ok S') → InvF S' ∧ S'.pa = S.pa) {nx : Nat → Nat → Bool} {t : Nat} {S : Dst} (h : InvF S) :
    ∀ k S', loopF V nx t S k = some (.ok S') → InvF S' ∧ S'.pa = S.pa
  | 0, S', e => by
    obtain rfl : S = S' := by injection e with e; injection e
    exact ⟨h, rfl⟩
  | k + 1, S', e => by
    rw [loopF] at e
    match e1 : loopF V nx t S k with
    | none => rw [e1] at e; cases e
    | some (.cyc l) => rw [e1] at e; cases e
    | some (.ok S1) =>
      obtain ⟨i1, p1⟩ := loopF_keeps hV h k S1 e1
      rw [e1, stepF] at e
      by_cases hb : nx k t = true
      · rw [if_pos hb] at e
        match e2 : V k S1 with
        | none => rw [e2] at e; cases e
        | some (.cyc l) => rw [e2] at e; cases e
        | some (.ok S2) =>
          rw [e2] at e
          obtain ⟨i2, p2⟩ := hV k S1 S2 i1 e2
          obtain rfl : topF t k S2 = S' := by injection e with e; injection e
          exact ⟨(i2.top t k).1, by rw [(i2.top t k).2, p2, p1]⟩
      · rw [if_neg hb] at e
        obtain rfl : S1 = S' := by injection e with e; injection e
        exact ⟨i1, p1⟩
theorem shut_pa (tm : Nat → Int) (t : Nat) (S S1 : Dst) (h : S1.pa = (openF t S).pa) : (shutF tm t S1).pa = S.pa := by
  simp only [shutF, h, openF, List.length_append, List.length_singleton, Nat.add_sub_cancel, List.take_left']
theorem visitF_keeps {nx : Nat → Nat → Bool} {tm : Nat → Int} {n : Nat} : ∀ f t S S', InvF S → visitF nx tm n f t S = some (.ok S') → InvF S' ∧ S'.pa = S.pa
  | 0, _, _, _, _, e => by cases e
  | f + 1, t, S, S', h, e => by
    rw [visitF] at e
    by_cases h1 : S.st.getD t 0 = 1
    · rw [if_pos h1] at e; cases e
    rw [if_neg h1] at e
    by_cases h2 : S.st.getD t 0 = 2
    · rw [if_pos h2] at e
      obtain rfl : S = S' := by injection e with e; injection e
      exact ⟨h, rfl⟩
    rw [if_neg h2] at e
    match e1 : loopF (visitF nx tm n f) nx t (openF t S) n with
    | none => rw [e1] at e; cases e
    | some (.cyc l) => rw [e1] at e; cases e
    | some (.ok S1) =>
      rw [e1] at e
      obtain ⟨i1, p1⟩ := loopF_keeps (fun p S S' => visitF_keeps f p S S') (h.opened t) n S1 e1
      obtain rfl : shutF tm t S1 = S' := by injection e with e; injection e
      have hp := shut_pa tm t S S1 p1
      refine ⟨fun x hx => ?_, hp⟩
      rw [hp]
      simp only [shutF, getD_set] at hx
      by_cases c : t = x ∧ x < S1.st.length
      · rw [if_pos c] at hx; omega
      · rw [if_neg c] at hx
        have hm := i1 x hx
        rw [p1] at hm
        simp only [openF, List.mem_append, List.mem_singleton] at hm
        rcases hm with hm | hm
        · exact hm
        · exfalso
          have ex : x = t := by omega
          exact c ⟨ex.symm, by
            refine Nat.lt_of_not_le fun hle => ?_
            rw [List.getD_eq_getElem?_getD, List.getElem?_eq_none hle] at hx
            simp at hx⟩
def VisitArgs (B t : Nat) : Array Value := #[.int .i64 t, .pointer (some ⟨B + 7, 0, none⟩), .pointer (some ⟨B + 8, 0, none⟩), .pointer (some ⟨B + 2, 0, none⟩), .pointer (some ⟨B + 3, 0, none⟩), .pointer (some ⟨B, 0, none⟩), .pointer (some ⟨B + 9, 0, none⟩), .pointer (some ⟨B + 1, 0, none⟩)]
def VisitOK (w0 : World) (B gu gf g n : Nat) (o : Array Value) (nx : Nat → Nat → Bool) (tm : Nat → Int) (f : Nat) : Prop :=
  ∀ t S r w, Dfs w0 B gu gf g o nx n w S → InvF S → t < n → S.pa.length + f ≤ 100 → visitF nx tm n f t S = some r → Calls Try.prog 78 (VisitArgs B t) w (VisitPost w0 B gu gf g o nx n r)
end Go.Proofs.Ytipkhaicjjeieaa.V
end
