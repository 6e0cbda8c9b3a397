/- Walks of the shop's functions, ninth text: the search for the longest chains, as a function of its lists; what its blocks hold. -/
import Derived.Test.YtipkhaicjjeieaaKLShH
namespace Go.Proofs.Ytipkhaicjjeieaa.V
set_option linter.unusedSimpArgs false
set_option linter.unusedVariables false
open Go.RowKit Go.Proofs.YtipkhaicjjeieaaW.PrintWords Go.Proofs.YtipkhaicjjeieaaW.PrintLast Go.Proofs.YtipkhaicjjeieaaW.PrintMore
structure Dst where
  st : List Int
  su : List Int
  fr : List Int
  pa : List Int
inductive Dre where
  | ok (S : Dst)
  | cyc (l : List Int)
def topF (t p : Nat) (S : Dst) : Dst := if S.su.getD p 0 > S.su.getD t 0 then { S with su := S.su.set t (S.su.getD p 0), fr := S.fr.set t p } else S
def stepF (V : Nat → Dst → Option Dre) (nx : Nat → Nat → Bool) (t p : Nat) : Option Dre → Option Dre
  | some (.ok S) => if nx p t = true then (match V p S with
    | some (.ok S') => some (.ok (topF t p S'))
    | r => r) else some (.ok S)
  | r => r
def loopF (V : Nat → Dst → Option Dre) (nx : Nat → Nat → Bool) (t : Nat) (S : Dst) : Nat → Option Dre
  | 0 => some (.ok S)
  | k + 1 => stepF V nx t k (loopF V nx t S k)
def openF (t : Nat) (S : Dst) : Dst := { st := S.st.set t 1, su := S.su, fr := S.fr.set t (-1), pa := S.pa ++ [(t : Int)] }
def shutF (tm : Nat → Int) (t : Nat) (S : Dst) : Dst := { st := S.st.set t 2, su := S.su.set t (wrap64 (S.su.getD t 0 + tm t)), fr := S.fr, pa := S.pa.take (S.pa.length - 1) }
def visitF (nx : Nat → Nat → Bool) (tm : Nat → Int) (n : Nat) : Nat → Nat → Dst → Option Dre
  | 0, _, _ => none
  | f + 1, t, S =>
    if S.st.getD t 0 = 1 then some (.cyc (S.pa.drop (indexN S.pa t S.pa.length).toNat ++ [(t : Int)]))
    else if S.st.getD t 0 = 2 then some (.ok S)
    else match loopF (visitF nx tm n f) nx t (openF t S) n with
      | some (.ok S') => some (.ok (shutF tm t S'))
      | r => r
def allF (nx : Nat → Nat → Bool) (tm : Nat → Int) (n f : Nat) : Nat → Option Dre
  | 0 => some (.ok ⟨List.replicate n 0, List.replicate n 0, List.replicate n 0, []⟩)
  | k + 1 => match allF nx tm n f k with
    | some (.ok S) => visitF nx tm n f k S
    | r => r
theorem loopF_stay {V : Nat → Dst → Option Dre} {nx : Nat → Nat → Bool} {t : Nat} {S : Dst} {k : Nat} {r : Option Dre} (h : loopF V nx t S k = r) (hr : ∀ S', r ≠ some (.ok S')) : ∀ d, loopF V nx t S (k + d) = r
  | 0 => h
  | d + 1 => by
    have e : k + (d + 1) = (k + d) + 1 := by omega
    rw [e, loopF, loopF_stay h hr d]
    match r, hr with
    | none, _ => rfl
    | some (.cyc l), _ => rfl
    | some (.ok S'), hr => exact absurd rfl (hr S')
def rowI (l : List Int) : Array Value := (l.map (Value.int .i64)).toArray
theorem rowI_get (l : List Int) (i : Nat) (h : i < l.length) : (rowI l)[i]? = some (.int .i64 (l.getD i 0)) := by
  simp [rowI, h]
theorem rowI_set (l : List Int) (i : Nat) (x : Int) : (rowI l).setIfInBounds i (.int .i64 x) = rowI (l.set i x) := by
  simp [rowI, List.map_set]
structure Dfs (w0 : World) (B gu gf g : Nat) (o : Array Value) (nx : Nat → Nat → Bool) (n : Nat) (w : World) (S : Dst) : Prop where
  ne : gu ≠ gf ∧ B + 4 ≤ gu ∧ gu ≤ B + 5 ∧ B + 4 ≤ gf ∧ gf ≤ B + 5
  sz : B + 10 ≤ w.heap.size
  below : Below B w0 w
  lens : S.st.length = n ∧ S.su.length = n ∧ S.fr.length = n
  ord : IsOrd o g nx
  bo : w.heap[B]? = some (.cells o 77 (0, 0))
  pu : w.heap[B + 1]? = some (.cells #[.slice (some ⟨gu, 0, none⟩) n n] 26 (0, 0))
  pf : w.heap[B + 2]? = some (.cells #[.slice (some ⟨gf, 0, none⟩) n n] 26 (0, 0))
  pn : w.heap[B + 3]? = some (.cells #[.int .i64 n] 3 (0, 0))
  ps : w.heap[B + 7]? = some (.cells #[.slice (some ⟨B + 6, 0, none⟩) n n] 26 (0, 0))
  pv : w.heap[B + 9]? = some (.cells #[.func (.func 78) #[] #[.pointer (some ⟨B + 7, 0, none⟩), .pointer (some ⟨B + 8, 0, none⟩), .pointer (some ⟨B + 2, 0, none⟩), .pointer (some ⟨B + 3, 0, none⟩), .pointer (some ⟨B, 0, none⟩), .pointer (some ⟨B + 9, 0, none⟩), .pointer (some ⟨B + 1, 0, none⟩)]] 132 (0, 0))
  ru : w.heap[gu]? = some (.cells (rowI S.su) 3 (0, 0))
  rf : w.heap[gf]? = some (.cells (rowI S.fr) 3 (0, 0))
  rs : w.heap[B + 6]? = some (.cells (rowI S.st) 3 (0, 0))
  pa : ∃ v, w.heap[B + 8]? = some (.cells #[v] 26 (0, 0)) ∧ Kd.R (Kd.int .i64) 3 w B (fun k => B + 10 ≤ k) v S.pa
theorem Dfs.setSt {w0 w : World} {B gu gf g n : Nat} {o : Array Value} {nx : Nat → Nat → Bool} {S : Dst} (h : Dfs w0 B gu gf g o nx n w S) (t : Nat) (x : Int) : Dfs w0 B gu gf g o nx n (w.setCell ⟨B + 6, t, none⟩ (.int .i64 x)) { S with st := S.st.set t x } := by
  obtain ⟨h1, h2, h3, h4, h5, bo, pu, pf, pn, ps, pv, ru, rf, rs, v, pp, pr⟩ := h
  refine ⟨h1, by simpa using h2, h3.setCell (by simp) _, by simpa using h4, h5, blk_far bo (by simp) _, blk_far pu (by simp) _, blk_far pf (by simp) _, blk_far pn (by simp) _, blk_far ps (by simp) _, blk_far pv (by simp) _, blk_far ru (by simp; omega) _, blk_far rf (by simp; omega) _, ?_, v, blk_far pp (by simp) _, Kd.R_far pr (fun k hk => by simp; omega) _⟩
  rw [← rowI_set]
  exact blk_set rs _ _
theorem Dfs.setSu {w0 w : World} {B gu gf g n : Nat} {o : Array Value} {nx : Nat → Nat → Bool} {S : Dst} (h : Dfs w0 B gu gf g o nx n w S) (t : Nat) (x : Int) : Dfs w0 B gu gf g o nx n (w.setCell ⟨gu, t, none⟩ (.int .i64 x)) { S with su := S.su.set t x } := by
  obtain ⟨h1, h2, h3, h4, h5, bo, pu, pf, pn, ps, pv, ru, rf, rs, v, pp, pr⟩ := h
  refine ⟨h1, by simpa using h2, h3.setCell (by simp; omega) _, by simpa using h4, h5, blk_far bo (by simp; omega) _, blk_far pu (by simp; omega) _, blk_far pf (by simp; omega) _, blk_far pn (by simp; omega) _, blk_far ps (by simp; omega) _, blk_far pv (by simp; omega) _, ?_, blk_far rf (by simp; omega) _, blk_far rs (by simp; omega) _, v, blk_far pp (by simp; omega) _, Kd.R_far pr (fun k hk => by simp; omega) _⟩
  rw [← rowI_set]
  exact blk_set ru _ _
theorem Dfs.setFr {w0 w : World} {B gu gf g n : Nat} {o : Array Value} {nx : Nat → Nat → Bool} {S : Dst} (h : Dfs w0 B gu gf g o nx n w S) (t : Nat) (x : Int) : Dfs w0 B gu gf g o nx n (w.setCell ⟨gf, t, none⟩ (.int .i64 x)) { S with fr := S.fr.set t x } := by
  obtain ⟨h1, h2, h3, h4, h5, bo, pu, pf, pn, ps, pv, ru, rf, rs, v, pp, pr⟩ := h
  refine ⟨h1, by simpa using h2, h3.setCell (by simp; omega) _, by simpa using h4, h5, blk_far bo (by simp; omega) _, blk_far pu (by simp; omega) _, blk_far pf (by simp; omega) _, blk_far pn (by simp; omega) _, blk_far ps (by simp; omega) _, blk_far pv (by simp; omega) _, blk_far ru (by simp; omega) _, ?_, blk_far rs (by simp; omega) _, v, blk_far pp (by simp; omega) _, Kd.R_far pr (fun k hk => by simp; omega) _⟩
  rw [← rowI_set]
  exact blk_set rf _ _
theorem Dfs.setPa {w0 w : World} {B gu gf g n : Nat} {o : Array Value} {nx : Nat → Nat → Bool} {S : Dst} (h : Dfs w0 B gu gf g o nx n w S) {v : Value} {l : List Int} (hv : Kd.R (Kd.int .i64) 3 w B (fun k => B + 10 ≤ k) v l) : Dfs w0 B gu gf g o nx n (w.setCell ⟨B + 8, 0, none⟩ v) { S with pa := l } := by
  obtain ⟨h1, h2, h3, h4, h5, bo, pu, pf, pn, ps, pv, ru, rf, rs, u, pp, pr⟩ := h
  refine ⟨h1, by simpa using h2, h3.setCell (by simp) _, h4, h5, blk_far bo (by simp) _, blk_far pu (by simp) _, blk_far pf (by simp) _, blk_far pn (by simp) _, blk_far ps (by simp) _, blk_far pv (by simp) _, blk_far ru (by simp; omega) _, blk_far rf (by simp; omega) _, blk_far rs (by simp) _, v, ?_, Kd.R_far hv (fun k hk => by simp; omega) _⟩
  exact blk_put pp _ _ rfl
theorem Dfs.drew {w0 w : World} {B gu gf g n : Nat} {o : Array Value} {nx : Nat → Nat → Bool} {S : Dst} (h : Dfs w0 B gu gf g o nx n w S) : Dfs w0 B gu gf g o nx n w.drew S := by
  obtain ⟨h1, h2, h3, h4, h5, bo, pu, pf, pn, ps, pv, ru, rf, rs, v, pp, pr⟩ := h
  exact ⟨h1, h2, below_drew1 h3, h4, h5, bo, pu, pf, pn, ps, pv, ru, rf, rs, v, pp, Kd.R_drew pr⟩
theorem Dfs.grown {w0 w w1 : World} {B gu gf g n : Nat} {o : Array Value} {nx : Nat → Nat → Bool} {S : Dst} (h : Dfs w0 B gu gf g o nx n w S) {row : Option Nat} (hg : w.grownBy w1 row) (hrow : ∀ k, row = some k → B + 10 ≤ k) (hb : Below B w0 w1) (hs : w.heap.size ≤ w1.heap.size) {u v : Value} {l : List Int} (hp : w.heap[B + 8]? = some (.cells #[u] 26 (0, 0))) (hv : Kd.R (Kd.int .i64) 3 w1 B (fun k => B + 10 ≤ k) v l) : Dfs w0 B gu gf g o nx n (w1.setCell ⟨B + 8, 0, none⟩ v) { S with pa := l } := by
  obtain ⟨h1, h2, h3, h4, h5, bo, pu, pf, pn, ps, pv, ru, rf, rs, u', pp, pr⟩ := h
  have hne : ∀ k, k < B + 10 → some k ≠ row := fun k hk he => by have := hrow k he.symm; omega
  refine ⟨h1, by simp; omega, hb.setCell (by simp) _, h4, h5, blk_far (blk_grown bo hg (hne _ (by omega))) (by simp) _, blk_far (blk_grown pu hg (hne _ (by omega))) (by simp) _, blk_far (blk_grown pf hg (hne _ (by omega))) (by simp) _, blk_far (blk_grown pn hg (hne _ (by omega))) (by simp) _, blk_far (blk_grown ps hg (hne _ (by omega))) (by simp) _, blk_far (blk_grown pv hg (hne _ (by omega))) (by simp) _, blk_far (blk_grown ru hg (hne _ (by omega))) (by simp; omega) _, blk_far (blk_grown rf hg (hne _ (by omega))) (by simp; omega) _, blk_far (blk_grown rs hg (hne _ (by omega))) (by simp) _, v, ?_, Kd.R_far hv (fun k hk => by simp; omega) _⟩
  exact blk_put (blk_grown pp hg (hne _ (by omega))) _ _ rfl
end Go.Proofs.Ytipkhaicjjeieaa.V
