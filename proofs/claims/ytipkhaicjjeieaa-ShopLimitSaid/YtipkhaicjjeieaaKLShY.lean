/- Walks of the shop's functions, twenty-fifth text: words for the search's rounds. -/
import Derived.Test.YtipkhaicjjeieaaKLShX
namespace Go.Proofs.Ytipkhaicjjeieaa.V
set_option linter.unusedSimpArgs false
set_option linter.unusedVariables false
open Go.RowKit Go.Proofs.YtipkhaicjjeieaaW.PrintWords Go.Proofs.YtipkhaicjjeieaaW.PrintLast Go.Proofs.YtipkhaicjjeieaaW.PrintMore
attribute [local go_sem] max2_int min2_int max_two min_two
def fstR : Code → Option Nat
  | .region i _ _ => some i
  | .seq a _ => fstR a
  | _ => none
def regR (r : Nat) : Code → Option Code
  | .region i o d => if i = r then some (.region i o d) else none
  | .seq a b => (regR r a).orElse fun _ => regR r b
  | .cond _ a b => (regR r a).orElse fun _ => regR r b
  | .block _ b => regR r b
  | .loop b => regR r b
  | .scope b => regR r b
  | _ => none
def fromR (r : Nat) : Code → Option Code
  | .region i o d => if i = r then some (.region i o d) else none
  | .seq a b => if fstR a = some r then some (.seq a b) else (fromR r a).orElse fun _ => fromR r b
  | .cond _ a b => (fromR r a).orElse fun _ => fromR r b
  | .block _ b => fromR r b
  | .loop b => fromR r b
  | .scope b => fromR r b
  | _ => none
def cR (f : Func) (r : Nat) : Code := (f.body.bind (regR r)).getD .skip
def cF (f : Func) (r : Nat) : Code := (f.body.bind (fromR r)).getD .skip
def GoOK (w0 : World) (gs gn gj gt g : Nat) (J : List (List S40)) (n left : Nat) : Prop :=
  ∀ (en : Int) (S : Sst) (W : World), left ≤ n → Srch w0 gs gn gj gt g J.length n W S → Gi J S → Calls Try.prog 53 #[.pointer (some ⟨gs, 0, none⟩), .int .i64 (left : Int), .int .i64 en] W (GoPost w0 gs gn gj gt g J.length n (goF J (tasksN J J.length) left en S) W)
theorem info89z : (Try.prog.info? 89).map (·.size) = some 5 := by kernel_rfl
structure Ta (a : Act) (gs left : Nat) (en : Int) (nj j : Nat) (v6 v7 v8 v9 v12 v13 : Value) : Prop where
  sz : a.tmps.size = 259
  df : a.defers = []
  e0 : a.tmps[0]'(by omega) = .pointer (some ⟨gs, 0, none⟩)
  e1 : a.tmps[1]'(by omega) = .int .i64 ((left : Int) + 1)
  e2 : a.tmps[2]'(by omega) = .int .i64 en
  e68 : a.tmps[68]'(by omega) = .int .i64 (nj : Int)
  e69 : a.tmps[69]'(by omega) = .int .i64 (j : Int)
  e6 : a.tmps[6]'(by omega) = v6
  e7 : a.tmps[7]'(by omega) = v7
  e8 : a.tmps[8]'(by omega) = v8
  e9 : a.tmps[9]'(by omega) = v9
  e12 : a.tmps[12]'(by omega) = v12
  e13 : a.tmps[13]'(by omega) = v13
theorem reabs {P : Program} {C : Code} {Q : Exit → Act → World → Prop} {a : Act} {w : World} (T : Act → Prop) (h : T a) (k : ∀ a', T a' → C.wp P Q a' w) : C.wp P Q a w := k a h
theorem reabs2 {F : Act → World → Prop} {a : Act} {w : World} (T : Act → Prop) (h : T a) (k : ∀ a', T a' → F a' w) : F a w := k a h
theorem ev_of {a : Act} {m : Nat} {v : Value} (h : a.tmps[m]? = some v) : a.eval (.tmp m) = v := by
  show a.tmps.getD m undef = v
  rw [Array.getD_eq_getD_getElem?, h]
  rfl
theorem fin_ {gs left : Nat} {en : Int} {nj j : Nat} {a : Act} {Y : Nat → Prop} (h : ∃ v6 v7 v8 v9 v12 v13, Ta a gs left en nj (j + 1) v6 v7 v8 v9 v12 v13) (hj : j + 1 ≤ nj) (hx : Y (j + 1)) : (∃ j', j' ≤ nj ∧ (∃ v6 v7 v8 v9 v12 v13, Ta a gs left en nj j' v6 v7 v8 v9 v12 v13) ∧ Y j') ∧ nj - (intOf (a.tmps.getD 69 undef)).toNat < nj - j := by
  refine ⟨⟨j + 1, hj, h, hx⟩, ?_⟩
  obtain ⟨v6, v7, v8, v9, v12, v13, T⟩ := h
  have sz := T.sz
  have e := T.e69
  have : a.tmps.getD 69 undef = .int .i64 ((j + 1 : Nat) : Int) := by simp [sz, e]
  rw [this]
  simp only [intOf, Int.toNat_natCast]
  omega
theorem row_ {P : Program} {Q : Exit → Act → World → Prop} {ops : Array Oper} {oi : Oper} {a : Act} {w : World} {K : Act → World → Prop} (hw : Region.wanted oi (yielded ops a.tmps) = true) (hN : oi.dst = none) (ty : TypeId) (x y : Operand) (ho : oi.op = .store ty x y) (g : Nat) (cells : Array Value) (hx : a.eval x = .pointer (some ⟨g, 0, none⟩)) (hy : a.eval y = .agg cells)
    (t : TypeId) (old : Array Value) (hg : w.heap[g]? = some (.cells old t (0, 0))) (hi : (P.info? ty).map (·.size) = some cells.size) (hold : old.size = cells.size) (h1 : cells.all (·.oneCell') = true) (h : K a (w.setRow g cells)) :
    if Region.wanted oi (yielded ops a.tmps) = true then Oper.wp P oi a w K Q else K (a.put none undef) w := by
  rw [if_pos hw]
  refine wp_store_row ty x y ho g cells hx hy t old hg hi hold h1 ?_
  rw [hN]
  exact h
def QuietP (Q : Exit → Act → World → Prop) : Prop := ∀ c (a a' : Act) w, a'.defers = a.defers → Q (.panic c) a w → Q (.panic c) a' w
end Go.Proofs.Ytipkhaicjjeieaa.V
