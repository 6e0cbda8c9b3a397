/- Small aids for the walks of the line's functions: a call of a function value whose function and captured values are known; a slice held against nil. No conditions beyond each lemma's own. -/
import Derived.Test.YthjmfbmffchicaaProg
import Derived.WalkSpells
import Derived.Test.YthjmfbmffchicaaKRWWords
import Derived.Test.YthjmfbmffchicaaKRWLast
import Derived.Test.YthjmfbmffchicaaKRWMore
namespace Go.Proofs.YthjmfbmffchicaaW.PrintLast
variable {P : Program} {ops : Array Oper} {Q : Exit → Act → World → Prop}
theorem goesT_ {oi : Oper} {N : Option Tmp} {a : Act} {w : World} {K : Act → World → Prop} {f : FuncId} {fn : Func} {t : Tmp} {cap : Array Value} {as_ : Array Operand} {ts : Array TypeId} (hf : P.funcs[f]? = some fn) (hname : (fn.name == "runtime.NumGoroutine") = false) (hb : fn.body.isSome = true) (args : Array Value)
    (hw : Region.wanted oi (yielded ops a.tmps) = true) (hN : oi.dst = N) (hop : oi.op = .call { callee := .value (.tmp t), args := as_, argTypes := ts }) (ht : a.eval (.tmp t) = .func (.func f) #[] cap) (hargs : as_.map a.eval = args)
    (h : Calls P f (args ++ cap) w fun e w' => ∃ v, e = .returned v ∧ K (a.put N v) w') : if Region.wanted oi (yielded ops a.tmps) = true then Oper.wp P oi a w K Q else K (a.put N undef) w := by
  refine call_ f (args ++ cap) hw hN ?_ h
  have he := enters_ hf hname hb (args ++ cap) w
  unfold execOp
  simp only [hop, resolve, ht, hargs]
  simp [Deferred.ofValue, invoke, he]
end Go.Proofs.YthjmfbmffchicaaW.PrintLast
namespace Go.Proofs.YthjmfbmffchicaaW.PrintWords
open Go.RowKit
theorem cell_alloc_old (w : World) (b : Nat) (h : b < w.heap.size) (o : Obj) (i : Nat) : (w.alloc o).cell? ⟨b, i, none⟩ = w.cell? ⟨b, i, none⟩ :=
  (below_alloc (Below.refl w.heap.size w) o).cell (p := ⟨b, i, none⟩) h
theorem cell_alloc_old2 (w : World) (b : Nat) (h : b < w.heap.size) (o o2 : Obj) (i : Nat) : ((w.alloc o).alloc o2).cell? ⟨b, i, none⟩ = w.cell? ⟨b, i, none⟩ :=
  (below_alloc (below_alloc (Below.refl w.heap.size w) o) o2).cell (p := ⟨b, i, none⟩) h
end Go.Proofs.YthjmfbmffchicaaW.PrintWords
