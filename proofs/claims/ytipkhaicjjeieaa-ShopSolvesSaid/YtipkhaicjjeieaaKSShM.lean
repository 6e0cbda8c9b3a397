/- Walks of the shop's functions, thirteenth text: every visit; the search for the longest chains. -/
import Derived.Test.YtipkhaicjjeieaaKSShL
namespace Go.Proofs.Ytipkhaicjjeieaa.V
set_option linter.unusedSimpArgs false
set_option linter.unusedVariables false
open Go.RowKit Go.Proofs.YtipkhaicjjeieaaW.PrintWords Go.Proofs.YtipkhaicjjeieaaW.PrintLast Go.Proofs.YtipkhaicjjeieaaW.PrintMore
theorem visit_ok (w0 : World) (B gu gf g n : Nat) (o : Array Value) (nx : Nat → Nat → Bool) (J : List (List S40)) (hB : B = w0.heap.size) (hs : IsShop w0 g J) (hn : n = (tasksN J J.length).length) (h10 : n ≤ 10) :
    ∀ f, VisitOK w0 B gu gf g n o nx (timeT (tasksN J J.length)) f
  | 0 => fun t S r w hd hinv ht hp hr => by cases hr
  | f + 1 => fun t S r w hd hinv ht hp hr => by
    by_cases h1 : S.st.getD t 0 = 1
    · rw [visitF, if_pos h1] at hr
      obtain rfl := Option.some.inj hr
      exact visit_cyc w0 B gu gf g n o nx t S w hd ht (by omega) h1 (indexN_mem (hinv t h1))
    · by_cases h2 : S.st.getD t 0 = 2
      · rw [visitF, if_neg h1, if_pos h2] at hr
        obtain rfl := Option.some.inj hr
        exact visit_done w0 B gu gf g n o nx t S w hd ht h2
      · exact visit_open w0 B gu gf g n o nx J hB hs hn h10 f (visit_ok w0 B gu gf g n o nx J hB hs hn h10 f) t S r w hd hinv ht (by omega) h1 h2 hr
end Go.Proofs.Ytipkhaicjjeieaa.V
