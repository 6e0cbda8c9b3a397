/- Walks of the shop's functions: the search's round behind the sum of the rest. -/
import Derived.Test.YtipkhaicjjeieaaKLShYT
namespace Go.Proofs.Ytipkhaicjjeieaa.V
set_option linter.unusedSimpArgs false
set_option linter.unusedVariables false
open Go.RowKit Go.Proofs.YtipkhaicjjeieaaW.PrintWords Go.Proofs.YtipkhaicjjeieaaW.PrintLast Go.Proofs.YtipkhaicjjeieaaW.PrintMore
set_option maxHeartbeats 1000000 in
set_option maxRecDepth 100000 in
theorem go_mid {Q : Exit → Act → World → Prop} (hp : QuietP Q) (w0 W0 : World) (a : Act) (W : World) (gs gn gj gt g bx left nj n j p mc k : Nat) (en at_ tm x2 x3 res : Int) (v12 v13 : Value)
    (T : Ta a gs left en nj j (.int .i64 (j : Int)) (.pointer (some ⟨bx, 0, none⟩)) (.int .i64 at_) (.int .i64 res) v12 v13) (S S1 S2 : Sst) (hS : Srch w0 gs gn gj gt g nj n W S) (hKW : Kept W0 W (fun k => k = gs ∨ k = gn ∨ k = gj ∨ k = gt))
    (hbl : ∀ b, S.best = some b → 0 < b.length)
    (hbx : W.heap[bx]? = some (.cells #[.int .i64 (mc : Int), .int .i64 tm, .int .i64 (p : Int), .int .i64 x2, .int .i64 x3] 89 (0, 0))) (bxs : bx ≠ gs ∧ bx ≠ gn ∧ bx ≠ gj ∧ bx ≠ gt)
    (hS1 : S1 = { S with st := S.st.set p at_, je := S.je.set j (wrap64 (at_ + tm)), fre := S.fre.set mc (wrap64 (at_ + tm)), nx := S.nx.set j (S.nx.getD j 0 + 1) })
    (hcall : ∀ W', Srch w0 gs gn gj gt g nj n W' S1 → Calls Try.prog 53 #[.pointer (some ⟨gs, 0, none⟩), .int .i64 (left : Int), .int .i64 (mx en (wrap64 (at_ + tm)))] W' (GoPost w0 gs gn gj gt g nj n S2 W'))
    (hk : S.nx.getD j 0 = (k : Int)) (hk4 : k ≤ 4) (hk2 : S2.nx.getD j 0 = (k : Int) + 1) (hl : left ≤ 10) (hj : j < nj) (hpn : p < n) (hm : mc < 4)
    (hno : (S.best.isSome = true ∧ res > S.least) → ∀ a', (∃ v6 v7 v8 v9 v12 v13, Ta a' gs left en nj j v6 v7 v8 v9 v12 v13) → Q (.exit 1) a' W)
    (hQ : ¬ (S.best.isSome = true ∧ res > S.least) → ∀ a' W', (∃ v6 v7 v8 v9 v12 v13, Ta a' gs left en nj j v6 v7 v8 v9 v12 v13) → Srch w0 gs gn gj gt g nj n W' (takeF S S2 j) → Kept W0 W' (fun k => k = gs ∨ k = gn ∨ k = gj ∨ k = gt) → Q .normal a' W') :
    (((cR Try.f53 15).seq (Code.cond (.tmp 175) (Code.exit 1) .skip)).seq ((cR Try.f53 16).seq ((cR Try.f53 17).seq ((cR Try.f53 18).seq ((cR Try.f53 19).seq ((cR Try.f53 20).seq (cR Try.f53 21))))))).wp Try.prog Q a W := by
  obtain ⟨vb, b1, b2⟩ := id hS.bs
  cases hb : S.best with
  | none =>
    rw [hb] at b2
    obtain rfl : vb = .slice none 0 0 := b2
    refine wp_seq ?_
    refine wp_seq ?_
    refine go_r15n a W gs left nj j en _ _ _ v12 v13 T ((blk_cell b1 8).trans rfl) ?_
    intro a' T' e175
    refine wp_cond (t := false) (ev_of e175) ?_
    refine wp_skip ?_
    exact go_tail hp w0 W0 a' W gs gn gj gt g bx left nj n j p mc k en at_ tm x2 x3 _ v12 v13 T' S S1 S2 hS hKW hbx bxs hS1 hcall hk hk4 hk2 hl hj hpn hm (hQ (by rw [hb]; simp))
  | some b =>
    rw [hb] at b2
    obtain ⟨gb, cap, rfl, _, _, _⟩ := Kd.R_form b2 (hbl b hb)
    refine wp_seq ?_
    refine wp_seq ?_
    refine go_r15s a W gs left nj j ⟨gb, 0, none⟩ _ cap en res S.least _ _ v12 v13 T ((blk_cell b1 8).trans rfl) ((blk_cell b1 9).trans rfl) ?_
    intro a' T' e175
    by_cases hg : S.least < res
    · rw [decide_eq_true hg] at e175
      refine wp_cond (t := true) (ev_of e175) ?_
      refine wp_exit ?_
      exact hno ⟨by rw [hb]; rfl, hg⟩ a' ⟨_, _, _, _, _, _, T'⟩
    · rw [decide_eq_false hg] at e175
      refine wp_cond (t := false) (ev_of e175) ?_
      refine wp_skip ?_
      exact go_tail hp w0 W0 a' W gs gn gj gt g bx left nj n j p mc k en at_ tm x2 x3 _ v12 v13 T' S S1 S2 hS hKW hbx bxs hS1 hcall hk hk4 hk2 hl hj hpn hm (hQ (fun h => hg h.2))
end Go.Proofs.Ytipkhaicjjeieaa.V
