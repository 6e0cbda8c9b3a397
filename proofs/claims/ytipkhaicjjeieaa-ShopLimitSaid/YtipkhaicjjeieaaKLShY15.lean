/- Walks of the shop's functions: a region of the search's round (15): is a task's job too long already? -/
import Derived.Test.YtipkhaicjjeieaaKLShY
namespace Go.Proofs.Ytipkhaicjjeieaa.V
set_option linter.unusedSimpArgs false
set_option linter.unusedVariables false
open Go.RowKit Go.Proofs.YtipkhaicjjeieaaW.PrintWords Go.Proofs.YtipkhaicjjeieaaW.PrintLast Go.Proofs.YtipkhaicjjeieaaW.PrintMore
theorem off_step {P : Program} {ops : Array Oper} {Q : Exit → Act → World → Prop} {a : Act} {w : World} {rest : List Oper} {o : Oper} (hw : Region.wanted o (yielded ops a.tmps) = false) (h : wpList P ops Q rest (a.put o.dst undef) w) : wpList P ops Q (o :: rest) a w :=
  wpList_step fun K hK => by
    rw [if_neg (by rw [hw]; decide)]
    exact hK _ _ h
set_option maxHeartbeats 400000 in
set_option maxRecDepth 100000 in
theorem go_r15n {Q : Exit → Act → World → Prop} (a : Act) (W : World) (gs left nj j : Nat) (en : Int) (v7 v8 v9 v12 v13 : Value) (T : Ta a gs left en nj j (.int .i64 (j : Int)) v7 v8 v9 v12 v13)
    (c8 : W.cell? ⟨gs, 8, none⟩ = some (.slice none 0 0))
    (hQ : ∀ a', Ta a' gs left en nj j (.int .i64 (j : Int)) v7 v8 v9 v12 v13 → a'.tmps[175]? = some (.bool false) → Q .normal a' W) : (cR Try.f53 15).wp Try.prog Q a W := by
  conv => arg 2; whnf
  obtain ⟨sz, df, e0, e1, e2, e68, e69, e6, e7, e8, e9, e12, e13⟩ := T
  refine wp_region_list ?_
  iterate 6 (refine wpList_step fun K hK => ?_; go_simp; (try (refine hK _ _ ?_; clear hK K)))
  iterate 6
    with_reducible refine off_step ?hw ?_
    (case hw => simp [Region.wanted, yielded, sz])
    (try simp only [Act.put])
  with_reducible refine wpList_step fun K hK => ?_
  go_simp
  with_reducible refine hK _ _ ?_
  with_reducible refine wpList_nil ?_
  with_reducible refine hQ _ ?_ ?_
  · exact ⟨by simp [sz], by simp [df], by simp [sz, e0], by simp [sz, e1], by simp [sz, e2], by simp [sz, e68], by simp [sz, e69], by simp [sz, e6], by simp [sz, e7], by simp [sz, e8], by simp [sz, e9], by simp [sz, e12], by simp [sz, e13]⟩
  · simp [sz]
set_option maxHeartbeats 400000 in
set_option maxRecDepth 100000 in
theorem go_r15s {Q : Exit → Act → World → Prop} (a : Act) (W : World) (gs left nj j : Nat) (ad : Addr) (mb cb : Nat) (en res lst : Int) (v7 v8 v12 v13 : Value) (T : Ta a gs left en nj j (.int .i64 (j : Int)) v7 v8 (.int .i64 res) v12 v13)
    (c8 : W.cell? ⟨gs, 8, none⟩ = some (.slice (some ad) mb cb)) (c9 : W.cell? ⟨gs, 9, none⟩ = some (.int .i64 lst))
    (hQ : ∀ a', Ta a' gs left en nj j (.int .i64 (j : Int)) v7 v8 (.int .i64 res) v12 v13 → a'.tmps[175]? = some (.bool (decide (lst < res))) → Q .normal a' W) : (cR Try.f53 15).wp Try.prog Q a W := by
  conv => arg 2; whnf
  obtain ⟨sz, df, e0, e1, e2, e68, e69, e6, e7, e8, e9, e12, e13⟩ := T
  refine wp_region_list ?_
  iterate 6 (refine wpList_step fun K hK => ?_; go_simp; (try (refine hK _ _ ?_; clear hK K)))
  iterate 6
    with_reducible refine BigFrame.wpList_want ?hw (fun K hK => ?_)
    (case hw => simp [Region.wanted, yielded, sz])
    go_simp
    with_reducible refine hK _ _ ?_
    clear hK K
  with_reducible refine wpList_step fun K hK => ?_
  go_simp
  with_reducible refine hK _ _ ?_
  with_reducible refine wpList_nil ?_
  with_reducible refine hQ _ ?_ ?_
  · exact ⟨by simp [sz], by simp [df], by simp [sz, e0], by simp [sz, e1], by simp [sz, e2], by simp [sz, e68], by simp [sz, e69], by simp [sz, e6], by simp [sz, e7], by simp [sz, e8], by simp [sz, e9], by simp [sz, e12], by simp [sz, e13]⟩
  · simp [sz]
end Go.Proofs.Ytipkhaicjjeieaa.V
