/- Walks of the shop's functions: a region of the search's round (15): is a task's job too long already? -/
import Derived.Test.YtipkhaicjjeieaaKLShY
namespace Go.Proofs.Ytipkhaicjjeieaa.V
set_option linter.unusedSimpArgs false
set_option linter.unusedVariables false
open Go.RowKit Go.Proofs.YtipkhaicjjeieaaW.PrintWords Go.Proofs.YtipkhaicjjeieaaW.PrintLast Go.Proofs.YtipkhaicjjeieaaW.PrintMore
theorem off_step {P : Program} {ops : Array Oper} {Q : Exit → Act → World → Prop} {a : Act} {w : World} {rest : List Oper} {o : Oper} (hw : Region.wanted o (yielded ops a.tmps) = false) (h : wpList P ops Q rest (a.put o.dst undef) w) : wpList P ops Q (o :: rest) a w :=
  wpList_step fun K hK => by
    rw [if_neg (by rw [hw]; decide)]
    exact hK _ _ h
set_option maxHeartbeats 400000 in
set_option maxRecDepth 100000 in
theorem go_r15n {Q : Exit → Act → World → Prop} (a : Act) (W : World) (gs left nj j : Nat) (en : Int) (v7 v8 v9 v12 v13 : Value) (T : Ta a gs left en nj j (.int .i64 (j : Int)) v7 v8 v9 v12 v13)
    (c8 : W.cell? ⟨gs, 8, none⟩ = some (.slice none 0 0))
    (hQ : ∀ a', Ta a' gs left en nj j (.int .i64 (j : Int)) v7 v8 v9 v12 v13 → a'.tmps[175]? = some (.bool false) → Q .normal a' W) : (Go.Code.region 15 #[{ dst := some 163, op := Go.Op.move (Go.Operand.tmp 0), type := 104, pos := "shop.go:108", after := #[], guard := none }, { dst := some 164, op := Go.Op.nilCheck (Go.Operand.tmp 163), type := 0, pos := "shop.go:108", after := #[{ on := 0, ground := Go.Ground.data }], guard := none }, { dst := some 165, op := Go.Op.fieldAddr 107 (Go.Operand.tmp 164) 5, type := 0, pos := "shop.go:108", after := #[{ on := 1, ground := Go.Ground.data }], guard := none }, { dst := some 166, op := Go.Op.load 26 (Go.Operand.tmp 165), type := 26, pos := "shop.go:108", after := #[{ on := 2, ground := Go.Ground.data }], guard := none }, { dst := some 167, op := Go.Op.binOp Go.BinOp.neq 26 (Go.Operand.tmp 166) (Go.Operand.const (Go.Value.slice none 0 0)) 26, type := 4, pos := "shop.go:108", after := #[{ on := 3, ground := Go.Ground.data }], guard := none }, { dst := some 168, op := Go.Op.move (Go.Operand.tmp 167), type := 4, pos := "shop.go:108", after := #[{ on := 4, ground := Go.Ground.data }], guard := none }, { dst := some 169, op := Go.Op.move (Go.Operand.tmp 9), type := 3, pos := "shop.go:108", after := #[{ on := 5, ground := Go.Ground.guard }], guard := some (5, true) }, { dst := some 170, op := Go.Op.move (Go.Operand.tmp 0), type := 104, pos := "shop.go:108", after := #[{ on := 5, ground := Go.Ground.guard }], guard := some (5, true) }, { dst := some 171, op := Go.Op.nilCheck (Go.Operand.tmp 170), type := 0, pos := "shop.go:108", after := #[{ on := 7, ground := Go.Ground.data }, { on := 5, ground := Go.Ground.guard }], guard := some (5, true) }, { dst := some 172, op := Go.Op.fieldAddr 107 (Go.Operand.tmp 171) 6, type := 0, pos := "shop.go:108", after := #[{ on := 8, ground := Go.Ground.data }, { on := 5, ground := Go.Ground.guard }], guard := some (5, true) }, { dst := some 173, op := Go.Op.load 3 (Go.Operand.tmp 172), type := 3, pos := "shop.go:108", after := #[{ on := 9, ground := Go.Ground.data }, { on := 5, ground := Go.Ground.guard }], guard := some (5, true) }, { dst := some 174, op := Go.Op.binOp Go.BinOp.gtr 3 (Go.Operand.tmp 169) (Go.Operand.tmp 173) 3, type := 4, pos := "shop.go:108", after := #[{ on := 6, ground := Go.Ground.data }, { on := 10, ground := Go.Ground.data }, { on := 5, ground := Go.Ground.guard }], guard := some (5, true) }, { dst := some 175, op := Go.Op.pick (Go.Operand.tmp 168) (Go.Operand.tmp 174) (Go.Operand.const (Go.Value.bool false)), type := 4, pos := "shop.go:108", after := #[{ on := 5, ground := Go.Ground.data }, { on := 11, ground := Go.Ground.data }], guard := none }] false).wp Try.prog Q a W := by
  obtain ⟨sz, df, e0, e1, e2, e68, e69, e6, e7, e8, e9, e12, e13⟩ := T
  refine wp_region_list ?_
  iterate 6 (refine wpList_step fun K hK => ?_; go_simp; (try (refine hK _ _ ?_; clear hK K)))
  iterate 6
    with_reducible refine off_step ?hw ?_
    (case hw => simp [Region.wanted, yielded, sz])
    (try simp only [Act.put])
  with_reducible refine wpList_step fun K hK => ?_
  go_simp
  with_reducible refine hK _ _ ?_
  with_reducible refine wpList_nil ?_
  with_reducible refine hQ _ ?_ ?_
  · exact ⟨by simp [sz], by simp [df], by simp [sz, e0], by simp [sz, e1], by simp [sz, e2], by simp [sz, e68], by simp [sz, e69], by simp [sz, e6], by simp [sz, e7], by simp [sz, e8], by simp [sz, e9], by simp [sz, e12], by simp [sz, e13]⟩
  · simp [sz]
set_option maxHeartbeats 400000 in
set_option maxRecDepth 100000 in
theorem go_r15s {Q : Exit → Act → World → Prop} (a : Act) (W : World) (gs left nj j : Nat) (ad : Addr) (mb cb : Nat) (en res lst : Int) (v7 v8 v12 v13 : Value) (T : Ta a gs left en nj j (.int .i64 (j : Int)) v7 v8 (.int .i64 res) v12 v13)
    (c8 : W.cell? ⟨gs, 8, none⟩ = some (.slice (some ad) mb cb)) (c9 : W.cell? ⟨gs, 9, none⟩ = some (.int .i64 lst))
    (hQ : ∀ a', Ta a' gs left en nj j (.int .i64 (j : Int)) v7 v8 (.int .i64 res) v12 v13 → a'.tmps[175]? = some (.bool (decide (lst < res))) → Q .normal a' W) : (Go.Code.region 15 #[{ dst := some 163, op := Go.Op.move (Go.Operand.tmp 0), type := 104, pos := "shop.go:108", after := #[], guard := none }, { dst := some 164, op := Go.Op.nilCheck (Go.Operand.tmp 163), type := 0, pos := "shop.go:108", after := #[{ on := 0, ground := Go.Ground.data }], guard := none }, { dst := some 165, op := Go.Op.fieldAddr 107 (Go.Operand.tmp 164) 5, type := 0, pos := "shop.go:108", after := #[{ on := 1, ground := Go.Ground.data }], guard := none }, { dst := some 166, op := Go.Op.load 26 (Go.Operand.tmp 165), type := 26, pos := "shop.go:108", after := #[{ on := 2, ground := Go.Ground.data }], guard := none }, { dst := some 167, op := Go.Op.binOp Go.BinOp.neq 26 (Go.Operand.tmp 166) (Go.Operand.const (Go.Value.slice none 0 0)) 26, type := 4, pos := "shop.go:108", after := #[{ on := 3, ground := Go.Ground.data }], guard := none }, { dst := some 168, op := Go.Op.move (Go.Operand.tmp 167), type := 4, pos := "shop.go:108", after := #[{ on := 4, ground := Go.Ground.data }], guard := none }, { dst := some 169, op := Go.Op.move (Go.Operand.tmp 9), type := 3, pos := "shop.go:108", after := #[{ on := 5, ground := Go.Ground.guard }], guard := some (5, true) }, { dst := some 170, op := Go.Op.move (Go.Operand.tmp 0), type := 104, pos := "shop.go:108", after := #[{ on := 5, ground := Go.Ground.guard }], guard := some (5, true) }, { dst := some 171, op := Go.Op.nilCheck (Go.Operand.tmp 170), type := 0, pos := "shop.go:108", after := #[{ on := 7, ground := Go.Ground.data }, { on := 5, ground := Go.Ground.guard }], guard := some (5, true) }, { dst := some 172, op := Go.Op.fieldAddr 107 (Go.Operand.tmp 171) 6, type := 0, pos := "shop.go:108", after := #[{ on := 8, ground := Go.Ground.data }, { on := 5, ground := Go.Ground.guard }], guard := some (5, true) }, { dst := some 173, op := Go.Op.load 3 (Go.Operand.tmp 172), type := 3, pos := "shop.go:108", after := #[{ on := 9, ground := Go.Ground.data }, { on := 5, ground := Go.Ground.guard }], guard := some (5, true) }, { dst := some 174, op := Go.Op.binOp Go.BinOp.gtr 3 (Go.Operand.tmp 169) (Go.Operand.tmp 173) 3, type := 4, pos := "shop.go:108", after := #[{ on := 6, ground := Go.Ground.data }, { on := 10, ground := Go.Ground.data }, { on := 5, ground := Go.Ground.guard }], guard := some (5, true) }, { dst := some 175, op := Go.Op.pick (Go.Operand.tmp 168) (Go.Operand.tmp 174) (Go.Operand.const (Go.Value.bool false)), type := 4, pos := "shop.go:108", after := #[{ on := 5, ground := Go.Ground.data }, { on := 11, ground := Go.Ground.data }], guard := none }] false).wp Try.prog Q a W := by
  obtain ⟨sz, df, e0, e1, e2, e68, e69, e6, e7, e8, e9, e12, e13⟩ := T
  refine wp_region_list ?_
  iterate 6 (refine wpList_step fun K hK => ?_; go_simp; (try (refine hK _ _ ?_; clear hK K)))
  iterate 6
    with_reducible refine BigFrame.wpList_want ?hw (fun K hK => ?_)
    (case hw => simp [Region.wanted, yielded, sz])
    go_simp
    with_reducible refine hK _ _ ?_
    clear hK K
  with_reducible refine wpList_step fun K hK => ?_
  go_simp
  with_reducible refine hK _ _ ?_
  with_reducible refine wpList_nil ?_
  with_reducible refine hQ _ ?_ ?_
  · exact ⟨by simp [sz], by simp [df], by simp [sz, e0], by simp [sz, e1], by simp [sz, e2], by simp [sz, e68], by simp [sz, e69], by simp [sz, e6], by simp [sz, e7], by simp [sz, e8], by simp [sz, e9], by simp [sz, e12], by simp [sz, e13]⟩
  · simp [sz]
end Go.Proofs.Ytipkhaicjjeieaa.V
