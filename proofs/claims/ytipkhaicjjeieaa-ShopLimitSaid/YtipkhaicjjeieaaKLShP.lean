/- Walks of the shop's functions, sixteenth text: the closure that recovers. -/
import Derived.Test.YtipkhaicjjeieaaKLShO
namespace Go.Proofs.Ytipkhaicjjeieaa.V
set_option linter.unusedSimpArgs false
set_option linter.unusedVariables false
open Go.RowKit Go.Proofs.YtipkhaicjjeieaaW.PrintWords Go.Proofs.YtipkhaicjjeieaaW.PrintLast Go.Proofs.YtipkhaicjjeieaaW.PrintMore
theorem catch_idle (p : Addr) (w : World) :
    CallsD Try.prog 72 #[.pointer (some p)] .returning w fun e u' w' => e = .returned (.tuple #[]) ∧ u' = .returning ∧ w' = w := by
  refine callsD_of_wpS Try.func72 rfl fun c₀ cs hu => ?_
  apply wpS_seq
  apply wpS_region
  simp [wpOpsS, go_sem, recoverD, hu, Try.ntmps72, Exit.thenS]
  refine wpS_of_wp ?_
  go_wp2
  exact ⟨rfl, .returning, by cases c₀; simp_all, .tuple #[], results_none rfl _ _ _, rfl, rfl, rfl⟩
theorem run_assert128 (w : World) (v : Value) (xt : TypeId) : (Instr.typeAssert (.iface 128 v) xt 128 true).run Try.prog w = .ok (.tuple #[v, .bool true]) w := by
  simp [Instr.typeAssert, run_underlying Try.underlying128]
attribute [local go_sem] run_assert128
set_option maxHeartbeats 1000000 in
set_option maxRecDepth 100000 in
theorem catch_round (g : Nat) (A : Option Addr) (c : Nat) (l : List Int) (older : List PanicEntry) (w0 w : World) (cs : Array Value) (hs : cs.size = 5) (hl : l.length ≤ 1000) (hg0 : w0.heap.size ≤ g) (hb : Below w0.heap.size w0 w) (hg : w.heap[g]? = some (.cells cs 118 (0, 0))) (hr : Kd.R (Kd.int .i64) 3 w w0.heap.size (fun k => k ≠ g) (.slice A l.length c) l) :
    CallsD Try.prog 72 #[.pointer (some ⟨g, 0, none⟩)] (.panicking ({ v := .iface 128 (.agg #[.slice A l.length c]), recovered := false } :: older)) w fun e u' w' => e = .returned (.tuple #[]) ∧ u' = .panicking ({ v := .iface 128 (.agg #[.slice A l.length c]), recovered := true } :: older) ∧
      w'.heap[g]? = some (.cells #[.slice none 0 0, .slice none 0 0, .slice none 0 0, .slice A l.length c, .int .i64 0] 118 (0, 0)) ∧ Below w0.heap.size w0 w' ∧ Kd.R (Kd.int .i64) 3 w' w0.heap.size (fun k => k ≠ g) (.slice A l.length c) l.reverse := by
  refine callsD_of_wpS Try.func72 rfl fun c₀ cs' hu => ?_
  apply wpS_seq
  apply wpS_region
  simp [wpOpsS, go_sem, recoverD, hu, Try.ntmps72, Exit.thenS]
  have HI := Aside0.mk (show (Try.prog.info? 118).map (·.size) = some 5 by kernel_rfl)
  have HS := Aside0.mk hs
  have hlt := blk_lt hg
  have hown : some g ≠ (Value.slice A l.length c).ownBlock := fun he => hr.1 g he.symm rfl
  have hown2 : some w.heap.size ≠ (Value.slice A l.length c).ownBlock := fun he => by have := own_lt hr _ he.symm; omega
  have hrev := slices_Reverse_int_int.calls (l.length + 1) (fun k => some k = (Value.slice A l.length c).ownBlock) (.slice A l.length c) l l.reverse w0 (w.alloc (Obj.cells #[.slice A l.length c] 128)) (below_alloc hb _) (Kd.R_below (Kd.R_tight rfl hr) (below_alloc (Below.refl _ _) _)) (reverse_f l hl)
  have HREV := Aside0.mk hrev
  have HG := Aside0.mk (blk_alloc hg (Obj.cells #[.slice A l.length c] 128))
  have HN := Aside0.mk (blk_new w (Obj.cells #[.slice A l.length c] 128))
  have HOWN := Aside0.mk (And.intro hown hown2)
  clear hg hr hb hown hown2 hrev
  have hact : (#[Value.pointer (some ⟨g, 0, none⟩)] ++ (Array.replicate 15 undef).setIfInBounds 3 (Value.iface 128 (.agg #[.slice A l.length c])) : Array Value) = #[.pointer (some ⟨g, 0, none⟩), undef, undef, undef, .iface 128 (.agg #[.slice A l.length c]), undef, undef, undef, undef, undef, undef, undef, undef, undef, undef, undef] := rfl
  rw [hact]
  clear hact
  refine wpS_of_wp ?_
  go_wp2_with (first
    | ((with_reducible refine HREV.out.mono ?_); rintro e w1 ⟨rfl, hr1, hb1, hk1⟩; have HR1 := Aside0.mk hr1; have HB1 := Aside0.mk hb1; have HG1 := Aside0.mk (blk_kept HG.out hk1 HOWN.out.1); have q1 := (blk_cell (blk_kept HN.out hk1 HOWN.out.2) 0).trans rfl; clear hr1 hb1 hk1)
    | (refine wpList_store_row rfl 118 (.tmp 0) (.tmp 15) rfl g #[.slice none 0 0, .slice none 0 0, .slice none 0 0, .slice A l.length c, .int .i64 0] rfl rfl 118 cs ?hg1 HI.out HS.out ?h6 ?_; (case hg1 => exact HG1.out); (case h6 => simp [Value.oneCell'])))
  have hne : ∀ k, some k = (Value.slice A l.length c).ownBlock → k ≠ g := fun k hk e => HOWN.out.1 (e ▸ hk)
  exact ⟨rfl, .panicking ({ v := .iface 128 (.agg #[.slice A l.length c]), recovered := true } :: older), rfl, .tuple #[], results_none rfl _ _ _, rfl, rfl, setRow_heap _ _ _ _ _ _ HG1.out, below_setRow HB1.out hg0 _, Kd.R_mono (Kd.R_move (Kd.R_tight rfl HR1.out) (fun k hk => setRow_other _ _ _ _ (hne k hk))) hne⟩
end Go.Proofs.Ytipkhaicjjeieaa.V
