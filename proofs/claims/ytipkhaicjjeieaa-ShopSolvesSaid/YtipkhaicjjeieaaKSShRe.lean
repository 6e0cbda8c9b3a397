/- Walks of the reference's search: the call of itself (13), and the function's ends (2, 15, 16). -/
import Derived.Test.YtipkhaicjjeieaaKSShRc
namespace Go.Proofs.Ytipkhaicjjeieaa.V
set_option linter.unusedSimpArgs false
set_option linter.unusedVariables false
open Go.RowKit Go.Proofs.YtipkhaicjjeieaaW.PrintWords Go.Proofs.YtipkhaicjjeieaaW.PrintLast Go.Proofs.YtipkhaicjjeieaaW.PrintMore
theorem info65z : (Try.prog.info? 65).map (·.size) = some 7 := by kernel_rfl
theorem info67z : (Try.prog.info? 67).map (·.size) = some 2 := by kernel_rfl
set_option maxHeartbeats 1000000 in
set_option maxRecDepth 100000 in
theorem rs_r13 {Q : Exit → Act → World → Prop} (a : Act) (W : World) (A0 : Option Addr) (nj c0 b0 b1 b2 bn : Nat) (wh : Bool) (i : Nat) (v9 v10 v11 : Value) (T : Ts a A0 nj c0 b0 b1 b2 wh i v9 v10 v11 (.pointer (some ⟨bn, 0, none⟩))) (cs : Array Value) (Ab : Option Addr) (m cb : Nat) (sp : Int) (hcs : cs.size = 7)
    (hbn : W.heap[bn]? = some (.cells cs 65 (0, 0))) (hb1 : W.heap[b1]? = some (.cells #[.slice Ab m cb, .int .i64 sp] 67 (0, 0))) (R : Option Addr → Nat → Nat → Int → World → Prop)
    (hc : Calls Try.prog 34 #[.agg cs, .slice A0 nj c0, .agg #[.slice Ab m cb, .int .i64 sp]] W (fun e w' => ∃ A m2 c2 s2, e = .returned (.agg #[.slice A m2 c2, .int .i64 s2]) ∧ Below W.heap.size W w' ∧ R A m2 c2 s2 w'))
    (hQ : ∀ a' w' A m2 c2 s2, Ts a' A0 nj c0 b0 b1 b2 wh i v9 v10 v11 (.pointer (some ⟨bn, 0, none⟩)) → Below W.heap.size W w' → R A m2 c2 s2 w' → Q .normal a' (w'.setRow b1 #[.slice A m2 c2, .int .i64 s2])) : (cR Try.f34 13).wp Try.prog Q a W := by
  conv => arg 2; whnf
  obtain ⟨sz, df, e1, e3, e5, e6, e7, e8, e9, e10, e11, e12⟩ := T
  have HQ := Aside0.mk hQ
  have HC := Aside0.mk hc
  have HN := Aside0.mk hbn
  have H1 := Aside0.mk hb1
  have HCS := Aside0.mk hcs
  clear hQ hc hbn hb1 hcs
  refine wp_region_list ?_
  with_reducible refine wpList_load_row ?hgd 65 (.tmp 12) ?ho bn ?hx 65 cs (0, 0) _ HN.out Try.underlying65 ?hr ?hi ?_
  (case hgd => rfl)
  (case ho => rfl)
  (case hx => simp [Act.eval, e12, sz])
  (case hr => rfl)
  (case hi => rw [HCS.out]; exact info65z)
  (try simp only [Act.put])
  with_reducible refine wpList_step fun K hK => ?_
  go_simp
  with_reducible refine hK _ _ ?_
  clear hK K
  with_reducible refine wpList_load_row ?hgd 67 (.tmp 5) ?ho b1 ?hx 67 #[.slice Ab m cb, .int .i64 sp] (0, 0) _ H1.out Try.underlying67 ?hr ?hi ?_
  (case hgd => rfl)
  (case ho => rfl)
  (case hx => simp [Act.eval, sz, e5])
  (case hr => rfl)
  (case hi => exact info67z)
  (try simp only [Act.put])
  with_reducible refine wpList_step fun K hK => ?_
  with_reducible refine goes_ (f := 34) (fn := Try.f34) (as0 := #[.tmp 113, .tmp 114, .tmp 115]) (ts := #[65, 22, 67]) ?q1 ?q2 ?q3 #[.agg cs, .slice A0 nj c0, .agg #[.slice Ab m cb, .int .i64 sp]] ?q4 ?q5 ?q6 ?q7 ?q8
  (case q1 => exact Try.func34)
  (case q2 => kernel_rfl)
  (case q3 => kernel_rfl)
  (case q4 => rfl)
  (case q5 => rfl)
  (case q6 => rfl)
  (case q7 => simp [Act.eval, sz])
  case q8 =>
  refine HC.out.mono ?_
  rintro e w' ⟨A, m2, c2, s2, rfl, hb, hr⟩
  refine ⟨_, rfl, ?_⟩
  with_reducible refine hK _ _ ?_
  clear hK K
  (try simp only [Act.put])
  with_reducible refine wpList_store_row ?hgd 67 (.tmp 5) (.tmp 116) ?ho b1 #[.slice A m2 c2, .int .i64 s2] ?hx ?hy 67 #[.slice Ab m cb, .int .i64 sp] (blk_below H1.out hb) ?hi ?hold ?h1 ?_
  (case hgd => rfl)
  (case ho => rfl)
  (case hx => simp [Act.eval, sz, e5])
  (case hy => simp [Act.eval, sz])
  (case hi => exact info67z)
  (case hold => rfl)
  (case h1 => simp [Value.oneCell'])
  with_reducible refine wpList_nil ?_
  with_reducible refine HQ.out _ w' A m2 c2 s2 ?_ hb hr
  (try simp only [Act.put])
  exact ⟨by simp [sz], by simp [df], by simp [sz, e1], by simp [sz, e3], by simp [sz, e5], by simp [sz, e6], by simp [sz, e7], by simp [sz, e8], by simp [sz, e9], by simp [sz, e10], by simp [sz, e11], by simp [sz, e12]⟩
set_option maxHeartbeats 1000000 in
set_option maxRecDepth 100000 in
theorem rs_r16 {R : Ending → World → Prop} (a : Act) (W : World) (A0 : Option Addr) (nj c0 b0 b1 b2 : Nat) (wh : Bool) (i : Nat) (v9 v10 v11 v12 : Value) (T : Ts a A0 nj c0 b0 b1 b2 wh i v9 v10 v11 v12) (Ab : Option Addr) (m cb : Nat) (sp : Int) (old : Array Value) (hold : old.size = 2)
    (hb1 : W.heap[b1]? = some (.cells #[.slice Ab m cb, .int .i64 sp] 67 (0, 0))) (hb2 : W.heap[b2]? = some (.cells old 67 (0, 0)))
    (hR : R (.returned (.agg #[.slice Ab m cb, .int .i64 sp])) (W.setRow b2 #[.slice Ab m cb, .int .i64 sp])) : ((cR Try.f34 16).seq Code.ret).wp Try.prog (bodyPost Try.prog Try.f34 R) a W := by
  obtain ⟨sz, df, e1, e3, e5, e6, e7, e8, e9, e10, e11, e12⟩ := T
  have HR := Aside0.mk hR
  have H1 := Aside0.mk hb1
  have H2 := Aside0.mk hb2
  have HO := Aside0.mk hold
  clear hR hb1 hb2 hold
  refine wp_seq ?_
  refine wp_region_list ?_
  with_reducible refine wpList_load_row ?hgd 67 (.tmp 5) ?ho b1 ?hx 67 #[.slice Ab m cb, .int .i64 sp] (0, 0) _ H1.out Try.underlying67 ?hr ?hi ?_
  (case hgd => rfl)
  (case ho => rfl)
  (case hx => simp [Act.eval, sz, e5])
  (case hr => rfl)
  (case hi => exact info67z)
  (try simp only [Act.put])
  with_reducible refine wpList_store_row ?hgd 67 (.tmp 6) (.tmp 149) ?ho b2 #[.slice Ab m cb, .int .i64 sp] ?hx ?hy 67 old H2.out ?hi ?hold ?h1 ?_
  (case hgd => rfl)
  (case ho => rfl)
  (case hx => simp [Act.eval, sz, e6])
  (case hy => simp [Act.eval, sz])
  (case hi => exact info67z)
  (case hold => rw [HO.out]; rfl)
  (case h1 => simp [Value.oneCell'])
  (try simp only [Act.put])
  with_reducible refine wpList_nil ?_
  refine wp_ret ?_
  refine bodyPost_ret (v := .agg #[.slice Ab m cb, .int .i64 sp]) (results_cell_row rfl _ _ b2 67 #[.slice Ab m cb, .int .i64 sp] (0, 0) _ ?_ (setRow_heap _ _ _ _ _ _ H2.out) Try.underlying67 rfl info67z) ?_ HR.out
  · simp [sz, e6]
  · simp [df]
set_option maxHeartbeats 1000000 in
set_option maxRecDepth 100000 in
theorem rs_r15 {R : Ending → World → Prop} {Q : Exit → Act → World → Prop} (hq : ∀ a W, bodyPost Try.prog Try.f34 R .ret a W → Q .ret a W) (a : Act) (W : World) (A0 : Option Addr) (nj c0 b0 b1 b2 : Nat) (wh : Bool) (i : Nat) (v9 v10 v11 v12 : Value) (T : Ts a A0 nj c0 b0 b1 b2 wh i v9 v10 v11 v12) (As : Option Addr) (n cs : Nat) (en : Int) (old : Array Value) (hold : old.size = 2)
    (q5 : W.cell? ⟨b0, 5, none⟩ = some (.slice As n cs)) (q6 : W.cell? ⟨b0, 6, none⟩ = some (.int .i64 en)) (hb2 : W.heap[b2]? = some (.cells old 67 (0, 0)))
    (hR : R (.returned (.agg #[.slice As n cs, .int .i64 en])) (W.setRow b2 #[.slice As n cs, .int .i64 en])) : ((cR Try.f34 15).seq Code.ret).wp Try.prog Q a W := by
  obtain ⟨sz, df, e1, e3, e5, e6, e7, e8, e9, e10, e11, e12⟩ := T
  have HR := Aside0.mk hR
  have H2 := Aside0.mk hb2
  have HO := Aside0.mk hold
  have HQ := Aside0.mk hq
  clear hR hb2 hold hq
  refine wp_seq ?_
  refine wp_region_list ?_
  iterate 5
    with_reducible refine wpList_step fun K hK => ?_
    go_simp
    with_reducible refine hK _ _ ?_
    clear hK K
  with_reducible refine wpList_store_row ?hgd 67 (.tmp 6) (.tmp 148) ?ho b2 #[.slice As n cs, .int .i64 en] ?hx ?hy 67 old H2.out ?hi ?hold ?h1 ?_
  (case hgd => rfl)
  (case ho => rfl)
  (case hx => simp [Act.eval, sz, e6])
  (case hy => simp [Act.eval, sz])
  (case hi => exact info67z)
  (case hold => rw [HO.out]; rfl)
  (case h1 => simp [Value.oneCell'])
  (try simp only [Act.put])
  with_reducible refine wpList_nil ?_
  refine wp_ret ?_
  refine HQ.out _ _ ?_
  refine bodyPost_ret (v := .agg #[.slice As n cs, .int .i64 en]) (results_cell_row rfl _ _ b2 67 #[.slice As n cs, .int .i64 en] (0, 0) _ ?_ (setRow_heap _ _ _ _ _ _ H2.out) Try.underlying67 rfl info67z) ?_ HR.out
  · simp [sz, e6]
  · simp [df]
end Go.Proofs.Ytipkhaicjjeieaa.V
