/- Walks of the reference's search: is a whole order better than what was found (14)? -/
import Derived.Test.YtipkhaicjjeieaaKSShRb
import Derived.Test.YtipkhaicjjeieaaKSShY15
namespace Go.Proofs.Ytipkhaicjjeieaa.V
set_option linter.unusedSimpArgs false
set_option linter.unusedVariables false
open Go.RowKit Go.Proofs.YtipkhaicjjeieaaW.PrintWords Go.Proofs.YtipkhaicjjeieaaW.PrintLast Go.Proofs.YtipkhaicjjeieaaW.PrintMore
set_option maxHeartbeats 2000000 in
set_option maxRecDepth 100000 in
theorem rs_r14a {Q : Exit → Act → World → Prop} (a : Act) (W : World) (A0 : Option Addr) (nj c0 b0 b1 b2 : Nat) (wh : Bool) (i : Nat) (v9 v10 v11 v12 : Value) (T : Ts a A0 nj c0 b0 b1 b2 wh i v9 v10 v11 v12) (hwh : wh = false)
    (hQ : ∀ a', Ts a' A0 nj c0 b0 b1 b2 wh i v9 v10 v11 v12 → a'.tmps[143]? = some (.bool false) → Q .normal a' W) : (cR Try.f34 14).wp Try.prog Q a W := by
  conv => arg 2; whnf
  obtain ⟨sz, df, e1, e3, e5, e6, e7, e8, e9, e10, e11, e12⟩ := T
  subst hwh
  have HQ := Aside0.mk (fun a' (_ : Unit) => hQ a')
  clear hQ
  refine wp_region_list ?_
  iterate 2
    with_reducible refine wpList_step fun K hK => ?_
    go_simp
    with_reducible refine hK _ _ ?_
    clear hK K
  iterate 24
    with_reducible refine off_step ?hw ?_
    (case hw => simp [Region.wanted, yielded, sz, undef])
    (try simp only [Act.put])
  with_reducible refine wpList_step fun K hK => ?_
  go_simp
  with_reducible refine hK _ _ ?_
  clear hK K
  with_reducible refine wpList_nil ?_
  with_reducible refine HQ.out _ () ?_ ?_
  · exact ⟨by simp [sz], by simp [df], by simp [sz, e1], by simp [sz, e3], by simp [sz, e5], by simp [sz, e6], by simp [sz, e7], by simp [sz, e8], by simp [sz, e9], by simp [sz, e10], by simp [sz, e11], by simp [sz, e12]⟩
  · simp [sz]
set_option maxHeartbeats 2000000 in
set_option maxRecDepth 100000 in
theorem rs_r14b {Q : Exit → Act → World → Prop} (a : Act) (W : World) (A0 : Option Addr) (nj c0 b0 b1 b2 : Nat) (wh : Bool) (i : Nat) (v9 v10 v11 v12 : Value) (T : Ts a A0 nj c0 b0 b1 b2 wh i v9 v10 v11 v12) (sp en : Int) (hwh : wh = true) (hs : sp < 0) (q0 : W.cell? ⟨b1, 1, none⟩ = some (.int .i64 sp)) (q1 : W.cell? ⟨b0, 6, none⟩ = some (.int .i64 en))
    (hQ : ∀ a', Ts a' A0 nj c0 b0 b1 b2 wh i v9 v10 v11 v12 → a'.tmps[143]? = some (.bool true) → Q .normal a' W) : (cR Try.f34 14).wp Try.prog Q a W := by
  conv => arg 2; whnf
  obtain ⟨sz, df, e1, e3, e5, e6, e7, e8, e9, e10, e11, e12⟩ := T
  subst hwh
  have D1 : decide (sp < 0) = true := decide_eq_true hs
  have HQ := Aside0.mk (fun a' (_ : Unit) => hQ a')
  clear hQ
  refine wp_region_list ?_
  iterate 2
    with_reducible refine wpList_step fun K hK => ?_
    go_simp
    with_reducible refine hK _ _ ?_
    clear hK K
  iterate 4
    with_reducible refine BigFrame.wpList_want ?hw (fun K hK => ?_)
    (case hw => simp [Region.wanted, yielded, sz, undef])
    go_simp
    with_reducible refine hK _ _ ?_
    clear hK K
  iterate 5
    with_reducible refine off_step ?hw ?_
    (case hw => simp [Region.wanted, yielded, sz, undef])
    (try simp only [Act.put])
  iterate 2
    with_reducible refine BigFrame.wpList_want ?hw (fun K hK => ?_)
    (case hw => simp [Region.wanted, yielded, sz, undef])
    go_simp
    with_reducible refine hK _ _ ?_
    clear hK K
  iterate 12
    with_reducible refine off_step ?hw ?_
    (case hw => simp [Region.wanted, yielded, sz, undef])
    (try simp only [Act.put])
  with_reducible refine BigFrame.wpList_want ?hw (fun K hK => ?_)
  (case hw => simp [Region.wanted, yielded, sz, undef])
  go_simp
  with_reducible refine hK _ _ ?_
  clear hK K
  with_reducible refine wpList_step fun K hK => ?_
  go_simp
  with_reducible refine hK _ _ ?_
  clear hK K
  with_reducible refine wpList_nil ?_
  with_reducible refine HQ.out _ () ?_ ?_
  · exact ⟨by simp [sz], by simp [df], by simp [sz, e1], by simp [sz, e3], by simp [sz, e5], by simp [sz, e6], by simp [sz, e7], by simp [sz, e8], by simp [sz, e9], by simp [sz, e10], by simp [sz, e11], by simp [sz, e12]⟩
  · simp [sz]
set_option maxHeartbeats 2000000 in
set_option maxRecDepth 100000 in
theorem rs_r14c {Q : Exit → Act → World → Prop} (a : Act) (W : World) (A0 : Option Addr) (nj c0 b0 b1 b2 : Nat) (wh : Bool) (i : Nat) (v9 v10 v11 v12 : Value) (T : Ts a A0 nj c0 b0 b1 b2 wh i v9 v10 v11 v12) (sp en : Int) (hwh : wh = true) (hs : ¬ sp < 0) (he : en < sp) (q0 : W.cell? ⟨b1, 1, none⟩ = some (.int .i64 sp)) (q1 : W.cell? ⟨b0, 6, none⟩ = some (.int .i64 en))
    (hQ : ∀ a', Ts a' A0 nj c0 b0 b1 b2 wh i v9 v10 v11 v12 → a'.tmps[143]? = some (.bool true) → Q .normal a' W) : (cR Try.f34 14).wp Try.prog Q a W := by
  conv => arg 2; whnf
  obtain ⟨sz, df, e1, e3, e5, e6, e7, e8, e9, e10, e11, e12⟩ := T
  subst hwh
  have D1 : decide (sp < 0) = false := decide_eq_false hs
  have D2 : decide (en < sp) = true := decide_eq_true he
  have HQ := Aside0.mk (fun a' (_ : Unit) => hQ a')
  clear hQ
  refine wp_region_list ?_
  iterate 2
    with_reducible refine wpList_step fun K hK => ?_
    go_simp
    with_reducible refine hK _ _ ?_
    clear hK K
  iterate 4
    with_reducible refine BigFrame.wpList_want ?hw (fun K hK => ?_)
    (case hw => simp [Region.wanted, yielded, sz, undef])
    go_simp
    with_reducible refine hK _ _ ?_
    clear hK K
  iterate 5
    with_reducible refine BigFrame.wpList_want ?hw (fun K hK => ?_)
    (case hw => simp [Region.wanted, yielded, sz, undef])
    go_simp
    with_reducible refine hK _ _ ?_
    clear hK K
  iterate 2
    with_reducible refine BigFrame.wpList_want ?hw (fun K hK => ?_)
    (case hw => simp [Region.wanted, yielded, sz, undef])
    go_simp
    with_reducible refine hK _ _ ?_
    clear hK K
  iterate 12
    with_reducible refine off_step ?hw ?_
    (case hw => simp [Region.wanted, yielded, sz, undef])
    (try simp only [Act.put])
  with_reducible refine BigFrame.wpList_want ?hw (fun K hK => ?_)
  (case hw => simp [Region.wanted, yielded, sz, undef])
  go_simp
  with_reducible refine hK _ _ ?_
  clear hK K
  with_reducible refine wpList_step fun K hK => ?_
  go_simp
  with_reducible refine hK _ _ ?_
  clear hK K
  with_reducible refine wpList_nil ?_
  with_reducible refine HQ.out _ () ?_ ?_
  · exact ⟨by simp [sz], by simp [df], by simp [sz, e1], by simp [sz, e3], by simp [sz, e5], by simp [sz, e6], by simp [sz, e7], by simp [sz, e8], by simp [sz, e9], by simp [sz, e10], by simp [sz, e11], by simp [sz, e12]⟩
  · simp [sz]
set_option maxHeartbeats 2000000 in
set_option maxRecDepth 100000 in
theorem rs_r14d {Q : Exit → Act → World → Prop} (a : Act) (W : World) (A0 : Option Addr) (nj c0 b0 b1 b2 : Nat) (wh : Bool) (i : Nat) (v9 v10 v11 v12 : Value) (T : Ts a A0 nj c0 b0 b1 b2 wh i v9 v10 v11 v12) (sp en : Int) (hwh : wh = true) (hs : ¬ sp < 0) (he : ¬ en < sp) (hn : en ≠ sp) (q0 : W.cell? ⟨b1, 1, none⟩ = some (.int .i64 sp)) (q1 : W.cell? ⟨b0, 6, none⟩ = some (.int .i64 en))
    (hQ : ∀ a', Ts a' A0 nj c0 b0 b1 b2 wh i v9 v10 v11 v12 → a'.tmps[143]? = some (.bool false) → Q .normal a' W) : (cR Try.f34 14).wp Try.prog Q a W := by
  conv => arg 2; whnf
  obtain ⟨sz, df, e1, e3, e5, e6, e7, e8, e9, e10, e11, e12⟩ := T
  subst hwh
  have D1 : decide (sp < 0) = false := decide_eq_false hs
  have D2 : decide (en < sp) = false := decide_eq_false he
  have D3 : (en == sp) = false := beq_eq_false_iff_ne.2 hn
  have HQ := Aside0.mk (fun a' (_ : Unit) => hQ a')
  clear hQ
  refine wp_region_list ?_
  iterate 2
    with_reducible refine wpList_step fun K hK => ?_
    go_simp
    with_reducible refine hK _ _ ?_
    clear hK K
  iterate 4
    with_reducible refine BigFrame.wpList_want ?hw (fun K hK => ?_)
    (case hw => simp [Region.wanted, yielded, sz, undef])
    go_simp
    with_reducible refine hK _ _ ?_
    clear hK K
  iterate 5
    with_reducible refine BigFrame.wpList_want ?hw (fun K hK => ?_)
    (case hw => simp [Region.wanted, yielded, sz, undef])
    go_simp
    with_reducible refine hK _ _ ?_
    clear hK K
  iterate 2
    with_reducible refine BigFrame.wpList_want ?hw (fun K hK => ?_)
    (case hw => simp [Region.wanted, yielded, sz, undef])
    go_simp
    with_reducible refine hK _ _ ?_
    clear hK K
  iterate 6
    with_reducible refine BigFrame.wpList_want ?hw (fun K hK => ?_)
    (case hw => simp [Region.wanted, yielded, sz, undef])
    go_simp
    with_reducible refine hK _ _ ?_
    clear hK K
  iterate 5
    with_reducible refine off_step ?hw ?_
    (case hw => simp [Region.wanted, yielded, sz, undef])
    (try simp only [Act.put])
  iterate 2
    with_reducible refine BigFrame.wpList_want ?hw (fun K hK => ?_)
    (case hw => simp [Region.wanted, yielded, sz, undef])
    go_simp
    with_reducible refine hK _ _ ?_
    clear hK K
  with_reducible refine wpList_step fun K hK => ?_
  go_simp
  with_reducible refine hK _ _ ?_
  clear hK K
  with_reducible refine wpList_nil ?_
  with_reducible refine HQ.out _ () ?_ ?_
  · exact ⟨by simp [sz], by simp [df], by simp [sz, e1], by simp [sz, e3], by simp [sz, e5], by simp [sz, e6], by simp [sz, e7], by simp [sz, e8], by simp [sz, e9], by simp [sz, e10], by simp [sz, e11], by simp [sz, e12]⟩
  · simp [sz]
set_option maxHeartbeats 2000000 in
set_option maxRecDepth 100000 in
theorem rs_r14e {Q : Exit → Act → World → Prop} (a : Act) (W : World) (A0 : Option Addr) (nj c0 b0 b1 b2 : Nat) (wh : Bool) (i : Nat) (v9 v10 v11 v12 : Value) (T : Ts a A0 nj c0 b0 b1 b2 wh i v9 v10 v11 v12) (sp en : Int) (hwh : wh = true) (hs : ¬ sp < 0) (he : ¬ en < sp) (hn : en = sp) (q0 : W.cell? ⟨b1, 1, none⟩ = some (.int .i64 sp)) (q1 : W.cell? ⟨b0, 6, none⟩ = some (.int .i64 en)) (As Ab : Option Addr) (n cs m cb : Nat) (l : Bool) (q2 : W.cell? ⟨b0, 5, none⟩ = some (.slice As n cs)) (q3 : W.cell? ⟨b1, 0, none⟩ = some (.slice Ab m cb)) (hL : Calls Try.prog 50 #[.slice As n cs, .slice Ab m cb] W fun e w' => e = .returned (.bool l) ∧ Drawn0 W w')
    (hQ : ∀ a' W', Drawn0 W W' → Ts a' A0 nj c0 b0 b1 b2 wh i v9 v10 v11 v12 → a'.tmps[143]? = some (.bool l) → Q .normal a' W') : (cR Try.f34 14).wp Try.prog Q a W := by
  conv => arg 2; whnf
  obtain ⟨sz, df, e1, e3, e5, e6, e7, e8, e9, e10, e11, e12⟩ := T
  subst hwh
  have HL := Aside0.mk hL
  clear hL
  have D1 : decide (sp < 0) = false := decide_eq_false hs
  have D2 : decide (en < sp) = false := decide_eq_false he
  have D3 : (en == sp) = true := beq_iff_eq.2 hn
  clear hn
  have HQ := Aside0.mk hQ
  clear hQ
  refine wp_region_list ?_
  iterate 2
    with_reducible refine wpList_step fun K hK => ?_
    go_simp
    with_reducible refine hK _ _ ?_
    clear hK K
  iterate 4
    with_reducible refine BigFrame.wpList_want ?hw (fun K hK => ?_)
    (case hw => simp [Region.wanted, yielded, sz, undef])
    go_simp
    with_reducible refine hK _ _ ?_
    clear hK K
  iterate 5
    with_reducible refine BigFrame.wpList_want ?hw (fun K hK => ?_)
    (case hw => simp [Region.wanted, yielded, sz, undef])
    go_simp
    with_reducible refine hK _ _ ?_
    clear hK K
  iterate 2
    with_reducible refine BigFrame.wpList_want ?hw (fun K hK => ?_)
    (case hw => simp [Region.wanted, yielded, sz, undef])
    go_simp
    with_reducible refine hK _ _ ?_
    clear hK K
  iterate 6
    with_reducible refine BigFrame.wpList_want ?hw (fun K hK => ?_)
    (case hw => simp [Region.wanted, yielded, sz, undef])
    go_simp
    with_reducible refine hK _ _ ?_
    clear hK K
  iterate 4
    with_reducible refine BigFrame.wpList_want ?hw (fun K hK => ?_)
    (case hw => simp [Region.wanted, yielded, sz, undef])
    go_simp
    with_reducible refine hK _ _ ?_
    clear hK K
  with_reducible refine wpList_step fun K hK => ?_
  with_reducible refine goes_ (f := 50) (fn := Try.f50) (as0 := #[.tmp 137, .tmp 139]) (ts := #[26, 26]) ?q1 ?q2 ?q3 #[.slice As n cs, .slice Ab m cb] ?q4 ?q5 ?q6 ?q7 ?q8
  (case q1 => exact Try.func50)
  (case q2 => kernel_rfl)
  (case q3 => kernel_rfl)
  (case q4 => simp [Region.wanted, yielded, sz, undef])
  (case q5 => rfl)
  (case q6 => rfl)
  (case q7 => simp [Act.eval, sz])
  case q8 =>
  refine HL.out.mono ?_
  rintro e W2 ⟨rfl, hd⟩
  refine ⟨_, rfl, ?_⟩
  with_reducible refine hK _ _ ?_
  clear hK K
  (try simp only [Act.put])
  iterate 2
    with_reducible refine BigFrame.wpList_want ?hw (fun K hK => ?_)
    (case hw => simp [Region.wanted, yielded, sz, undef])
    go_simp
    with_reducible refine hK _ _ ?_
    clear hK K
  with_reducible refine wpList_step fun K hK => ?_
  go_simp
  with_reducible refine hK _ _ ?_
  clear hK K
  with_reducible refine wpList_nil ?_
  with_reducible refine HQ.out _ W2 hd ?_ ?_
  · exact ⟨by simp [sz], by simp [df], by simp [sz, e1], by simp [sz, e3], by simp [sz, e5], by simp [sz, e6], by simp [sz, e7], by simp [sz, e8], by simp [sz, e9], by simp [sz, e10], by simp [sz, e11], by simp [sz, e12]⟩
  · simp [sz]
end Go.Proofs.Ytipkhaicjjeieaa.V
