/- Walks of the shop's functions: the search's round from a task's start to its taking back. -/
import Derived.Test.YtipkhaicjjeieaaKLShY15
import Derived.Test.YtipkhaicjjeieaaKLShY16
import Derived.Test.YtipkhaicjjeieaaKLShY17
import Derived.Test.YtipkhaicjjeieaaKLShY21
namespace Go.Proofs.Ytipkhaicjjeieaa.V
set_option linter.unusedSimpArgs false
set_option linter.unusedVariables false
open Go.RowKit Go.Proofs.YtipkhaicjjeieaaW.PrintWords Go.Proofs.YtipkhaicjjeieaaW.PrintLast Go.Proofs.YtipkhaicjjeieaaW.PrintMore
attribute [local go_sem] max2_int min2_int max_two min_two
theorem set4_all (l m : List Int) (hl : l.length = 4) (hm : m.length = 4) : (((l.set 0 (m.getD 0 0)).set 1 (m.getD 1 0)).set 2 (m.getD 2 0)).set 3 (m.getD 3 0) = m := by
  match l, m, hl, hm with
  | [a, b, c, d], [x, y, z, t], _, _ => rfl
set_option maxHeartbeats 1000000 in
set_option maxRecDepth 100000 in
theorem go_r18 {Q : Exit → Act → World → Prop} (a : Act) (W : World) (gs gn left nj j k : Nat) (en : Int) (v7 v8 v9 v12 v13 : Value) (T : Ta a gs left en nj j (.int .i64 (j : Int)) v7 v8 v9 v12 v13)
    (hji : (j : Int) < (nj : Int)) (q0 : W.cell? ⟨gs, 1, none⟩ = some (.slice (some ⟨gn, 0, none⟩) nj nj)) (q1 : W.cell? ⟨gn, j, none⟩ = some (.int .i64 (k : Int))) (q2 : W.frozen? ⟨gn, j, none⟩ = false) (hw1 : wrap64 ((k : Int) + 1) = (k : Int) + 1)
    (hQ : ∀ a', Ta a' gs left en nj j (.int .i64 (j : Int)) v7 v8 v9 v12 v13 → Q .normal a' (W.setCell ⟨gn, j, none⟩ (.int .i64 ((k : Int) + 1)))) : (cR Try.f53 18).wp Try.prog Q a W := by
  conv => arg 2; whnf
  obtain ⟨sz, df, e0, e1, e2, e68, e69, e6, e7, e8, e9, e12, e13⟩ := T
  have HQ := Aside0.mk hQ
  clear hQ
  go_wp2
  with_reducible refine HQ.out _ ?_
  exact ⟨by simp [sz], by simp [df], by simp [sz, e0], by simp [sz, e1], by simp [sz, e2], by simp [sz, e68], by simp [sz, e69], by simp [sz, e6], by simp [sz, e7], by simp [sz, e8], by simp [sz, e9], by simp [sz, e12], by simp [sz, e13]⟩
set_option maxHeartbeats 1000000 in
set_option maxRecDepth 100000 in
theorem go_r20 {Q : Exit → Act → World → Prop} (a : Act) (W : World) (gs gn left nj j k : Nat) (en : Int) (v7 v8 v9 v12 v13 : Value) (T : Ta a gs left en nj j (.int .i64 (j : Int)) v7 v8 v9 v12 v13)
    (hji : (j : Int) < (nj : Int)) (q0 : W.cell? ⟨gs, 1, none⟩ = some (.slice (some ⟨gn, 0, none⟩) nj nj)) (kk : Int) (q1 : W.cell? ⟨gn, j, none⟩ = some (.int .i64 kk)) (q2 : W.frozen? ⟨gn, j, none⟩ = false) (hw1 : wrap64 (kk - 1) = (k : Int))
    (hQ : ∀ a', Ta a' gs left en nj j (.int .i64 (j : Int)) v7 v8 v9 v12 v13 → Q .normal a' (W.setCell ⟨gn, j, none⟩ (.int .i64 (k : Int)))) : (cR Try.f53 20).wp Try.prog Q a W := by
  conv => arg 2; whnf
  obtain ⟨sz, df, e0, e1, e2, e68, e69, e6, e7, e8, e9, e12, e13⟩ := T
  have HQ := Aside0.mk hQ
  clear hQ
  go_wp2
  with_reducible refine HQ.out _ ?_
  exact ⟨by simp [sz], by simp [df], by simp [sz, e0], by simp [sz, e1], by simp [sz, e2], by simp [sz, e68], by simp [sz, e69], by simp [sz, e6], by simp [sz, e7], by simp [sz, e8], by simp [sz, e9], by simp [sz, e12], by simp [sz, e13]⟩
set_option maxHeartbeats 1000000 in
set_option maxRecDepth 100000 in
theorem go_r19 {Q : Exit → Act → World → Prop} (a : Act) (W : World) (gs bx left nj j : Nat) (en at_ tm z : Int) (v9 v12 v13 : Value) (T : Ta a gs left en nj j (.int .i64 (j : Int)) (.pointer (some ⟨bx, 0, none⟩)) (.int .i64 at_) v9 v12 v13)
    (q3 : W.cell? ⟨bx, 1, none⟩ = some (.int .i64 tm)) (hz : wrap64 (at_ + tm) = z) (ll : Int) (hl : (left : Int) + 1 = ll) (hl2 : wrap64 (ll - 1) = (left : Int)) (R : World → Prop)
    (hc : Calls Try.prog 53 #[.pointer (some ⟨gs, 0, none⟩), .int .i64 (left : Int), .int .i64 (mx en z)] W (fun e w' => e = .returned (.tuple #[]) ∧ R w'))
    (hQ : ∀ a' w', Ta a' gs left en nj j (.int .i64 (j : Int)) (.pointer (some ⟨bx, 0, none⟩)) (.int .i64 at_) v9 v12 v13 → R w' → Q .normal a' w') : (cR Try.f53 19).wp Try.prog Q a W := by
  conv => arg 2; whnf
  obtain ⟨sz, df, e0, e1, e2, e68, e69, e6, e7, e8, e9, e12, e13⟩ := T
  have HC := Aside0.mk hc
  rw [hl] at e1
  clear hc
  by_cases hmx : en < z
  · have HCC : Aside0 (Calls Try.prog 53 #[.pointer (some ⟨gs, 0, none⟩), .int .i64 (left : Int), .int .i64 z] W (fun e w' => e = .returned (.tuple #[]) ∧ R w')) := ⟨by
      have h := HC.out
      rwa [mx, if_pos hmx] at h⟩
    go_wp2_with (first | ((with_reducible refine HCC.out.mono ?_); rintro e w5 ⟨rfl, h5⟩))
    with_reducible refine hQ _ _ ?_ h5
    exact ⟨by simp [sz], by simp [df], by simp [sz, e0], by simp [sz, e1, hl], by simp [sz, e2], by simp [sz, e68], by simp [sz, e69], by simp [sz, e6], by simp [sz, e7], by simp [sz, e8], by simp [sz, e9], by simp [sz, e12], by simp [sz, e13]⟩
  · have HCC : Aside0 (Calls Try.prog 53 #[.pointer (some ⟨gs, 0, none⟩), .int .i64 (left : Int), .int .i64 en] W (fun e w' => e = .returned (.tuple #[]) ∧ R w')) := ⟨by
      have h := HC.out
      rwa [mx, if_neg hmx] at h⟩
    go_wp2_with (first | ((with_reducible refine HCC.out.mono ?_); rintro e w5 ⟨rfl, h5⟩))
    with_reducible refine hQ _ _ ?_ h5
    exact ⟨by simp [sz], by simp [df], by simp [sz, e0], by simp [sz, e1, hl], by simp [sz, e2], by simp [sz, e68], by simp [sz, e69], by simp [sz, e6], by simp [sz, e7], by simp [sz, e8], by simp [sz, e9], by simp [sz, e12], by simp [sz, e13]⟩
theorem QuietP.then_ {Q : Exit → Act → World → Prop} {K : Act → World → Prop} (h : QuietP Q) : QuietP (Exit.then K Q) := fun c a a' w hd h1 => h c a a' w hd h1
set_option maxHeartbeats 4000000 in
set_option maxRecDepth 100000 in
theorem go_tail {Q : Exit → Act → World → Prop} (hp : QuietP Q) (w0 W0 : World) (a : Act) (W : World) (gs gn gj gt g bx left nj n j p mc k : Nat) (en at_ tm x2 x3 : Int) (v9 v12 v13 : Value)
    (T : Ta a gs left en nj j (.int .i64 (j : Int)) (.pointer (some ⟨bx, 0, none⟩)) (.int .i64 at_) v9 v12 v13) (S S1 S2 : Sst) (hS : Srch w0 gs gn gj gt g nj n W S) (hKW : Kept W0 W (fun k => k = gs ∨ k = gn ∨ k = gj ∨ k = gt))
    (hbx : W.heap[bx]? = some (.cells #[.int .i64 (mc : Int), .int .i64 tm, .int .i64 (p : Int), .int .i64 x2, .int .i64 x3] 89 (0, 0))) (bxs : bx ≠ gs ∧ bx ≠ gn ∧ bx ≠ gj ∧ bx ≠ gt)
    (hS1 : S1 = { S with st := S.st.set p at_, je := S.je.set j (wrap64 (at_ + tm)), fre := S.fre.set mc (wrap64 (at_ + tm)), nx := S.nx.set j (S.nx.getD j 0 + 1) })
    (hcall : ∀ W', Srch w0 gs gn gj gt g nj n W' S1 → Calls Try.prog 53 #[.pointer (some ⟨gs, 0, none⟩), .int .i64 (left : Int), .int .i64 (mx en (wrap64 (at_ + tm)))] W' (GoPost w0 gs gn gj gt g nj n S2 W'))
    (hk : S.nx.getD j 0 = (k : Int)) (hk4 : k ≤ 4) (hk2 : S2.nx.getD j 0 = (k : Int) + 1) (hl : left ≤ 10) (hj : j < nj) (hpn : p < n) (hm : mc < 4)
    (hQ : ∀ a' W', (∃ v6 v7 v8 v9 v12 v13, Ta a' gs left en nj j v6 v7 v8 v9 v12 v13) → Srch w0 gs gn gj gt g nj n W' (takeF S S2 j) → Kept W0 W' (fun k => k = gs ∨ k = gn ∨ k = gj ∨ k = gt) → Q .normal a' W') :
    ((cR Try.f53 16).seq ((cR Try.f53 17).seq ((cR Try.f53 18).seq ((cR Try.f53 19).seq ((cR Try.f53 20).seq (cR Try.f53 21)))))).wp Try.prog Q a W := by
  have HP := Aside0.mk hp
  have HQ := Aside0.mk hQ
  have HC := Aside0.mk hcall
  have HS := Aside0.mk hS
  have HK := Aside0.mk hKW
  have BX := Aside0.mk hbx
  have BXS := Aside0.mk bxs
  have HS1 := Aside0.mk hS1
  have HK2 := Aside0.mk hk2
  have HKX := Aside0.mk hk
  have hji : (j : Int) < (nj : Int) := Int.ofNat_lt.2 hj
  have hpi : (p : Int) < (n : Int) := Int.ofNat_lt.2 hpn
  have hmi : (mc : Int) < 4 := Int.ofNat_lt.2 hm
  have HSF := Aside0.mk hS.lens.2.2.1
  clear hp hQ hcall hS hKW hbx bxs hS1 hk hk2
  have q0 := HS.out.cells.2.2.1
  have q1 := HS.out.je_ hj
  have q2 := HS.out.fre 0 (by decide)
  have q3 := HS.out.fre 1 (by decide)
  have q4 := HS.out.fre 2 (by decide)
  have q5 := HS.out.fre 3 (by decide)
  refine wp_seq ?_
  refine go_r16 HP.out.then_ a W gs gj left nj j en (S.je.getD j 0) (S.fre.getD 0 0) (S.fre.getD 1 0) (S.fre.getD 2 0) (S.fre.getD 3 0) _ _ v9 v12 v13 T hji q0 q1 q2 q3 q4 q5 ?_
  clear q0 q1 q2 q3 q4 q5 T
  intro a wb T hbb hby
  have HT := Aside0.mk T
  obtain ⟨by_, eby⟩ : ∃ by_, by_ = W.heap.size := ⟨_, rfl⟩
  rw [← eby] at HT hby
  have hbys : by_ ≠ gs ∧ by_ ≠ gn ∧ by_ ≠ gj ∧ by_ ≠ gt := by
    obtain ⟨vb, b1, _⟩ := HS.out.bs
    have h1 := blk_lt b1
    have h2 := blk_lt HS.out.rn
    have h3 := blk_lt HS.out.rj
    have h4 := blk_lt HS.out.rt
    omega
  have BY := Aside0.mk hby
  have BYS := Aside0.mk hbys
  have HSB := Aside0.mk (HS.out.below_ hbb)
  have HKB := Aside0.mk (HK.out.below hbb)
  have BXB := Aside0.mk (blk_below BX.out hbb)
  clear HS HK BX T hbb hby hbys eby
  have HS := HSB
  have HK := HKB
  have BX := BXB
  clear HSB HKB BXB
  refine wp_seq ?_
  have q0 := HS.out.cells.2.2.2.1
  have q1 := HS.out.cells.2.2.1
  have q2 := (blk_cell BX.out 0).trans rfl
  have q3 := (blk_cell BX.out 1).trans rfl
  have q4 := (blk_cell BX.out 2).trans rfl
  have ne := HS.out.ne
  refine go_r17 HP.out.then_ a wb gs gj gt bx left nj n j p mc en at_ tm (S.st.getD p 0) (S.je.getD j 0) (S.fre.getD mc 0) v9 _ _ HT.out ne.2.1 ne.2.2.1 (by omega) BXS.out.1 BXS.out.2.2.1 BXS.out.2.2.2 hji hpi hmi q0 q1 q2 q3 q4 (HS.out.st_ hpn) (blk_frozen HS.out.rt p) (HS.out.je_ hj) (blk_frozen HS.out.rj j) (HS.out.fre mc hm) (HS.out.frozen (3 + mc)) ?_
  clear q0 q1 q2 q3 q4 HT
  intro a T
  have HS3 := Aside0.mk (((HS.out.drew.setSt p at_).setJe j (wrap64 (at_ + tm))).setFre mc hm (wrap64 (at_ + tm)))
  have HK3 := Aside0.mk (Kept.setCell (Kept.setCell (Kept.setCell (Kept.drew HK.out) (p := ⟨gt, p, none⟩) (.inl (.inr (.inr (.inr rfl)))) (.int .i64 at_)) (p := ⟨gj, j, none⟩) (.inl (.inr (.inr (.inl rfl)))) (.int .i64 (wrap64 (at_ + tm)))) (p := ⟨gs, 3 + mc, none⟩) (.inl (.inl rfl)) (.int .i64 (wrap64 (at_ + tm))))
  have BX3 := Aside0.mk (blk_far (p := ⟨gs, 3 + mc, none⟩) (blk_far (p := ⟨gj, j, none⟩) (blk_far (p := ⟨gt, p, none⟩) (blk_drew BX.out) (by simpa using BXS.out.2.2.2) (.int .i64 at_)) (by simpa using BXS.out.2.2.1) (.int .i64 (wrap64 (at_ + tm)))) (by simpa using BXS.out.1) (.int .i64 (wrap64 (at_ + tm))))
  have BY3 := Aside0.mk (blk_far (p := ⟨gs, 3 + mc, none⟩) (blk_far (p := ⟨gj, j, none⟩) (blk_far (p := ⟨gt, p, none⟩) (blk_drew BY.out) (by simpa using BYS.out.2.2.2) (.int .i64 at_)) (by simpa using BYS.out.2.2.1) (.int .i64 (wrap64 (at_ + tm)))) (by simpa using BYS.out.1) (.int .i64 (wrap64 (at_ + tm))))
  clear HS HK BX BY
  generalize ((wb.drew.setCell ⟨gt, p, none⟩ (.int .i64 at_)).setCell ⟨gj, j, none⟩ (.int .i64 (wrap64 (at_ + tm)))).setCell ⟨gs, 3 + mc, none⟩ (.int .i64 (wrap64 (at_ + tm))) = w3 at HS3 HK3 BX3 BY3 ⊢
  refine wp_seq ?_
  refine go_r18 a w3 gs gn left nj j k en _ _ v9 _ _ T hji HS3.out.cells.2.1 ((HS3.out.nx_ hj).trans (by rw [← HKX.out])) (blk_frozen HS3.out.rn j) (wr64_in _ (by omega)) ?_
  clear T
  intro a T
  have HS4 : Aside0 (Srch w0 gs gn gj gt g nj n (w3.setCell ⟨gn, j, none⟩ (.int .i64 ((k : Int) + 1))) S1) := ⟨by
    have h := HS3.out.setNx j ((k : Int) + 1)
    rw [HS1.out, HKX.out]
    exact h⟩
  have HK4 := Aside0.mk (Kept.setCell HK3.out (p := ⟨gn, j, none⟩) (.inl (.inr (.inl rfl))) (.int .i64 ((k : Int) + 1)))
  have BX4 := Aside0.mk (blk_far (p := ⟨gn, j, none⟩) BX3.out (by simpa using BXS.out.2.1) (.int .i64 ((k : Int) + 1)))
  have BY4 := Aside0.mk (blk_far (p := ⟨gn, j, none⟩) BY3.out (by simpa using BYS.out.2.1) (.int .i64 ((k : Int) + 1)))
  clear HS3 HK3 BX3 BY3
  generalize w3.setCell ⟨gn, j, none⟩ (.int .i64 ((k : Int) + 1)) = w4 at HS4 HK4 BX4 BY4 ⊢
  refine wp_seq ?_
  refine go_r19 a w4 gs bx left nj j en at_ tm _ v9 _ _ T ((blk_cell BX4.out 1).trans rfl) rfl _ rfl (by rw [Int.add_sub_cancel]; exact wr64_in _ (by omega)) (fun w' => Srch w0 gs gn gj gt g nj n w' S2 ∧ Kept w4 w' (fun k => k = gs ∨ k = gn ∨ k = gj ∨ k = gt)) (HC.out _ HS4.out) ?_
  clear T
  intro a w5 T h5
  have HS5 := Aside0.mk h5.1
  have HK5 := Aside0.mk (HK4.out.then_ h5.2 (fun k hk => .inl hk))
  have hby4 := blk_lt BY4.out
  have BY5 : Aside0 (w5.heap[by_]? = some (.cells #[.int .i64 (S.fre.getD 0 0), .int .i64 (S.fre.getD 1 0), .int .i64 (S.fre.getD 2 0), .int .i64 (S.fre.getD 3 0)] 105 (0, 0))) := ⟨(h5.2.2 by_ hby4 (by have := BYS.out; omega)).trans BY4.out⟩
  clear HS4 HK4 BX4 BY4 h5 hby4
  refine wp_seq ?_
  refine go_r20 a w5 gs gn left nj j k en _ _ v9 _ _ T hji HS5.out.cells.2.1 ((k : Int) + 1) ((HS5.out.nx_ hj).trans (by rw [HK2.out])) (blk_frozen HS5.out.rn j) (by rw [Int.add_sub_cancel]; exact wr64_in _ (by omega)) ?_
  clear T
  intro a T
  have HS6 := Aside0.mk (HS5.out.setNx j (k : Int))
  have HK6 := Aside0.mk (Kept.setCell HK5.out (p := ⟨gn, j, none⟩) (.inl (.inr (.inl rfl))) (.int .i64 (k : Int)))
  have BY6 := Aside0.mk (blk_far (p := ⟨gn, j, none⟩) BY5.out (by simpa using BYS.out.2.1) (.int .i64 (k : Int)))
  clear HS5 HK5 BY5
  generalize w5.setCell ⟨gn, j, none⟩ (.int .i64 (k : Int)) = w6 at HS6 HK6 BY6 ⊢
  have f0 := HS6.out.fre 0 (by decide)
  have f1 := HS6.out.fre 1 (by decide)
  have f2 := HS6.out.fre 2 (by decide)
  have f3 := HS6.out.fre 3 (by decide)
  refine go_r21 HP.out a w6 gs gj by_ left nj j en (S.je.getD j 0) (S.fre.getD 0 0) (S.fre.getD 1 0) (S.fre.getD 2 0) (S.fre.getD 3 0) _ _ _ _ _ _ _ v9 ne.2.1 BYS.out.1 BYS.out.2.2.1 T hji HS6.out.cells.2.2.1 ((blk_cell BY6.out 0).trans rfl) ((blk_cell BY6.out 1).trans rfl) ((blk_cell BY6.out 2).trans rfl) ((blk_cell BY6.out 3).trans rfl) (HS6.out.je_ hj) (blk_frozen HS6.out.rj j) f0 f1 f2 f3 (HS6.out.frozen 3) (HS6.out.frozen 4) (HS6.out.frozen 5) (HS6.out.frozen 6) ?_
  clear T f0 f1 f2 f3
  intro a T
  refine HQ.out a _ ⟨_, _, _, _, _, _, T⟩ ?_ ?_
  · have h := ((((HS6.out.drew.setJe j (S.je.getD j 0)).setFre 0 (by decide) (S.fre.getD 0 0)).setFre 1 (by decide) (S.fre.getD 1 0)).setFre 2 (by decide) (S.fre.getD 2 0)).setFre 3 (by decide) (S.fre.getD 3 0)
    have e : takeF S S2 j = { S2 with nx := S2.nx.set j (k : Int), je := S2.je.set j (S.je.getD j 0), fre := (((S2.fre.set 0 (S.fre.getD 0 0)).set 1 (S.fre.getD 1 0)).set 2 (S.fre.getD 2 0)).set 3 (S.fre.getD 3 0) } := by
      unfold takeF
      rw [set4_all S2.fre S.fre HS6.out.lens.2.2.1 HSF.out, HK2.out, Int.add_sub_cancel]
    rw [e]
    exact h
  · exact Kept.setCell (Kept.setCell (Kept.setCell (Kept.setCell (Kept.setCell (Kept.drew HK6.out) (p := ⟨gj, j, none⟩) (.inl (.inr (.inr (.inl rfl)))) _) (p := ⟨gs, 3, none⟩) (.inl (.inl rfl)) _) (p := ⟨gs, 4, none⟩) (.inl (.inl rfl)) _) (p := ⟨gs, 5, none⟩) (.inl (.inl rfl)) _) (p := ⟨gs, 6, none⟩) (.inl (.inl rfl)) _
end Go.Proofs.Ytipkhaicjjeieaa.V
