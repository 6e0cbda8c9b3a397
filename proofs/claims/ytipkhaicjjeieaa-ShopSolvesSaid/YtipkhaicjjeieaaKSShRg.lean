/- Walks of the reference's search: a node. -/
import Derived.Test.YtipkhaicjjeieaaKSShRf
namespace Go.Proofs.Ytipkhaicjjeieaa.V
set_option linter.unusedSimpArgs false
set_option linter.unusedVariables false
open Go.RowKit Go.Proofs.YtipkhaicjjeieaaW.PrintWords Go.Proofs.YtipkhaicjjeieaaW.PrintLast Go.Proofs.YtipkhaicjjeieaaW.PrintMore
set_option maxHeartbeats 400000 in
set_option maxRecDepth 100000 in
theorem rs_r5 {Q : Exit → Act → World → Prop} (a : Act) (W : World) (A0 : Option Addr) (nj c0 b0 b1 b2 : Nat) (wh : Bool) (i : Nat) (v9 v10 v11 v12 : Value) (T : Ts a A0 nj c0 b0 b1 b2 wh i v9 v10 v11 v12)
    (hQ : ∀ a', Ts a' A0 nj c0 b0 b1 b2 wh i v9 v10 v11 v12 → a'.tmps[27]? = some (.bool (decide ((i : Int) < (nj : Int)))) → Q .normal a' W) : (cR Try.f34 5).wp Try.prog Q a W := by
  conv => arg 2; whnf
  obtain ⟨sz, df, e1, e3, e5, e6, e7, e8, e9, e10, e11, e12⟩ := T
  have HQ := Aside0.mk hQ
  clear hQ
  refine wp_region_list ?_
  iterate 4
    with_reducible refine wpList_step fun K hK => ?_
    go_simp
    with_reducible refine hK _ _ ?_
    clear hK K
  with_reducible refine wpList_nil ?_
  with_reducible refine HQ.out _ ?_ ?_
  · exact ⟨by simp [sz], by simp [df], by simp [sz, e1], by simp [sz, e3], by simp [sz, e5], by simp [sz, e6], by simp [sz, e7], by simp [sz, e8], by simp [sz, e9], by simp [sz, e10], by simp [sz, e11], by simp [sz, e12]⟩
  · simp [sz]
set_option maxHeartbeats 400000 in
set_option maxRecDepth 100000 in
theorem rs_r6 {Q : Exit → Act → World → Prop} (a : Act) (W : World) (A0 : Option Addr) (nj c0 b0 b1 b2 : Nat) (wh : Bool) (i : Nat) (v9 v10 v11 v12 : Value) (T : Ts a A0 nj c0 b0 b1 b2 wh i v9 v10 v11 v12) (hw : wrap64 ((i : Int) + 1) = (i : Int) + 1)
    (hQ : ∀ a', Ts a' A0 nj c0 b0 b1 b2 wh (i + 1) v9 v10 v11 v12 → Q .normal a' W) : (cR Try.f34 6).wp Try.prog Q a W := by
  conv => arg 2; whnf
  obtain ⟨sz, df, e1, e3, e5, e6, e7, e8, e9, e10, e11, e12⟩ := T
  have HQ := Aside0.mk hQ
  clear hQ
  refine wp_region_list ?_
  iterate 3
    with_reducible refine wpList_step fun K hK => ?_
    go_simp
    with_reducible refine hK _ _ ?_
    clear hK K
  with_reducible refine wpList_nil ?_
  with_reducible refine HQ.out _ ?_
  exact ⟨by simp [sz], by simp [df], by simp [sz, e1], by simp [sz, e3], by simp [sz, e5], by simp [sz, e6], by simp [sz, e7], by simp [sz, i64_w, hw], by simp [sz, e9], by simp [sz, e10], by simp [sz, e11], by simp [sz, e12]⟩
set_option maxHeartbeats 400000 in
set_option maxRecDepth 100000 in
theorem rs_r34 {Q : Exit → Act → World → Prop} (a : Act) (W : World) (A0 : Option Addr) (nj c0 b0 b1 b2 : Nat) (sz : a.tmps.size = 150) (df : a.defers = []) (e1 : a.tmps[1]'(by omega) = .slice A0 nj c0) (e3 : a.tmps[3]'(by omega) = .pointer (some ⟨b0, 0, none⟩)) (e5 : a.tmps[5]'(by omega) = .pointer (some ⟨b1, 0, none⟩)) (e6 : a.tmps[6]'(by omega) = .pointer (some ⟨b2, 0, none⟩)) (X : Code) (Y : Code)
    (hQ : ∀ a' v9 v10 v11 v12, Ts a' A0 nj c0 b0 b1 b2 true 0 v9 v10 v11 v12 → X.wp Try.prog (Exit.then (Y.wp Try.prog Q) Q) a' W) : ((cR Try.f34 3).seq (((cR Try.f34 4).seq X).seq Y)).wp Try.prog Q a W := by
  have HQ := Aside0.mk hQ
  clear hQ
  refine wp_seq ?_
  refine wp_region_list ?_
  with_reducible refine wpList_step fun K hK => ?_
  go_simp
  with_reducible refine hK _ _ ?_
  clear hK K
  with_reducible refine wpList_nil ?_
  refine wp_seq ?_
  refine wp_seq ?_
  refine wp_region_list ?_
  with_reducible refine wpList_step fun K hK => ?_
  go_simp
  with_reducible refine hK _ _ ?_
  clear hK K
  with_reducible refine wpList_nil ?_
  refine reabs2 (F := fun a w => Exit.then _ _ .normal a w) (fun a => ∃ v9 v10 v11 v12, Ts a A0 nj c0 b0 b1 b2 true 0 v9 v10 v11 v12) ⟨_, _, _, _, by simp [sz], by simp [df], by simp [sz, e1], by simp [sz, e3], by simp [sz, e5], by simp [sz, e6], by simp [sz], by simp [sz], rfl, rfl, rfl, rfl⟩ ?_
  rintro a' ⟨v9, v10, v11, v12, T⟩
  exact HQ.out a' v9 v10 v11 v12 T
set_option maxHeartbeats 1000000 in
set_option maxRecDepth 100000 in
theorem rs_rest (W0 W : World) (a : Act) (J : List (List S40)) (hf : Fit J) (P : Pst) (A0 At Af Ad Aj Am As : Option Addr) (c0 ct cf cd cj cm cs : Nat) (D : Dat W0 J P A0 c0 At ct Af cf Ad cd Aj cj Am cm As cs)
    (b0 b1 b2 : Nat) (b : List Int × Int) (Ab : Option Addr) (cb : Nat) (sz : a.tmps.size = 150) (df : a.defers = []) (e1 : a.tmps[1]'(by omega) = .slice A0 J.length c0) (e3 : a.tmps[3]'(by omega) = .pointer (some ⟨b0, 0, none⟩)) (e5 : a.tmps[5]'(by omega) = .pointer (some ⟨b1, 0, none⟩)) (e6 : a.tmps[6]'(by omega) = .pointer (some ⟨b2, 0, none⟩))
    (hN : Nw W0 W #[.slice At (baseN J J.length) ct, .slice Af J.length cf, .slice Ad J.length cd, .slice Aj J.length cj, .slice Am 4 cm, .slice As (baseN J J.length) cs, .int .i64 P.en] b0 b1 b2 b Ab cb) (hB : BokP (baseN J J.length) b) (V : Pst → List Int × Int → List Int × Int) (hnx : ∀ i, i < J.length → ∃ k : Nat, P.dn.getD i 0 = (k : Int) ∧ k ≤ lenN J i)
    (hV : ∀ i, i < J.length → P.dn.getD i 0 ≠ (lenN J i : Int) → SearchAt J V (putP J P i)) (hBV : ∀ i, i < J.length → P.dn.getD i 0 ≠ (lenN J i : Int) → ∀ b, BokP (baseN J J.length) b → BokP (baseN J J.length) (V (putP J P i) b)) (r : List Int × Int)
    (hr : r = if (loopP J V P b J.length).2 = true ∧ ((loopP J V P b J.length).1.2 < 0 ∨ P.en < (loopP J V P b J.length).1.2 ∨ (P.en = (loopP J V P b J.length).1.2 ∧ lessF P.st (loopP J V P b J.length).1.1 = true)) then (P.st, P.en) else (loopP J V P b J.length).1) :
    (cF Try.f34 3).wp Try.prog (bodyPost Try.prog Try.f34 (SrPost W0 r)) a W := by
  conv => arg 2; whnf
  have hbok : ∀ i, i ≤ J.length → BokP (baseN J J.length) (loopP J V P b i).1 := by
    intro i
    induction i with
    | zero => exact fun _ => hB
    | succ i ih =>
      intro hi
      rw [loopP]
      split
      · exact ih (by omega)
      · rename_i hne
        exact hBV i hi hne _ (ih (by omega))
  refine rs_r34 a W A0 J.length c0 b0 b1 b2 sz df e1 e3 e5 e6 _ _ ?_
  clear sz df e1 e3 e5 e6
  intro a v9 v10 v11 v12 T
  refine wp_block ?_
  refine wp_loop (fun a w' => ∃ i, i ≤ J.length ∧ (∃ v9 v10 v11 v12, Ts a A0 J.length c0 b0 b1 b2 (loopP J V P b i).2 i v9 v10 v11 v12) ∧ ∃ Ab cb, Nw W0 w' #[.slice At (baseN J J.length) ct, .slice Af J.length cf, .slice Ad J.length cd, .slice Aj J.length cj, .slice Am 4 cm, .slice As (baseN J J.length) cs, .int .i64 P.en] b0 b1 b2 (loopP J V P b i).1 Ab cb) (fun a _ => J.length - (intOf (a.tmps.getD 8 undef)).toNat) ?_ ?_
  · exact ⟨0, Nat.zero_le _, ⟨_, _, _, _, T⟩, Ab, cb, hN⟩
  clear T hN
  rintro a wr ⟨i, hi, ⟨v9, v10, v11, v12, T⟩, Ab, cb, hN⟩
  have hmu : ∀ (a : Act) (wh : Bool) (i : Nat) (v9 v10 v11 v12 : Value), Ts a A0 J.length c0 b0 b1 b2 wh i v9 v10 v11 v12 → (intOf (a.tmps.getD 8 undef)).toNat = i := by
    intro a wh i v9 v10 v11 v12 T
    have h8 := T.e8
    have hs := T.sz
    have : a.tmps.getD 8 undef = .int .i64 (i : Int) := by simp [hs, h8]
    rw [this]
    simp [intOf]
  rw [hmu _ _ _ _ _ _ _ T]
  by_cases hlt : i < J.length
  · obtain ⟨k, hk, hkl⟩ := hnx i hlt
    refine wp_seq ?_
    refine wp_seq ?_
    refine rs_r5 a wr A0 J.length c0 b0 b1 b2 _ i _ _ _ _ T ?_
    clear T
    intro a T e27
    rw [decide_eq_true (Int.ofNat_lt.2 hlt)] at e27
    refine wp_cond (t := true) (ev_of e27) ?_
    refine wp_skip ?_
    refine wp_seq ?_
    refine wp_block ?_
    have hj4 := hf.jl
    have hwi : wrap64 ((i : Int) + 1) = (i : Int) + 1 := wr64_in _ (by omega)
    refine rs_round (fun c a a' w hd h => ⟨hd.trans h.1, h.2⟩) W0 wr a J hf P A0 At Af Ad Aj Am As c0 ct cf cd cj cm cs D b0 b1 b2 i _ _ _ _ _ _ Ab cb T hN (hbok i hi) hlt k hk hkl V (fun hne => hV i hlt (by rw [hk]; intro q; exact hne (Int.ofNat.inj q))) ?_ ?_
    · rintro he a' W' ⟨v9, v10, v11, v12, T'⟩ hN'
      refine rs_r6 a' W' A0 J.length c0 b0 b1 b2 _ i _ _ _ _ T' hwi ?_
      intro a2 T2
      have e : loopP J V P b (i + 1) = loopP J V P b i := by rw [loopP, if_pos (by rw [hk, he])]
      refine ⟨⟨i + 1, hlt, ⟨_, _, _, _, by rw [e]; exact T2⟩, Ab, cb, by rw [e]; exact hN'⟩, ?_⟩
      rw [hmu _ _ _ _ _ _ _ T2]
      omega
    · rintro hne a' W' A' c' ⟨v9, v10, v11, v12, T'⟩ hN'
      refine rs_r6 a' W' A0 J.length c0 b0 b1 b2 _ i _ _ _ _ T' hwi ?_
      intro a2 T2
      have e : loopP J V P b (i + 1) = (V (putP J P i) (loopP J V P b i).1, false) := by rw [loopP, if_neg (by rw [hk]; intro q; exact hne (Int.ofNat.inj q))]
      refine ⟨⟨i + 1, hlt, ⟨_, _, _, _, by rw [e]; exact T2⟩, A', c', by rw [e]; exact hN'⟩, ?_⟩
      rw [hmu _ _ _ _ _ _ _ T2]
      omega
  · obtain rfl : i = J.length := Nat.le_antisymm hi (Nat.le_of_not_lt hlt)
    refine wp_seq ?_
    refine wp_seq ?_
    refine rs_r5 a wr A0 J.length c0 b0 b1 b2 _ J.length _ _ _ _ T ?_
    clear T
    intro a T e27
    rw [decide_eq_false (Int.lt_irrefl _)] at e27
    refine wp_cond (t := false) (ev_of e27) ?_
    refine wp_exit ?_
    have hb := hbok J.length (Nat.le_refl _)
    generalize loopP J V P b J.length = B at T hN hr hb
    obtain ⟨⟨bl, sp⟩, wh⟩ := B
    simp only at T hN hr hb
    have hold : (#[.slice none 0 0, .int .i64 0] : Array Value).size = 2 := rfl
    have q5 : wr.cell? ⟨b0, 5, none⟩ = some (.slice As (baseN J J.length) cs) := (blk_cell hN.p 5).trans rfl
    have q6 : wr.cell? ⟨b0, 6, none⟩ = some (.int .i64 P.en) := (blk_cell hN.p 6).trans rfl
    have p1 : wr.cell? ⟨b1, 1, none⟩ = some (.int .i64 sp) := (blk_cell hN.bs 1).trans rfl
    have p0 : wr.cell? ⟨b1, 0, none⟩ = some (.slice Ab bl.length cb) := (blk_cell hN.bs 0).trans rfl
    have hst := D.s.len
    have hyes : r = (P.st, P.en) → ∀ (a' : Act) (W' : World), Below wr.heap.size wr W' → (∃ v9 v10 v11 v12, Ts a' A0 J.length c0 b0 b1 b2 wh J.length v9 v10 v11 v12) → SrPost W0 r (.returned (.agg #[.slice As (baseN J J.length) cs, .int .i64 P.en])) (W'.setRow b2 #[.slice As (baseN J J.length) cs, .int .i64 P.en]) := by
      rintro rfl a' W' hbw _
      have hN' := hN.below_ hbw
      refine ⟨below_setRow hN'.below hN'.lo.2.2 _, As, cs, ?_, ?_⟩
      · rw [hst]
      · show RowN _ As P.st.length cs P.st
        rw [hst]
        exact (D.s.below hN'.below).setRow hN'.rs (by decide)
    have hnot : r = (bl, sp) → SrPost W0 r (.returned (.agg #[.slice Ab bl.length cb, .int .i64 sp])) (wr.setRow b2 #[.slice Ab bl.length cb, .int .i64 sp]) := by
      rintro rfl
      exact ⟨below_setRow hN.below hN.lo.2.2 _, Ab, cb, rfl, hN.bb.setRow hN.rs (by decide)⟩
    refine wp_seq ?_
    refine wp_seq ?_
    cases hwh : wh with
    | false =>
      refine rs_r14a a wr A0 J.length c0 b0 b1 b2 wh _ _ _ _ _ T hwh ?_
      intro a' T' e143
      refine wp_cond (t := false) (ev_of e143) ?_
      refine wp_skip ?_
      exact rs_r16 a' wr A0 J.length c0 b0 b1 b2 wh _ _ _ _ _ T' Ab bl.length cb sp _ hold hN.bs hN.rs (hnot (by rw [hr, if_neg (by rw [hwh]; simp)]))
    | true =>
      by_cases hs : sp < 0
      · refine rs_r14b a wr A0 J.length c0 b0 b1 b2 wh _ _ _ _ _ T sp P.en hwh hs p1 q6 ?_
        intro a' T' e143
        refine wp_cond_true (ev_of e143) ?_
        exact rs_r15 (R := SrPost W0 r) (Q := Exit.then _ (bodyPost Try.prog Try.f34 (SrPost W0 r))) (fun _ _ h => h) a' wr A0 J.length c0 b0 b1 b2 wh _ _ _ _ _ T' As (baseN J J.length) cs P.en _ hold q5 q6 hN.rs (hyes (by rw [hr, if_pos ⟨hwh, Or.inl hs⟩]) a' wr (Below.refl _ _) ⟨_, _, _, _, T'⟩)
      · by_cases he : P.en < sp
        · refine rs_r14c a wr A0 J.length c0 b0 b1 b2 wh _ _ _ _ _ T sp P.en hwh hs he p1 q6 ?_
          intro a' T' e143
          refine wp_cond_true (ev_of e143) ?_
          exact rs_r15 (R := SrPost W0 r) (Q := Exit.then _ (bodyPost Try.prog Try.f34 (SrPost W0 r))) (fun _ _ h => h) a' wr A0 J.length c0 b0 b1 b2 wh _ _ _ _ _ T' As (baseN J J.length) cs P.en _ hold q5 q6 hN.rs (hyes (by rw [hr, if_pos ⟨hwh, Or.inr (Or.inl he)⟩]) a' wr (Below.refl _ _) ⟨_, _, _, _, T'⟩)
        · by_cases hq : P.en = sp
          · have hbl : bl.length = baseN J J.length := hb (by show 0 ≤ sp; omega)
            have hn10 : baseN J J.length ≤ 10 := hf.nl
            have hL := tinplateref06_less.calls (P.st.length + 1) As cs P.st Ab cb bl (lessF P.st bl) wr (by rw [hst]; exact Kd.C_below D.s.2.1 hN.below) (by rw [hst]; exact D.s.1) hN.bb.2.1 hN.bb.1 (less_f _ _ (by rw [hst, hbl]) (by omega))
            rw [hst] at hL
            refine rs_r14e a wr A0 J.length c0 b0 b1 b2 wh _ _ _ _ _ T sp P.en hwh hs he hq p1 q6 As Ab (baseN J J.length) cs bl.length cb (lessF P.st bl) q5 p0 hL ?_
            intro a' W' hd T' e143
            have hN' := hN.below_ hd.below
            cases hl : lessF P.st bl with
            | true =>
              rw [hl] at e143
              refine wp_cond_true (ev_of e143) ?_
              exact rs_r15 (R := SrPost W0 r) (Q := Exit.then _ (bodyPost Try.prog Try.f34 (SrPost W0 r))) (fun _ _ h => h) a' W' A0 J.length c0 b0 b1 b2 wh _ _ _ _ _ T' As (baseN J J.length) cs P.en _ hold ((blk_cell hN'.p 5).trans rfl) ((blk_cell hN'.p 6).trans rfl) hN'.rs (hyes (by rw [hr, if_pos ⟨hwh, Or.inr (Or.inr ⟨hq, hl⟩)⟩]) a' W' hd.below ⟨_, _, _, _, T'⟩)
            | false =>
              rw [hl] at e143
              refine wp_cond (t := false) (ev_of e143) ?_
              refine wp_skip ?_
              have hr2 : r = (bl, sp) := by rw [hr, if_neg (by rintro ⟨_, q | q | q⟩; exact hs q; exact he q; rw [hl] at q; cases q.2)]
              refine rs_r16 a' W' A0 J.length c0 b0 b1 b2 wh _ _ _ _ _ T' Ab bl.length cb sp _ hold hN'.bs hN'.rs ?_
              rw [hr2]
              exact ⟨below_setRow hN'.below hN'.lo.2.2 _, Ab, cb, rfl, hN'.bb.setRow hN'.rs (by decide)⟩
          · refine rs_r14d a wr A0 J.length c0 b0 b1 b2 wh _ _ _ _ _ T sp P.en hwh hs he hq p1 q6 ?_
            intro a' T' e143
            refine wp_cond (t := false) (ev_of e143) ?_
            refine wp_skip ?_
            exact rs_r16 a' wr A0 J.length c0 b0 b1 b2 wh _ _ _ _ _ T' Ab bl.length cb sp _ hold hN.bs hN.rs (hnot (by rw [hr, if_neg (by rintro ⟨_, q | q | q⟩; exact hs q; exact he q; exact hq q.1)]))
set_option maxHeartbeats 2000000 in
set_option maxRecDepth 100000 in
theorem rs_node (J : List (List S40)) (hf : Fit J) (P : Pst) (V : Pst → List Int × Int → List Int × Int) (hnx : ∀ i, i < J.length → ∃ k : Nat, P.dn.getD i 0 = (k : Int) ∧ k ≤ lenN J i)
    (hV : ∀ i, i < J.length → P.dn.getD i 0 ≠ (lenN J i : Int) → SearchAt J V (putP J P i)) (hBV : ∀ i, i < J.length → P.dn.getD i 0 ≠ (lenN J i : Int) → ∀ b, BokP (baseN J J.length) b → BokP (baseN J J.length) (V (putP J P i) b)) : SearchAt J (nodeP J V) P := by
  intro W b Ab cb A0 c0 At ct Af cf Ad cd Aj cj Am cm As cs D hbb hB
  have hN : Nw W (((W.alloc (Obj.cells #[.slice At (baseN J J.length) ct, .slice Af J.length cf, .slice Ad J.length cd, .slice Aj J.length cj, .slice Am 4 cm, .slice As (baseN J J.length) cs, .int .i64 P.en] 65)).alloc (Obj.cells #[.slice Ab b.1.length cb, .int .i64 b.2] 67)).alloc (Obj.cells #[.slice none 0 0, .int .i64 0] 67)) #[.slice At (baseN J J.length) ct, .slice Af J.length cf, .slice Ad J.length cd, .slice Aj J.length cj, .slice Am 4 cm, .slice As (baseN J J.length) cs, .int .i64 P.en] W.heap.size (W.heap.size + 1) (W.heap.size + 1 + 1) b Ab cb := by
    have hb3 : Below W.heap.size W (((W.alloc (Obj.cells #[.slice At (baseN J J.length) ct, .slice Af J.length cf, .slice Ad J.length cd, .slice Aj J.length cj, .slice Am 4 cm, .slice As (baseN J J.length) cs, .int .i64 P.en] 65)).alloc (Obj.cells #[.slice Ab b.1.length cb, .int .i64 b.2] 67)).alloc (Obj.cells #[.slice none 0 0, .int .i64 0] 67)) := below_alloc (below_alloc (below_alloc (Below.refl _ _) _) _) _
    have h1 := blk_new (W.alloc (Obj.cells #[.slice At (baseN J J.length) ct, .slice Af J.length cf, .slice Ad J.length cd, .slice Aj J.length cj, .slice Am 4 cm, .slice As (baseN J J.length) cs, .int .i64 P.en] 65)) (Obj.cells #[.slice Ab b.1.length cb, .int .i64 b.2] 67)
    rw [show (W.alloc (Obj.cells #[.slice At (baseN J J.length) ct, .slice Af J.length cf, .slice Ad J.length cd, .slice Aj J.length cj, .slice Am 4 cm, .slice As (baseN J J.length) cs, .int .i64 P.en] 65)).heap.size = W.heap.size + 1 by simp] at h1
    have h2 := blk_new ((W.alloc (Obj.cells #[.slice At (baseN J J.length) ct, .slice Af J.length cf, .slice Ad J.length cd, .slice Aj J.length cj, .slice Am 4 cm, .slice As (baseN J J.length) cs, .int .i64 P.en] 65)).alloc (Obj.cells #[.slice Ab b.1.length cb, .int .i64 b.2] 67)) (Obj.cells #[.slice none 0 0, .int .i64 0] 67)
    rw [show ((W.alloc (Obj.cells #[.slice At (baseN J J.length) ct, .slice Af J.length cf, .slice Ad J.length cd, .slice Aj J.length cj, .slice Am 4 cm, .slice As (baseN J J.length) cs, .int .i64 P.en] 65)).alloc (Obj.cells #[.slice Ab b.1.length cb, .int .i64 b.2] 67)).heap.size = W.heap.size + 1 + 1 by simp] at h2
    exact ⟨hb3, ⟨Nat.le_refl _, by omega, by omega⟩, ⟨by omega, by omega, by omega⟩, blk_alloc (blk_alloc (blk_new W _) _) _, blk_alloc h1 _, h2, hbb.below hb3⟩
  have HN := Aside0.mk hN
  by_cases hpr : 0 ≤ b.2 ∧ P.en > b.2
  · have er : nodeP J V P b = b := by unfold nodeP; rw [if_pos hpr]
    rw [er]
    have D1 : decide (b.2 ≥ 0) = true := decide_eq_true hpr.1
    have D2 : decide (P.en > b.2) = true := decide_eq_true hpr.2
    clear D hbb hB hN hV hBV hnx
    go_enter Try.func34, Try.ntmps34
    go_wp2_with (first
      | (refine wpList_load_row rfl 67 (.tmp 5) rfl (W.heap.size + 1) rfl 67 #[.slice Ab b.1.length cb, .int .i64 b.2] (0, 0) _ HN.out.bs Try.underlying67 rfl info67z ?_)
      | (refine wpList_store_row rfl 67 (.tmp 6) (.tmp 23) rfl (W.heap.size + 1 + 1) #[.slice Ab b.1.length cb, .int .i64 b.2] rfl rfl 67 #[.slice none 0 0, .int .i64 0] HN.out.rs info67z rfl (by simp [Value.oneCell']) ?_))
    refine bodyPost_ret (v := .agg #[.slice Ab b.1.length cb, .int .i64 b.2]) (results_cell_row rfl _ _ (W.heap.size + 1 + 1) 67 #[.slice Ab b.1.length cb, .int .i64 b.2] (0, 0) _ rfl (setRow_heap _ _ _ _ _ _ HN.out.rs) Try.underlying67 rfl info67z) rfl ?_
    exact ⟨below_setRow HN.out.below (by omega) _, Ab, cb, rfl, HN.out.bb.setRow HN.out.rs (by decide)⟩
  · have hno : (0 ≤ b.2 ∧ ¬ P.en > b.2) ∨ ¬ 0 ≤ b.2 := by omega
    have er : nodeP J V P b = if (loopP J V P b J.length).2 = true ∧ ((loopP J V P b J.length).1.2 < 0 ∨ P.en < (loopP J V P b J.length).1.2 ∨ (P.en = (loopP J V P b J.length).1.2 ∧ lessF P.st (loopP J V P b J.length).1.1 = true)) then (P.st, P.en) else (loopP J V P b J.length).1 := by unfold nodeP; rw [if_neg hpr]
    have HR := Aside0.mk (fun a sz df e1 e3 e5 e6 => rs_rest W _ a J hf P A0 At Af Ad Aj Am As c0 ct cf cd cj cm cs D _ _ _ b Ab cb sz df e1 e3 e5 e6 hN hB V hnx hV hBV _ er)
    clear D hbb hB hN hV hBV hnx er hpr HN
    go_enter Try.func34, Try.ntmps34
    refine wp_seq ?_
    refine wp_region_list ?_
    iterate 3 (refine wpList_step fun K hK => ?_; go_simp; (refine hK _ _ ?_; clear hK K))
    refine wpList_nil ?_
    refine wp_seq_k fun K hK => ?_
    have HK : Aside0 (∀ a : Act, (a.tmps.size = 150 ∧ a.defers = [] ∧ a.tmps[1]? = some (.slice A0 J.length c0) ∧ a.tmps[3]? = some (.pointer (some ⟨W.heap.size, 0, none⟩)) ∧ a.tmps[5]? = some (.pointer (some ⟨W.heap.size + 1, 0, none⟩)) ∧ a.tmps[6]? = some (.pointer (some ⟨W.heap.size + 1 + 1, 0, none⟩))) → K a _) := ⟨fun a h => hK a _ (HR.out a h.1 h.2.1 (Array.getElem?_eq_some_iff.1 h.2.2.1).2 (Array.getElem?_eq_some_iff.1 h.2.2.2.1).2 (Array.getElem?_eq_some_iff.1 h.2.2.2.2.1).2 (Array.getElem?_eq_some_iff.1 h.2.2.2.2.2).2)⟩
    clear hK HR
    rcases hno with ⟨h1, h2⟩ | h1
    · have D1 : decide (b.2 ≥ 0) = true := decide_eq_true h1
      have D2 : decide (P.en > b.2) = false := decide_eq_false h2
      clear h1 h2
      go_wp2
      exact HK.out _ ⟨rfl, rfl, rfl, rfl, rfl, rfl⟩
    · have D1 : decide (b.2 ≥ 0) = false := decide_eq_false (by omega)
      clear h1
      go_wp2
      exact HK.out _ ⟨rfl, rfl, rfl, rfl, rfl, rfl⟩
theorem search_ok (J : List (List S40)) (hf : Fit J) : ∀ (f : Nat) (N : Nd) (P : Pst), OkN J f N → RelP J P N → SearchAt J (searchP J f) P
  | 0, N, P, h, hr => by
    have hd : ∀ i, i < J.length → P.dn.getD i 0 = (lenN J i : Int) := fun i hi => by
      rw [hr.nx i hi]
      have h1 := lf_zero J N.nx J.length h.lf i hi
      have h2 := h.nl i hi
      omega
    exact rs_node J hf P _ (fun i hi => ⟨lenN J i, hd i hi, Nat.le_refl _⟩) (fun i hi q => absurd (hd i hi) q) (fun i hi q => absurd (hd i hi) q)
  | f + 1, N, P, h, hr => by
    have hne : ∀ i, i < J.length → P.dn.getD i 0 ≠ (lenN J i : Int) → N.nx i ≠ lenN J i := fun i hi q e => q (by rw [hr.nx i hi, e])
    exact rs_node J hf P _ (fun i hi => ⟨N.nx i, hr.nx i hi, h.nl i hi⟩) (fun i hi q => search_ok J hf f _ _ (put_ok hf h hi (hne i hi q)) (putP_rel hf h hr hi (hne i hi q))) (fun i hi q b hb => (searchP_fold hf f _ _ b (put_ok hf h hi (hne i hi q)) (putP_rel hf h hr hi (hne i hi q)) hb).2)
end Go.Proofs.Ytipkhaicjjeieaa.V
