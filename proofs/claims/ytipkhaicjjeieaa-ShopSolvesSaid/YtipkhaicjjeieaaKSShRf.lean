/- Walks of the reference's search: the round over a job. -/
import Derived.Test.YtipkhaicjjeieaaKSShRd
import Derived.Test.YtipkhaicjjeieaaKSShRe
namespace Go.Proofs.Ytipkhaicjjeieaa.V
set_option linter.unusedSimpArgs false
set_option linter.unusedVariables false
open Go.RowKit Go.Proofs.YtipkhaicjjeieaaW.PrintWords Go.Proofs.YtipkhaicjjeieaaW.PrintLast Go.Proofs.YtipkhaicjjeieaaW.PrintMore
theorem quiet_then {Q : Exit → Act → World → Prop} {K : Act → World → Prop} (h : QuietP Q) : QuietP (Exit.then K Q) := fun c a a' w hd h1 => h c a a' w hd h1
set_option maxHeartbeats 400000 in
set_option maxRecDepth 100000 in
theorem rs_r8 {Q : Exit → Act → World → Prop} (a : Act) (W : World) (A0 : Option Addr) (nj c0 b0 b1 b2 : Nat) (wh : Bool) (i : Nat) (v9 v10 v11 v12 : Value) (T : Ts a A0 nj c0 b0 b1 b2 wh i v9 v10 v11 v12)
    (hQ : ∀ a', Ts a' A0 nj c0 b0 b1 b2 false i v9 v10 v11 v12 → Q .normal a' W) : (cR Try.f34 8).wp Try.prog Q a W := by
  conv => arg 2; whnf
  obtain ⟨sz, df, e1, e3, e5, e6, e7, e8, e9, e10, e11, e12⟩ := T
  have HQ := Aside0.mk hQ
  clear hQ
  refine wp_region_list ?_
  with_reducible refine wpList_step fun K hK => ?_
  go_simp
  with_reducible refine hK _ _ ?_
  clear hK K
  with_reducible refine wpList_nil ?_
  with_reducible refine HQ.out _ ?_
  exact ⟨by simp [sz], by simp [df], by simp [sz, e1], by simp [sz, e3], by simp [sz, e5], by simp [sz, e6], by simp [sz], by simp [sz, e8], by simp [sz, e9], by simp [sz, e10], by simp [sz, e11], by simp [sz, e12]⟩
def T40 (J : List (List S40)) : List S40 := (tasksN J J.length).map (·.f0)
theorem T40_len (J : List (List S40)) : (T40 J).length = baseN J J.length := by simp [T40, baseN]
theorem T40_get {J : List (List S40)} {j k : Nat} (hj : j < J.length) (hk : k < lenN J j) : (T40 J).getD (baseN J j + k) z40 = (J.getD j []).getD k z40 := by
  obtain ⟨h1, h2⟩ := tasksN_get J J.length j k hj hk
  unfold T40 baseN
  rw [List.getD_eq_getElem?_getD, List.getElem?_map, List.getElem?_eq_getElem h1]
  rw [List.getD_eq_getElem?_getD, List.getElem?_eq_getElem h1, Option.getD_some] at h2
  rw [h2]
  rfl
structure Dat (W : World) (J : List (List S40)) (P : Pst) (A0 : Option Addr) (c0 : Nat) (At : Option Addr) (ct : Nat) (Af : Option Addr) (cf : Nat) (Ad : Option Addr) (cd : Nat) (Aj : Option Addr) (cj : Nat) (Am : Option Addr) (cm : Nat) (As : Option Addr) (cs : Nat) : Prop where
  jobs : Kd.C (Kd.slice 40 k40) W A0 J.length J
  jc : J.length ≤ c0
  t : Kd.C k40 W At (baseN J J.length) (T40 J)
  tc : baseN J J.length ≤ ct
  f : RowN W Af J.length cf (firstsN J J.length)
  d : RowN W Ad J.length cd P.dn
  j : RowN W Aj J.length cj P.jb
  m : RowN W Am 4 cm P.ma
  s : RowN W As (baseN J J.length) cs P.st
theorem Dat.below {W W1 : World} {J : List (List S40)} {P : Pst} {A0 At Af Ad Aj Am As : Option Addr} {c0 ct cf cd cj cm cs : Nat} (h : Dat W J P A0 c0 At ct Af cf Ad cd Aj cj Am cm As cs) (hb : Below W.heap.size W W1) : Dat W1 J P A0 c0 At ct Af cf Ad cd Aj cj Am cm As cs :=
  ⟨Kd.C_below h.jobs hb, h.jc, Kd.C_below h.t hb, h.tc, h.f.below hb, h.d.below hb, h.j.below hb, h.m.below hb, h.s.below hb⟩
def SrPost (w : World) (r : List Int × Int) (e : Ending) (w' : World) : Prop :=
  Below w.heap.size w w' ∧ ∃ A c, e = .returned (.agg #[.slice A r.1.length c, .int .i64 r.2]) ∧ RowN w' A r.1.length c r.1
def SearchAt (J : List (List S40)) (V : Pst → List Int × Int → List Int × Int) (P : Pst) : Prop :=
  ∀ (W : World) (b : List Int × Int) (Ab : Option Addr) (cb : Nat) (A0 : Option Addr) (c0 : Nat) (At : Option Addr) (ct : Nat) (Af : Option Addr) (cf : Nat) (Ad : Option Addr) (cd : Nat) (Aj : Option Addr) (cj : Nat) (Am : Option Addr) (cm : Nat) (As : Option Addr) (cs : Nat),
    Dat W J P A0 c0 At ct Af cf Ad cd Aj cj Am cm As cs → RowN W Ab b.1.length cb b.1 → BokP (baseN J J.length) b →
    Calls Try.prog 34 #[.agg #[.slice At (baseN J J.length) ct, .slice Af J.length cf, .slice Ad J.length cd, .slice Aj J.length cj, .slice Am 4 cm, .slice As (baseN J J.length) cs, .int .i64 P.en], .slice A0 J.length c0, .agg #[.slice Ab b.1.length cb, .int .i64 b.2]] W (SrPost W (V P b))
structure Nw (W0 W : World) (pc : Array Value) (b0 b1 b2 : Nat) (b : List Int × Int) (Ab : Option Addr) (cb : Nat) : Prop where
  below : Below W0.heap.size W0 W
  lo : W0.heap.size ≤ b0 ∧ W0.heap.size ≤ b1 ∧ W0.heap.size ≤ b2
  ne : b0 ≠ b1 ∧ b0 ≠ b2 ∧ b1 ≠ b2
  p : W.heap[b0]? = some (.cells pc 65 (0, 0))
  bs : W.heap[b1]? = some (.cells #[.slice Ab b.1.length cb, .int .i64 b.2] 67 (0, 0))
  rs : W.heap[b2]? = some (.cells #[.slice none 0 0, .int .i64 0] 67 (0, 0))
  bb : RowN W Ab b.1.length cb b.1
theorem Nw.below_ {W0 W W1 : World} {pc : Array Value} {b0 b1 b2 : Nat} {b : List Int × Int} {Ab : Option Addr} {cb : Nat} (h : Nw W0 W pc b0 b1 b2 b Ab cb) (hb : Below W.heap.size W W1) : Nw W0 W1 pc b0 b1 b2 b Ab cb :=
  ⟨below_step h.below hb, h.lo, h.ne, blk_below h.p hb, blk_below h.bs hb, blk_below h.rs hb, h.bb.below hb⟩
theorem Nw.take {W0 W W1 : World} {pc : Array Value} {b0 b1 b2 : Nat} {b r : List Int × Int} {Ab A : Option Addr} {cb c : Nat} (h : Nw W0 W pc b0 b1 b2 b Ab cb) (hb : Below W.heap.size W W1) (hr : RowN W1 A r.1.length c r.1) : Nw W0 (W1.setRow b1 #[.slice A r.1.length c, .int .i64 r.2]) pc b0 b1 b2 r A c := by
  have h1 := h.below_ hb
  exact ⟨below_setRow h1.below h.lo.2.1 _, h.lo, h.ne, by rw [setRow_other _ _ _ _ h.ne.1]; exact h1.p, setRow_heap _ _ _ _ _ _ h1.bs, by rw [setRow_other _ _ _ _ (fun e => h.ne.2.2 e.symm)]; exact h1.rs, hr.setRow h1.bs (by decide)⟩
set_option maxHeartbeats 2000000 in
set_option maxRecDepth 100000 in
theorem rs_round {Q : Exit → Act → World → Prop} (hp : QuietP Q) (W0 W : World) (a : Act) (J : List (List S40)) (hf : Fit J) (P : Pst) (A0 At Af Ad Aj Am As : Option Addr) (c0 ct cf cd cj cm cs : Nat) (D : Dat W0 J P A0 c0 At ct Af cf Ad cd Aj cj Am cm As cs)
    (b0 b1 b2 i : Nat) (wh : Bool) (v9 v10 v11 v12 : Value) (b : List Int × Int) (Ab : Option Addr) (cb : Nat) (T : Ts a A0 J.length c0 b0 b1 b2 wh i v9 v10 v11 v12) (hN : Nw W0 W #[.slice At (baseN J J.length) ct, .slice Af J.length cf, .slice Ad J.length cd, .slice Aj J.length cj, .slice Am 4 cm, .slice As (baseN J J.length) cs, .int .i64 P.en] b0 b1 b2 b Ab cb) (hB : BokP (baseN J J.length) b)
    (hi : i < J.length) (k : Nat) (hk : P.dn.getD i 0 = (k : Int)) (hkl : k ≤ lenN J i) (V : Pst → List Int × Int → List Int × Int) (hV : k ≠ lenN J i → SearchAt J V (putP J P i))
    (hsame : k = lenN J i → ∀ a' W', (∃ v9 v10 v11 v12, Ts a' A0 J.length c0 b0 b1 b2 wh i v9 v10 v11 v12) → Nw W0 W' #[.slice At (baseN J J.length) ct, .slice Af J.length cf, .slice Ad J.length cd, .slice Aj J.length cj, .slice Am 4 cm, .slice As (baseN J J.length) cs, .int .i64 P.en] b0 b1 b2 b Ab cb → Q (.exit 1) a' W')
    (hnew : k ≠ lenN J i → ∀ a' W' A' c', (∃ v9 v10 v11 v12, Ts a' A0 J.length c0 b0 b1 b2 false i v9 v10 v11 v12) → Nw W0 W' #[.slice At (baseN J J.length) ct, .slice Af J.length cf, .slice Ad J.length cd, .slice Aj J.length cj, .slice Am 4 cm, .slice As (baseN J J.length) cs, .int .i64 P.en] b0 b1 b2 (V (putP J P i) b) A' c' → Q .normal a' W') :
    (cF Try.f34 7).wp Try.prog Q a W := by
  conv => arg 2; whnf
  obtain ⟨pc, hpc⟩ : ∃ pc : Array Value, pc = #[.slice At (baseN J J.length) ct, .slice Af J.length cf, .slice Ad J.length cd, .slice Aj J.length cj, .slice Am 4 cm, .slice As (baseN J J.length) cs, .int .i64 P.en] := ⟨_, rfl⟩
  rw [← hpc] at hN hsame hnew
  have PC := Aside0.mk hpc
  have hji : (i : Int) < (J.length : Int) := Int.ofNat_lt.2 hi
  obtain ⟨r0, r, Ajb, cjb, eA0, er, hr1, hr2, hr3⟩ := at_NL2 D.jobs i hi
  subst eA0
  obtain ⟨ad, ead, hd⟩ := D.d.at_ hi
  subst ead
  have hel : r.length = lenN J i := by rw [er]; rfl
  have q0 : W.cell? ⟨b0, 2, none⟩ = some (.slice (some ad) J.length cd) := (blk_cell hN.p 2).trans (by rw [hpc]; rfl)
  refine wp_seq ?_
  refine wp_seq ?_
  refine rs_r7 (quiet_then (quiet_then hp)) a W r0 J.length c0 b0 b1 b2 wh i k r.length cd cjb ad Ajb v9 v10 v11 v12 T hji q0 (by rw [← hk]; exact pw_cell_below hN.below hd) (pw_cell_below hN.below hr1) ?_
  intro a1 T1 e40
  have hN1 := hN.below_ (below_drew1 (Below.refl W.heap.size W))
  generalize W.drew = W1 at hN1 ⊢
  by_cases hkm : k = lenN J i
  · rw [show ((k : Int) == (r.length : Int)) = true from beq_iff_eq.2 (by omega)] at e40
    refine wp_cond (t := true) (ev_of e40) ?_
    refine wp_exit ?_
    exact hsame hkm a1 W1 ⟨_, _, _, _, T1⟩ hN1
  · rw [show ((k : Int) == (r.length : Int)) = false from beq_eq_false_iff_ne.2 (by omega)] at e40
    refine wp_cond (t := false) (ev_of e40) ?_
    refine wp_skip ?_
    have hlt : k < lenN J i := by omega
    obtain ⟨d1, d2, d3, d4⟩ := durN_ok hf hi hlt
    refine wp_seq ?_
    refine rs_r8 a1 W1 (some r0) J.length c0 b0 b1 b2 wh i v9 v10 v11 v12 T1 ?_
    clear T1 e40
    intro a1 T1
    obtain ⟨af, eaf, hfi⟩ := D.f.at_ hi
    subst eaf
    rw [firstsN_get J J.length i hi] at hfi
    obtain ⟨p, ep⟩ : ∃ p, p = baseN J i + k := ⟨_, rfl⟩
    have hpn : p < baseN J J.length := by have := base_lt J hi; omega
    have hn10 : baseN J J.length ≤ 10 := hf.nl
    have q1 : W1.cell? ⟨b0, 2, none⟩ = some (.slice (some ad) J.length cd) := (blk_cell hN1.p 2).trans (by rw [PC.out]; rfl)
    have q2 : W1.cell? ⟨b0, 1, none⟩ = some (.slice (some af) J.length cf) := (blk_cell hN1.p 1).trans (by rw [PC.out]; rfl)
    refine wp_seq ?_
    refine rs_r9 (quiet_then hp) a1 W1 r0 J.length c0 b0 b1 b2 false i k p (baseN J i) cd cf ad af v9 v10 v11 v12 T1 hji (by rw [ep]; exact wr64_in _ (by omega)) q1 (by rw [← hk]; exact pw_cell_below hN1.below hd) q2 (pw_cell_below hN1.below hfi) ?_
    clear T1 q1 q2
    intro a2 T2
    have hN2 := hN1.below_ (below_drew1 (Below.refl W1.heap.size W1))
    generalize W1.drew = W2 at hN2 ⊢
    obtain ⟨at_, x, eat, hx, x0, x1⟩ := at_N40 D.t p hpn
    subst eat
    rw [ep, T40_get hi hlt] at hx
    have hxm : x.f0 = (macN J i k : Int) := by rw [hx]; exact d4
    have hxd : x.f1 = durN J i k := by rw [hx]; rfl
    rw [hxm] at x0
    have q1 : W2.cell? ⟨b0, 0, none⟩ = some (.slice (some at_) (baseN J J.length) ct) := (blk_cell hN2.p 0).trans (by rw [PC.out]; rfl)
    refine wp_seq ?_
    refine rs_r10 a2 W2 (some r0) J.length c0 b0 b1 b2 false i p (baseN J J.length) ct at_ (macN J i k : Int) x.f1 v10 v11 v12 T2 (Int.ofNat_lt.2 hpn) q1 (pw_cell_below hN2.below x0) (pw_cell_below hN2.below x1) ?_
    clear T2 q1
    intro a3 T3
    have hbx := blk_new W2 (Obj.cells #[.int .i64 (macN J i k : Int), .int .i64 x.f1] 40)
    have hN3 := hN2.below_ (below_alloc (Below.refl W2.heap.size W2) (Obj.cells #[.int .i64 (macN J i k : Int), .int .i64 x.f1] 40))
    obtain ⟨bx, ebx⟩ : ∃ bx, bx = W2.heap.size := ⟨_, rfl⟩
    rw [← ebx] at T3 hbx
    generalize W2.alloc (Obj.cells #[.int .i64 (macN J i k : Int), .int .i64 x.f1] 40) = W3 at hN3 hbx ⊢
    obtain ⟨aj, eaj, hj1⟩ := D.j.at_ hi
    subst eaj
    obtain ⟨am, eam, hm1⟩ := D.m.at_ d3
    subst eam
    have q1 : W3.cell? ⟨b0, 3, none⟩ = some (.slice (some aj) J.length cj) := (blk_cell hN3.p 3).trans (by rw [PC.out]; rfl)
    have q2 : W3.cell? ⟨b0, 4, none⟩ = some (.slice (some am) 4 cm) := (blk_cell hN3.p 4).trans (by rw [PC.out]; rfl)
    refine wp_seq ?_
    refine rs_r11 (quiet_then hp) a3 W3 (some r0) J.length c0 b0 b1 b2 bx false i (macN J i k) cj cm aj am (P.jb.getD i 0) (P.ma.getD (macN J i k) 0) _ v11 v12 T3 hji (Int.ofNat_lt.2 d3) q1 (pw_cell_below hN3.below hj1) q2 ((blk_cell hbx 0).trans rfl) (pw_cell_below hN3.below hm1) ?_
    clear T3 q1 q2
    intro a4 T4
    have hN4 := hN3.below_ (below_drew1 (Below.refl W3.heap.size W3))
    have hbx4 := blk_drew hbx
    generalize W3.drew = W4 at hN4 hbx4 ⊢
    obtain ⟨s, es⟩ : ∃ s, s = mx (P.jb.getD i 0) (P.ma.getD (macN J i k) 0) := ⟨_, rfl⟩
    rw [← es] at T4
    have hS12 : S12 b0 bx (some at_) (some af) As ad aj am (baseN J J.length) J.length ct cf cd cj cm cs i k (macN J i k) P.en x.f1 W4 :=
      ⟨(blk_cell hN4.p 0).trans (by rw [PC.out]; rfl), (blk_cell hN4.p 1).trans (by rw [PC.out]; rfl), (blk_cell hN4.p 2).trans (by rw [PC.out]; rfl), (blk_cell hN4.p 3).trans (by rw [PC.out]; rfl), (blk_cell hN4.p 4).trans (by rw [PC.out]; rfl), (blk_cell hN4.p 5).trans (by rw [PC.out]; rfl), (blk_cell hN4.p 6).trans (by rw [PC.out]; rfl), by rw [← hk]; exact pw_cell_below hN4.below hd, (blk_cell hbx4 0).trans rfl, (blk_cell hbx4 1).trans rfl⟩
    have hrl := hf.rl i
    have hk4 : (k : Int) + 1 ≤ 5 := by
      have : k < 4 := by unfold lenN at hlt; omega
      omega
    refine wp_seq ?_
    refine rs_r12 (quiet_then hp) a4 W4 (some r0) c0 b0 b1 b2 bx false (some at_) (some af) As ad aj am (baseN J J.length) J.length ct cf cd cj cm cs i k (macN J i k) p P.en x.f1 s (wrap64 (s + x.f1)) v12 T4 hji (wr64_in _ (by omega)) rfl (P.dn.set i ((k : Int) + 1)) (P.jb.set i (wrap64 (s + x.f1))) (P.ma.set (macN J i k) (wrap64 (s + x.f1))) (P.st.set p s) hS12
      (fun W' hb => D.d.with_ hi (by have := hf.jl; omega) _ (below_step hN4.below hb)) (fun W' hb => D.j.with_ hi (by have := hf.jl; omega) _ (below_step hN4.below hb)) (fun W' hb => D.m.with_ d3 (by omega) _ (below_step hN4.below hb)) (fun W' hb => D.s.with_ hpn (by omega) _ (below_step hN4.below hb)) ?_
    clear T4 hS12
    intro a5 W5 bn A1 c1 A2 c2 A3 c3 A4 c4 T5 hb5 _ hbn r1 r2 r3 r4
    have hN5 := hN4.below_ hb5
    have eP : putP J P i = ⟨P.dn.set i ((k : Int) + 1), P.jb.set i (wrap64 (s + x.f1)), P.ma.set (macN J i k) (wrap64 (s + x.f1)), P.st.set p s, mx P.en (wrap64 (s + x.f1))⟩ := by
      have e1 : x.f0.toNat = macN J i k := by rw [hx]; rfl
      unfold putP
      simp only [hk, Int.toNat_natCast]
      rw [← hx, e1, ← es, ← ep]
    have hD5 : Dat W5 J (putP J P i) (some r0) c0 (some at_) ct (some af) cf A1 c1 A2 c2 A3 c3 A4 c4 := by
      have h := D.below hN5.below
      rw [eP]
      exact ⟨h.jobs, h.jc, h.t, h.tc, h.f, r1, r2, r3, r4⟩
    have hcall := hV hkm W5 b Ab cb (some r0) c0 (some at_) ct (some af) cf A1 c1 A2 c2 A3 c3 A4 c4 hD5 hN5.bb hB
    rw [show (putP J P i).en = mx P.en (wrap64 (s + x.f1)) by rw [eP]] at hcall
    refine rs_r13 a5 W5 (some r0) J.length c0 b0 b1 b2 bn false i _ _ _ T5 _ Ab b.1.length cb b.2 rfl hbn hN5.bs (fun A m2 c2 s2 w' => m2 = (V (putP J P i) b).1.length ∧ s2 = (V (putP J P i) b).2 ∧ RowN w' A m2 c2 (V (putP J P i) b).1) (hcall.mono ?_) ?_
    · rintro e w' ⟨hb, A, c, rfl, hr⟩
      exact ⟨A, _, c, _, rfl, hb, rfl, rfl, hr⟩
    · rintro a6 w' A m2 c2 s2 T6 hb ⟨rfl, rfl, hr⟩
      exact hnew hkm a6 _ A c2 ⟨_, _, _, _, T6⟩ (hN5.take hb hr)
end Go.Proofs.Ytipkhaicjjeieaa.V
