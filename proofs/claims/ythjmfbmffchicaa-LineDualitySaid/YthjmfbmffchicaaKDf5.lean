/- Walks of functions that the law LineDuality reaches: each theorem '.calls' says that the call comes to what its printed plain function says, under the conditions that stand in it. -/
import Derived.Test.YthjmfbmffchicaaKDHub
import Derived.Test.YthjmfbmffchicaaKDf0
import Derived.Test.YthjmfbmffchicaaKDf1
import Derived.Test.YthjmfbmffchicaaKDf2
namespace Go.Proofs.Ythjmfbmffchicaa.V
open Go.RowKit Go.Proofs.YthjmfbmffchicaaW.PrintWords Go.Proofs.YthjmfbmffchicaaW.PrintLast Go.Proofs.YthjmfbmffchicaaW.PrintMore
attribute [local go_sem] max2_int min2_int max_two min_two max_three min_three max_four min_four
set_option maxHeartbeats 8000000
set_option maxRecDepth 100000
set_option linter.unusedVariables false
set_option linter.unusedSimpArgs false
mutual
def llcycle.l0 : Nat → List Int → Int → Int → Int → Int → List (List Int) → Int → Int → List (List Int) → List (List Int) → Option (List Int)
 | 0, _, _, _, _, _, _, _, _, _, _ => none
 | k + 1, x1, x2, x7, x30, x31, x894000, x894001, x894002, x894003, x894004 => if x31 < x30 then ((slices_Contains_int_int.f k x1 x31).bind fun t900 => (if t900 = true then (llcycle.j1 k x1 x2 x7 x31 x30 x31 true x894000 x894001 x894002 x894003 x894004) else ((llcritical.f x894000 x894001 x894002 x894003 x894004 x31 x7).bind fun t901 => (llcycle.j1 k x1 x2 x7 x31 x30 x31 (!t901) x894000 x894001 x894002 x894003 x894004)))) else (some ([] : List Int))
def llcycle.j1 : Nat → List Int → Int → Int → Int → Int → Int → Bool → List (List Int) → Int → Int → List (List Int) → List (List Int) → Option (List Int)
 | 0, _, _, _, _, _, _, _, _, _, _, _, _ => none
 | k + 1, x1, x2, x7, x8, x30, x31, x43, x894000, x894001, x894002, x894003, x894004 => if x43 = true then (llcycle.l0 k x1 x2 x7 x30 (wrap64 (x31 + 1)) x894000 x894001 x894002 x894003 x894004) else ((slices_Clone_int_int.f x1).bind fun t902 => (if t902.length < 17592186044416 then ((llcycle.f k x894000 x894001 x894002 x894003 x894004 (t902 ++ [x8]) x2).bind fun t908 => (if (t908.length : Int) = 0 then (llcycle.l0 k x1 x2 x7 x30 (wrap64 (x31 + 1)) x894000 x894001 x894002 x894003 x894004) else (some t908))) else (none)))
def llcycle.f : Nat → List (List Int) → Int → Int → List (List Int) → List (List Int) → List Int → Int → Option (List Int)
 | 0, _, _, _, _, _, _, _ => none
 | k + 1, l0_0, a0_1, a0_2, l0_3, l0_4, l1, a2 => if 0 ≤ (wrap64 ((l1.length : Int) - 1)) then (if (wrap64 ((l1.length : Int) - 1)) < (l1.length : Int) then (if (l1.length : Int) = a2 then (if 0 < (l1.length : Int) then ((llcritical.f l0_0 a0_1 a0_2 l0_3 l0_4 (rd l1 0) (rd l1 (wrap64 ((l1.length : Int) - 1)))).bind fun t896 => (if t896 = true then ((slices_Clone_int_int.f l1).bind fun t897 => (some t897)) else (some ([] : List Int)))) else (none)) else (llcycle.l0 k l1 a2 (rd l1 (wrap64 ((l1.length : Int) - 1))) (l0_3.length : Int) 0 l0_0 a0_1 a0_2 l0_3 l0_4)) else (none)) else (none)
end
def llcycle.T10 : Bool × List (List Nat × List Nat) := (true, [([], []), ([], []), ([], []), ([2], [2]), ([1, 3], [1, 3]), ([], []), ([0, 4, 5, 4], [0, 4, 5]), ([6, 6, 0, 1, 2, 3, 4, 5, 6], [6])])
def llcycle.B10 : List Nat := [0, 0, 0, 4, 14, 0, 63, 127]
theorem llcycle.tab10 : rtab .any (opsOf Try.f75 10) = llcycle.T10 := by kernel_rfl
theorem llcycle.bits10 : waitsOk llcycle.T10.2 llcycle.B10 = true := by kernel_rfl
theorem llcycle.clone {l t : List Int} (h : slices_Clone_int_int.f l = some t) : l = t := by
 unfold slices_Clone_int_int.f at h
 simp only [Option.bind_some, List.length_nil, List.nil_append] at h
 split at h
 ·
  exact qx h
 ·
  cases h
theorem llcycle.clone_ne {l t : List Int} (h : slices_Clone_int_int.f l = some t) (hp : decide (0 < l.length) = true) {v : Value} (he : t = []) : v = .slice none 0 0 := by
 have h1 := llcycle.clone h
 have h2 := qt hp
 rw [h1, he] at h2
 exact absurd h2 (by decide)
theorem llcycle.calls (k : Nat) : ∀ (A0_0 : Option Addr) (c0_0 : Nat) (l0_0 : List (List Int)) (a0_1 : Int) (a0_2 : Int) (A0_3 : Option Addr) (c0_3 : Nat) (l0_3 : List (List Int)) (A0_4 : Option Addr) (c0_4 : Nat) (l0_4 : List (List Int)) (A1 : Option Addr) (c1 : Nat) (l1 : List Int) (a2 : Int) (r : List Int) (w0 w : World) (hb0 : Below w0.heap.size w0 w) (hr0_0 : Kd.C (Kd.slice 3 (Kd.int .i64)) w0 A0_0 l0_0.length l0_0) (hc0_0 : l0_0.length ≤ c0_0) (hr0_3 : Kd.C (Kd.slice 3 (Kd.int .i64)) w0 A0_3 l0_3.length l0_3) (hc0_3 : l0_3.length ≤ c0_3) (hr0_4 : Kd.C (Kd.slice 3 (Kd.int .i64)) w0 A0_4 l0_4.length l0_4) (hc0_4 : l0_4.length ≤ c0_4) (hr1 : Kd.R (Kd.int .i64) 3 w w0.heap.size (fun _ => True) (.slice A1 l1.length c1) l1) (h : llcycle.f k l0_0 a0_1 a0_2 l0_3 l0_4 l1 a2 = some r),
  Calls Try.prog 75 #[.agg #[.slice A0_0 l0_0.length c0_0, .int .i64 a0_1, .int .i64 a0_2, .slice A0_3 l0_3.length c0_3, .slice A0_4 l0_4.length c0_4], .slice A1 l1.length c1, .int .i64 a2] w fun e w' => ∃ v0_ : Value, e = .returned (v0_) ∧ Kd.R (Kd.int .i64) 3 w' w0.heap.size (fun _ => True) v0_ r ∧ (r = [] → v0_ = .slice none 0 0) ∧ Kd.Still w0 w (.slice A1 l1.length c1) l1 w' := by
 induction k using Nat.strongRecOn with
 | _ k ih =>
 intro A0_0 c0_0 l0_0 a0_1 a0_2 A0_3 c0_3 l0_3 A0_4 c0_4 l0_4 A1 c1 l1 a2 r w0 w hb0 hr0_0 hc0_0 hr0_3 hc0_3 hr0_4 hc0_4 hr1 h
 cases k with
 | zero => exact absurd h (by simp [llcycle.f])
 | succ k =>
 simp only [llcycle.f] at h
 have hu58 := Try.underlying58
 have HW0_0 := xA.mk hr0_0
 have HR0_0 := xA.mk (Kd.yC hr0_0 hb0)
 have HC0_0 := xA.mk hc0_0
 clear hr0_0 hc0_0
 have HW0_3 := xA.mk hr0_3
 have HR0_3 := xA.mk (Kd.yC hr0_3 hb0)
 have HC0_3 := xA.mk hc0_3
 clear hr0_3 hc0_3
 have HW0_4 := xA.mk hr0_4
 have HR0_4 := xA.mk (Kd.yC hr0_4 hb0)
 have HC0_4 := xA.mk hc0_4
 clear hr0_4 hc0_4
 have HR1 := xA.mk (Kd.yE hr1).2.2
 have HC1 := xA.mk (Kd.yE hr1).2.1
 have HI := xA.mk (Kd.Still.start hb0 hr1)
 have HB0 := xA.mk hb0
 clear hr1 hb0
 have HB := xA.mk (Below.refl w.heap.size w)
 have H : (if 0 ≤ (wrap64 ((l1.length : Int) - 1)) then (if (wrap64 ((l1.length : Int) - 1)) < (l1.length : Int) then (if (l1.length : Int) = a2 then (if 0 < (l1.length : Int) then ((llcritical.f l0_0 a0_1 a0_2 l0_3 l0_4 (rd l1 0) (rd l1 (wrap64 ((l1.length : Int) - 1)))).bind fun t896 => (if t896 = true then ((slices_Clone_int_int.f l1).bind fun t897 => (some t897)) else (some ([] : List Int)))) else (none)) else (llcycle.l0 k l1 a2 (rd l1 (wrap64 ((l1.length : Int) - 1))) (l0_3.length : Int) 0 l0_0 a0_1 a0_2 l0_3 l0_4)) else (none)) else (none)) = some r := h
 clear h
 obtain ⟨ji4, hji4⟩ : ∃ j_ : Int, (wrap64 ((l1.length : Int) - 1)) = j_ := ⟨_, rfl⟩
 replace H : (if 0 ≤ (ji4) then (if (ji4) < (l1.length : Int) then (if (l1.length : Int) = a2 then (if 0 < (l1.length : Int) then ((llcritical.f l0_0 a0_1 a0_2 l0_3 l0_4 (rd l1 0) (rd l1 (ji4))).bind fun t896 => (if t896 = true then ((slices_Clone_int_int.f l1).bind fun t897 => (some t897)) else (some ([] : List Int)))) else (none)) else (llcycle.l0 k l1 a2 (rd l1 (ji4)) (l0_3.length : Int) 0 l0_0 a0_1 a0_2 l0_3 l0_4)) else (none)) else (none)) = some r := by first | (rw [hji4] at H; exact H) | (simp only [hji4] at H ⊢; exact H)
 have hji4w : (IntKind.i64.wrap ((l1.length : Int) - 1)) = ji4 := (i64_w _).trans hji4
 by_cases c5 : 0 ≤ (ji4)
 ·
  rw [if_pos c5] at H
  have c5b0 : decide (0 ≤ (ji4)) = true := qu c5
  clear c5
  by_cases c6 : (ji4) < (l1.length : Int)
  ·
   rw [if_pos c6] at H
   have c6b0 : decide ((ji4) < (l1.length : Int)) = true := qu c6
   clear c6
   by_cases c7 : (l1.length : Int) = a2
   ·
    rw [if_pos c7] at H
    have c7b0 : ((l1.length : Int) == a2) = true := beq_iff_eq.mpr c7
    have c7b1 : ((l1.length : Int) != a2) = false := bne_eq_false_iff_eq.mpr c7
    clear c7
    by_cases c8 : 0 < (l1.length : Int)
    ·
     rw [if_pos c8] at H
     have c8b0 : decide (0 < (l1.length : Int)) = true := qu c8
     have c8b1 : decide (0 < l1.length) = true := qu jj
     clear c8
     replace H := qw H
     obtain ⟨t896, A90, H⟩ := H
     replace H : (if t896 = true then ((slices_Clone_int_int.f l1).bind fun t897 => (some t897)) else (some ([] : List Int))) = some r := H
     have A9 := xA.mk A90
     clear A90
     by_cases c10 : t896 = true
     ·
      subst c10
      have H1 : ((slices_Clone_int_int.f l1).bind fun t897 => (some t897)) = some r := by rw [if_pos rfl] at H; exact H
      clear H
      have H := H1
      clear H1
      replace H := qw H
      obtain ⟨t897, A110, H⟩ := H
      replace H : (some t897) = some r := H
      have A11 := xA.mk A110
      clear A110
      obtain rfl := qx H
      go_enter Try.func75, Try.ntmps75
      try go_wp2_with (first | ((with_reducible refine xW (N := 3) rfl ?_); refine yF ?hg (N := 3) ?hd (cs := #[.slice A0_0 l0_0.length c0_0, .int .i64 a0_1, .int .i64 a0_2, .slice A0_3 l0_3.length c0_3, .slice A0_4 l0_4.length c0_4]) (t := 58) ?hr ?_; (case hd => rfl); (case hg => rfl); (case hr => first | (go_simp; done) | (go_simp; rfl)); intro gb893 hg w12 hbox hb; have n0_ := xA.mk (xF qa hb); have n1_ := xA.mk (hbox); have n2_ := xA.mk ((by rw [hg]; exact (xD qa) : w.heap.size ≤ gb893)); have n3_ := xA.mk ((by rw [hg]; exact (xD qa) : w.heap.size ≤ gb893)); clear HB; have HB := n0_; have BK893 := n1_; have GW893 := n2_; have GE893 := n3_; clear n0_ n1_ n2_ n3_; clear hb hbox hg; have p894 : 0 ≤ ((ji4) : Int) := qr; have q894 : (ji4) < (l1.length : Int) := qr; obtain ⟨ad894, e894, hx894_0⟩ := Kd.xU HR1.out (ji4) p894 q894; cases e894; replace hx894_0 := (HB.out.cell (World.block_lt_of_cell? w _ hx894_0)).trans hx894_0; replace p894 := eq_true p894; replace q894 := eq_true q894))
      have n0_ := xA.mk (xH BK893.out)
      have n1_ := xA.mk (xN HB.out)
      clear BK893
      clear HB
      have BK893 := n0_
      have HB := n1_
      clear n0_ n1_
      have p895 : 0 ≤ (0 : Int) := jj
      have q895 : 0 < (l1.length : Int) := qr
      obtain ⟨ad895, e895, hx895_0⟩ := Kd.xU HR1.out 0 p895 q895
      have hw895_0 := hx895_0
      (try rw [show ((0 : Int)).toNat = 0 from rfl] at hw895_0)
      (try rw [show 0 * 1 = 0 from rfl] at hw895_0)
      (try rw [Addr.add_zero'] at hw895_0)
      obtain rfl : ad894 = ad895 := (by injection e895)
      have qi895 : (0 < l1.length) = True := eq_true jj
      (try rw [show ((0 : Int)).toNat = 0 from rfl] at hx895_0)
      (try rw [Addr.add_zero'] at hx895_0)
      replace hx895_0 := (HB.out.cell (World.block_lt_of_cell? w _ hx895_0)).trans hx895_0
      replace p895 := eq_true p895
      replace q895 := eq_true q895
      refine start_ (n := 6) (S := fun w' => w'.cell? ⟨gb893, 0, none⟩ = some (.slice A0_0 l0_0.length c0_0) ∧ w'.cell? ⟨gb893, 1, none⟩ = some (.int .i64 a0_1) ∧ w'.cell? ⟨gb893, 2, none⟩ = some (.int .i64 a0_2) ∧ w'.cell? ⟨gb893, 3, none⟩ = some (.slice A0_3 l0_3.length c0_3) ∧ w'.cell? ⟨gb893, 4, none⟩ = some (.slice A0_4 l0_4.length c0_4) ∧ w'.cell? ad894 = some (.int .i64 (rd l1 0))) (ds := []) (jl 6 0) jk rfl rfl ⟨(xB BK893.out 0).trans rfl, (xB BK893.out 1).trans rfl, (xB BK893.out 2).trans rfl, (xB BK893.out 3).trans rfl, (xB BK893.out 4).trans rfl, ((HB.out.cell (World.block_lt_of_cell? w _ hw895_0)).trans hw895_0)⟩ (fun hHeld => ?_)
      generalize w12.drew = w13 at BK893 HB hx895_0 hHeld ⊢
      refine pure_ (i := 1) (N := some 21) (v := ?_) (a' := ?_) (jl 6 2) rfl rfl jk (fun _ _ _ h => h) (Or.inl ⟨by rfl, ?_⟩) ?_ ?_
      rotate_left
      ·
       intro w'
       go_simp
       with_reducible rfl
      rotate_left
      ·
       simp only [Act.put, qy, qz, ja, i64_w, i32_w]
       rfl
      refine pure_ (i := 2) (N := some 22) (v := ?_) (a' := ?_) (jl 6 6) rfl rfl jk (fun _ _ _ h => h) (Or.inl ⟨by rfl, ?_⟩) ?_ ?_
      rotate_left
      ·
       intro w'
       go_simp
       with_reducible rfl
      rotate_left
      ·
       simp only [Act.put, qy, qz, ja, i64_w, i32_w]
       rfl
      refine pure_ (i := 4) (N := some 24) (v := ?_) (a' := ?_) (jl 6 22) rfl rfl jk (fun _ _ _ h => h) (Or.inl ⟨by rfl, ?_⟩) ?_ ?_
      rotate_left
      ·
       intro w'
       go_simp
       with_reducible rfl
      rotate_left
      ·
       simp only [Act.put, qy, qz, ja, i64_w, i32_w]
       rfl
      refine take_ (i := 0) (N := some 20) (v := ?_) (a' := ?_) (jl 6 23) rfl rfl jk (fun _ _ _ h => h) (Or.inl ⟨by rfl, ?_⟩) hHeld ?_ ?_
      rotate_left
      ·
       rintro w' ⟨s0, s1, s2, s3, s4, s5⟩
       go_simp
       with_reducible rfl
      rotate_left
      ·
       simp only [Act.put, qy, qz, ja, i64_w, i32_w]
       rfl
      refine take_ (i := 3) (N := some 23) (v := ?_) (a' := ?_) (jl 6 31) rfl rfl jk (fun _ _ _ h => h) (Or.inl ⟨by rfl, ?_⟩) hHeld ?_ ?_
      rotate_left
      ·
       rintro w' ⟨s0, s1, s2, s3, s4, s5⟩
       go_simp
       with_reducible rfl
      rotate_left
      ·
       simp only [Act.put, qy, qz, ja, i64_w, i32_w]
       rfl
      refine one_ (i := 5) (N := some 25) (jl 6 63) rfl rfl jk (by decide) (fun K hK => ?_)
      with_reducible refine goes_ (f := 84) (fn := Try.f84) (as0 := #[.tmp 20, .tmp 23, .tmp 24]) (ts := #[58, 3, 3]) ?z1_1 ?z1_2 ?z1_3 #[.agg #[.slice A0_0 l0_0.length c0_0, .int .i64 a0_1, .int .i64 a0_2, .slice A0_3 l0_3.length c0_3, .slice A0_4 l0_4.length c0_4], .int .i64 (rd l1 0), .int .i64 (rd l1 (ji4))] ?z1_4 ?z1_5 ?z1_6 ?z1_7 ?z1_8
      (case z1_1 => exact Try.func84)
      (case z1_2 => kernel_rfl)
      (case z1_3 => kernel_rfl)
      (case z1_4 => rfl)
      (case z1_5 => rfl)
      (case z1_6 => rfl)
      (case z1_7 => (try simp only [jb, jc, jd]); first | done | (simp only [hji4]; rfl) | rfl | (simp only [jf, je]; rfl))
      with_reducible refine (llcritical.calls _ _ l0_0 a0_1 a0_2 _ _ l0_3 _ _ l0_4 (rd l1 0) (rd l1 (ji4)) true _ ?side1 ?side2 ?side3 ?side4 ?side5 ?side6 A9.out).mono ?_
      (case side1 => exact qm (Kd.yC HR0_0.out HB.out))
      (case side2 => exact HC0_0.out)
      (case side3 => exact qm (Kd.yC HR0_3.out HB.out))
      (case side4 => exact HC0_3.out)
      (case side5 => exact qm (Kd.yC HR0_4.out HB.out))
      (case side6 => exact HC0_4.out)
      rintro e w14 ⟨rfl, hb⟩
      refine ⟨_, rfl, ?_⟩
      have n0_ := xA.mk (xO (g := gb893) (o := .cells #[.slice A0_0 l0_0.length c0_0, .int .i64 a0_1, .int .i64 a0_2, .slice A0_3 l0_3.length c0_3, .slice A0_4 l0_4.length c0_4] 58 (0, 0)) (qn BK893.out) hb)
      have n1_ := xA.mk (xF (qo GE893.out) hb)
      clear BK893
      clear HB
      have BK893 := n0_
      have HB := n1_
      clear n0_ n1_
      (try clear hb)
      (try clear hb2)
      (try clear hk)
      (try clear hi)
      refine hK.out _ _ ⟨(xB BK893.out 0).trans rfl, (xB BK893.out 1).trans rfl, (xB BK893.out 2).trans rfl, (xB BK893.out 3).trans rfl, (xB BK893.out 4).trans rfl, ((HB.out.cell (World.block_lt_of_cell? w _ hw895_0)).trans hw895_0)⟩ (fun hHeld => ?_)
      clear hK K
      refine norm_ (a' := ?_) ?_ ?_
      rotate_left
      ·
       show Act.put _ (some 25) _ = _
       simp only [Act.put, qy, qz, ja, i64_w, i32_w]
       rfl
      refine done_ jk ?_
      try go_wp2_with (first | ((with_reducible refine xK (f := 90) rfl ?_); refine xS (some 27) rfl rfl Try.func90 jk rfl #[.slice (some ad894) l1.length c1] rfl qc ?_; (with_reducible refine (slices_Clone_int_int.calls _ _ l1 t897 _ ?side1 ?side2 A11.out).mono ?_); (case side1 => exact qm (Kd.yC HR1.out HB.out)); (case side2 => exact HC1.out); rintro e w15 ⟨v898, rfl, ho0, hb⟩; refine ⟨_, rfl, ?_⟩; have HO899 := xA.mk (Kd.R_lower ho0 (xD (qo GE893.out))); replace BK893 := xA.mk (xO (g := gb893) (o := .cells #[.slice A0_0 l0_0.length c0_0, .int .i64 a0_1, .int .i64 a0_2, .slice A0_3 l0_3.length c0_3, .slice A0_4 l0_4.length c0_4] 58 (0, 0)) (qn BK893.out) hb); replace HB := xA.mk (xF (qo GE893.out) hb); (try clear hb); (try clear hb2); (try clear hk); (try clear hi); (try clear ho0)))
      go_ret
      exact ⟨_, by first | rfl | (simp [errW_none, errW_some] <;> rfl) | (simp only [← hji4]; first | rfl | (simp [errW_none, errW_some] <;> rfl)) | (simp [*, errW_none, errW_some] <;> rfl), Kd.R_lower (qi HO899.out) (xD HB0.out), (fun h_ => llcycle.clone_ne A11.out c8b1 h_), Kd.Still.step HI.out (qo GE893.out)⟩
     ·
      replace c10 := Bool.eq_false_iff.mpr c10
      subst c10
      have H1 : (some ([] : List Int)) = some r := by rw [if_neg (show ¬ (false = true) by decide)] at H; exact H
      clear H
      have H := H1
      clear H1
      obtain rfl := qx H
      go_enter Try.func75, Try.ntmps75
      try go_wp2_with (first | ((with_reducible refine xW (N := 3) rfl ?_); refine yF ?hg (N := 3) ?hd (cs := #[.slice A0_0 l0_0.length c0_0, .int .i64 a0_1, .int .i64 a0_2, .slice A0_3 l0_3.length c0_3, .slice A0_4 l0_4.length c0_4]) (t := 58) ?hr ?_; (case hd => rfl); (case hg => rfl); (case hr => first | (go_simp; done) | (go_simp; rfl)); intro gb893 hg w16 hbox hb; have n0_ := xA.mk (xF qa hb); have n1_ := xA.mk (hbox); have n2_ := xA.mk ((by rw [hg]; exact (xD qa) : w.heap.size ≤ gb893)); have n3_ := xA.mk ((by rw [hg]; exact (xD qa) : w.heap.size ≤ gb893)); clear HB; have HB := n0_; have BK893 := n1_; have GW893 := n2_; have GE893 := n3_; clear n0_ n1_ n2_ n3_; clear hb hbox hg; have p894 : 0 ≤ ((ji4) : Int) := qr; have q894 : (ji4) < (l1.length : Int) := qr; obtain ⟨ad894, e894, hx894_0⟩ := Kd.xU HR1.out (ji4) p894 q894; cases e894; replace hx894_0 := (HB.out.cell (World.block_lt_of_cell? w _ hx894_0)).trans hx894_0; replace p894 := eq_true p894; replace q894 := eq_true q894))
      have n0_ := xA.mk (xH BK893.out)
      have n1_ := xA.mk (xN HB.out)
      clear BK893
      clear HB
      have BK893 := n0_
      have HB := n1_
      clear n0_ n1_
      have p895 : 0 ≤ (0 : Int) := jj
      have q895 : 0 < (l1.length : Int) := qr
      obtain ⟨ad895, e895, hx895_0⟩ := Kd.xU HR1.out 0 p895 q895
      have hw895_0 := hx895_0
      (try rw [show ((0 : Int)).toNat = 0 from rfl] at hw895_0)
      (try rw [show 0 * 1 = 0 from rfl] at hw895_0)
      (try rw [Addr.add_zero'] at hw895_0)
      obtain rfl : ad894 = ad895 := (by injection e895)
      have qi895 : (0 < l1.length) = True := eq_true jj
      (try rw [show ((0 : Int)).toNat = 0 from rfl] at hx895_0)
      (try rw [Addr.add_zero'] at hx895_0)
      replace hx895_0 := (HB.out.cell (World.block_lt_of_cell? w _ hx895_0)).trans hx895_0
      replace p895 := eq_true p895
      replace q895 := eq_true q895
      refine start_ (n := 6) (S := fun w' => w'.cell? ⟨gb893, 0, none⟩ = some (.slice A0_0 l0_0.length c0_0) ∧ w'.cell? ⟨gb893, 1, none⟩ = some (.int .i64 a0_1) ∧ w'.cell? ⟨gb893, 2, none⟩ = some (.int .i64 a0_2) ∧ w'.cell? ⟨gb893, 3, none⟩ = some (.slice A0_3 l0_3.length c0_3) ∧ w'.cell? ⟨gb893, 4, none⟩ = some (.slice A0_4 l0_4.length c0_4) ∧ w'.cell? ad894 = some (.int .i64 (rd l1 0))) (ds := []) (jl 6 0) jk rfl rfl ⟨(xB BK893.out 0).trans rfl, (xB BK893.out 1).trans rfl, (xB BK893.out 2).trans rfl, (xB BK893.out 3).trans rfl, (xB BK893.out 4).trans rfl, ((HB.out.cell (World.block_lt_of_cell? w _ hw895_0)).trans hw895_0)⟩ (fun hHeld => ?_)
      generalize w16.drew = w17 at BK893 HB hx895_0 hHeld ⊢
      refine pure_ (i := 1) (N := some 21) (v := ?_) (a' := ?_) (jl 6 2) rfl rfl jk (fun _ _ _ h => h) (Or.inl ⟨by rfl, ?_⟩) ?_ ?_
      rotate_left
      ·
       intro w'
       go_simp
       with_reducible rfl
      rotate_left
      ·
       simp only [Act.put, qy, qz, ja, i64_w, i32_w]
       rfl
      refine pure_ (i := 2) (N := some 22) (v := ?_) (a' := ?_) (jl 6 6) rfl rfl jk (fun _ _ _ h => h) (Or.inl ⟨by rfl, ?_⟩) ?_ ?_
      rotate_left
      ·
       intro w'
       go_simp
       with_reducible rfl
      rotate_left
      ·
       simp only [Act.put, qy, qz, ja, i64_w, i32_w]
       rfl
      refine pure_ (i := 4) (N := some 24) (v := ?_) (a' := ?_) (jl 6 22) rfl rfl jk (fun _ _ _ h => h) (Or.inl ⟨by rfl, ?_⟩) ?_ ?_
      rotate_left
      ·
       intro w'
       go_simp
       with_reducible rfl
      rotate_left
      ·
       simp only [Act.put, qy, qz, ja, i64_w, i32_w]
       rfl
      refine take_ (i := 0) (N := some 20) (v := ?_) (a' := ?_) (jl 6 23) rfl rfl jk (fun _ _ _ h => h) (Or.inl ⟨by rfl, ?_⟩) hHeld ?_ ?_
      rotate_left
      ·
       rintro w' ⟨s0, s1, s2, s3, s4, s5⟩
       go_simp
       with_reducible rfl
      rotate_left
      ·
       simp only [Act.put, qy, qz, ja, i64_w, i32_w]
       rfl
      refine take_ (i := 3) (N := some 23) (v := ?_) (a' := ?_) (jl 6 31) rfl rfl jk (fun _ _ _ h => h) (Or.inl ⟨by rfl, ?_⟩) hHeld ?_ ?_
      rotate_left
      ·
       rintro w' ⟨s0, s1, s2, s3, s4, s5⟩
       go_simp
       with_reducible rfl
      rotate_left
      ·
       simp only [Act.put, qy, qz, ja, i64_w, i32_w]
       rfl
      refine one_ (i := 5) (N := some 25) (jl 6 63) rfl rfl jk (by decide) (fun K hK => ?_)
      with_reducible refine goes_ (f := 84) (fn := Try.f84) (as0 := #[.tmp 20, .tmp 23, .tmp 24]) (ts := #[58, 3, 3]) ?z2_1 ?z2_2 ?z2_3 #[.agg #[.slice A0_0 l0_0.length c0_0, .int .i64 a0_1, .int .i64 a0_2, .slice A0_3 l0_3.length c0_3, .slice A0_4 l0_4.length c0_4], .int .i64 (rd l1 0), .int .i64 (rd l1 (ji4))] ?z2_4 ?z2_5 ?z2_6 ?z2_7 ?z2_8
      (case z2_1 => exact Try.func84)
      (case z2_2 => kernel_rfl)
      (case z2_3 => kernel_rfl)
      (case z2_4 => rfl)
      (case z2_5 => rfl)
      (case z2_6 => rfl)
      (case z2_7 => (try simp only [jb, jc, jd]); first | done | (simp only [hji4]; rfl) | rfl | (simp only [jf, je]; rfl))
      with_reducible refine (llcritical.calls _ _ l0_0 a0_1 a0_2 _ _ l0_3 _ _ l0_4 (rd l1 0) (rd l1 (ji4)) false _ ?side1 ?side2 ?side3 ?side4 ?side5 ?side6 A9.out).mono ?_
      (case side1 => exact qm (Kd.yC HR0_0.out HB.out))
      (case side2 => exact HC0_0.out)
      (case side3 => exact qm (Kd.yC HR0_3.out HB.out))
      (case side4 => exact HC0_3.out)
      (case side5 => exact qm (Kd.yC HR0_4.out HB.out))
      (case side6 => exact HC0_4.out)
      rintro e w18 ⟨rfl, hb⟩
      refine ⟨_, rfl, ?_⟩
      have n0_ := xA.mk (xO (g := gb893) (o := .cells #[.slice A0_0 l0_0.length c0_0, .int .i64 a0_1, .int .i64 a0_2, .slice A0_3 l0_3.length c0_3, .slice A0_4 l0_4.length c0_4] 58 (0, 0)) (qn BK893.out) hb)
      have n1_ := xA.mk (xF (qo GE893.out) hb)
      clear BK893
      clear HB
      have BK893 := n0_
      have HB := n1_
      clear n0_ n1_
      (try clear hb)
      (try clear hb2)
      (try clear hk)
      (try clear hi)
      refine hK.out _ _ ⟨(xB BK893.out 0).trans rfl, (xB BK893.out 1).trans rfl, (xB BK893.out 2).trans rfl, (xB BK893.out 3).trans rfl, (xB BK893.out 4).trans rfl, ((HB.out.cell (World.block_lt_of_cell? w _ hw895_0)).trans hw895_0)⟩ (fun hHeld => ?_)
      clear hK K
      refine norm_ (a' := ?_) ?_ ?_
      rotate_left
      ·
       show Act.put _ (some 25) _ = _
       simp only [Act.put, qy, qz, ja, i64_w, i32_w]
       rfl
      refine done_ jk ?_
      try go_wp2
      go_ret
      exact ⟨_, by first | rfl | (simp [errW_none, errW_some] <;> rfl) | (simp only [← hji4]; first | rfl | (simp [errW_none, errW_some] <;> rfl)) | (simp [*, errW_none, errW_some] <;> rfl), by first | exact Kd.R_nil _ _ _ _ _ | exact Kd.N_nil _ _ _ _ _ | exact Kd.V_nil _ _ _ _ _ | exact Kd.Q_nil _ _ _ _ _ | exact Kd.S_nil _ _ _ _ _, (by first | exact (fun _ => rfl) | rfl | simp), Kd.Still.step HI.out (qo GE893.out)⟩
    ·
     rw [if_neg c8] at H
     exact absurd H (by simp)
   ·
    rw [if_neg c7] at H
    have c7b0 : ((l1.length : Int) == a2) = false := jg c7
    have c7b1 : ((l1.length : Int) != a2) = true := bne_iff_ne.mpr c7
    have H' := xA.mk H
    clear H
    go_enter Try.func75, Try.ntmps75
    go_wp2_with (first | ((with_reducible refine xW (N := 3) rfl ?_); refine yF ?hg (N := 3) ?hd (cs := #[.slice A0_0 l0_0.length c0_0, .int .i64 a0_1, .int .i64 a0_2, .slice A0_3 l0_3.length c0_3, .slice A0_4 l0_4.length c0_4]) (t := 58) ?hr ?_; (case hd => rfl); (case hg => rfl); (case hr => first | (go_simp; done) | (go_simp; rfl)); intro gb893 hg w19 hbox hb; have n0_ := xA.mk (xF qa hb); have n1_ := xA.mk (hbox); have n2_ := xA.mk ((by rw [hg]; exact (xD qa) : w.heap.size ≤ gb893)); have n3_ := xA.mk ((by rw [hg]; exact (xD qa) : w.heap.size ≤ gb893)); clear HB; have HB := n0_; have BK893 := n1_; have GW893 := n2_; have GE893 := n3_; clear n0_ n1_ n2_ n3_; clear hb hbox hg; have p894 : 0 ≤ ((ji4) : Int) := qr; have q894 : (ji4) < (l1.length : Int) := qr; obtain ⟨ad894, e894, hx894_0⟩ := Kd.xU HR1.out (ji4) p894 q894; cases e894; replace hx894_0 := (HB.out.cell (World.block_lt_of_cell? w _ hx894_0)).trans hx894_0; replace p894 := eq_true p894; replace q894 := eq_true q894; have hcz20_0 : w19.cell? ⟨gb893, 0, none⟩ = some (.slice A0_0 l0_0.length c0_0) := (xB BK893.out 0).trans rfl; have hcz20_1 : w19.cell? ⟨gb893, 1, none⟩ = some (.int .i64 a0_1) := (xB BK893.out 1).trans rfl; have hcz20_2 : w19.cell? ⟨gb893, 2, none⟩ = some (.int .i64 a0_2) := (xB BK893.out 2).trans rfl; have hcz20_3 : w19.cell? ⟨gb893, 3, none⟩ = some (.slice A0_3 l0_3.length c0_3) := (xB BK893.out 3).trans rfl; have hcz20_4 : w19.cell? ⟨gb893, 4, none⟩ = some (.slice A0_4 l0_4.length c0_4) := (xB BK893.out 4).trans rfl; have hfz20_0 := xC BK893.out 0; have hfz20_1 := xC BK893.out 1; have hfz20_2 := xC BK893.out 2; have hfz20_3 := xC BK893.out 3; have hfz20_4 := xC BK893.out 4))
    go_loopg [31] k (fun kq v31 w' => ∃ (x31_1 : Int), v31 = .int .i64 x31_1 ∧ xA (llcycle.l0 kq l1 a2 (rd l1 (ji4)) (l0_3.length : Int) x31_1 l0_0 a0_1 a0_2 l0_3 l0_4 = some r) ∧ xA (kq ≤ k) ∧ xA (w'.heap[gb893]? = some (.cells #[(.slice A0_0 l0_0.length c0_0), .int .i64 a0_1, .int .i64 a0_2, (.slice A0_3 l0_3.length c0_3), (.slice A0_4 l0_4.length c0_4)] 58 (0, 0))) ∧ xA (Kd.Still w0 w (.slice (some ad894) l1.length c1) l1 w'))
    case atStart => exact ⟨(0), qf, H', ⟨Nat.le_refl _⟩, ⟨qn BK893.out⟩, ⟨Kd.Still.step HI.out (qo GE893.out)⟩⟩
    case round =>
     clear H'
     try clear c1
     try clear p2
     try clear c5
     try clear c5b0
     try clear c6
     try clear c6b0
     try clear p6
     try clear c7
     try clear c7b0
     try clear c7b1
     try clear c8
     try clear c8b0
     try clear c8b1
     try clear p8
     try clear q8
     try clear hx8
     try clear qi8
     try clear c9
     try clear c10
     try clear hcz20_0
     try clear hcz20_1
     try clear hcz20_2
     try clear hcz20_3
     try clear hcz20_4
     try clear hfz20_0
     try clear hfz20_1
     try clear hfz20_2
     try clear hfz20_3
     try clear hfz20_4
     try clear hx894_0
     try clear hx895_0
     try clear p894
     try clear p895
     try clear q894
     try clear q895
     obtain ⟨x31_1, rfl, HA, HK1, BK893, HI⟩ := hrel
     have HR0_0 := xA.mk (Kd.yC HW0_0.out HI.out.1)
     have HR0_3 := xA.mk (Kd.yC HW0_3.out HI.out.1)
     have HR0_4 := xA.mk (Kd.yC HW0_4.out HI.out.1)
     have HR1 := xA.mk (Kd.yE HI.out.2.2).2.2
     have HC1 := xA.mk (Kd.yE HI.out.2.2).2.1
     have HB := xA.mk (Below.refl wr.heap.size wr)
     cases gk with
     | zero => exact absurd HA.out (by simp [llcycle.l0])
     | succ k1 =>
      have H := HA.out
      clear HA
      simp only [llcycle.l0] at H
      by_cases c21 : x31_1 < (l0_3.length : Int)
      ·
       rw [if_pos c21] at H
       have c21b0 : decide (x31_1 < (l0_3.length : Int)) = true := qu c21
       clear c21
       have HC22 := xA.mk H
       clear H
       go_upto_region 9 with (fail)
       go_cut [43] (fun v43 wc => ∃ (kq : Nat) (x43_21 : Bool), v43 = .bool x43_21 ∧ xA (llcycle.j1 kq l1 a2 (rd l1 (ji4)) x31_1 (l0_3.length : Int) x31_1 x43_21 l0_0 a0_1 a0_2 l0_3 l0_4 = some r) ∧ xA (kq ≤ k1) ∧ xA (wc.heap[gb893]? = some (.cells #[(.slice A0_0 l0_0.length c0_0), .int .i64 a0_1, .int .i64 a0_2, (.slice A0_3 l0_3.length c0_3), (.slice A0_4 l0_4.length c0_4)] 58 (0, 0))) ∧ xA (Below wr.heap.size wr wc))
       case first =>
        have H := HC22.out
        clear HC22
        replace H := qw H
        obtain ⟨t900, A230, H⟩ := H
        replace H : (if t900 = true then (llcycle.j1 k1 l1 a2 (rd l1 (ji4)) x31_1 (l0_3.length : Int) x31_1 true l0_0 a0_1 a0_2 l0_3 l0_4) else ((llcritical.f l0_0 a0_1 a0_2 l0_3 l0_4 x31_1 (rd l1 (ji4))).bind fun t901 => (llcycle.j1 k1 l1 a2 (rd l1 (ji4)) x31_1 (l0_3.length : Int) x31_1 (!t901) l0_0 a0_1 a0_2 l0_3 l0_4))) = some r := H
        have A23 := xA.mk A230
        clear A230
        by_cases c24 : t900 = true
        ·
         subst c24
         have H1 : (llcycle.j1 k1 l1 a2 (rd l1 (ji4)) x31_1 (l0_3.length : Int) x31_1 true l0_0 a0_1 a0_2 l0_3 l0_4) = some r := by rw [if_pos rfl] at H; exact H
         clear H
         have H := H1
         clear H1
         have H' := xA.mk H
         clear H
         go_wp2_with (first | ((with_reducible refine xK (f := 82) rfl ?_); refine xS (some 36) rfl rfl Try.func82 jk rfl #[.slice (some ad894) l1.length c1, .int .i64 x31_1] rfl qc ?_; (with_reducible refine (slices_Contains_int_int.calls k1 _ _ l1 x31_1 true _ ?side1 ?side2 A23.out).mono ?_); (case side1 => exact qm (Kd.yC HR1.out HB.out)); (case side2 => exact HC1.out); rintro e w' ⟨rfl, ⟨nd, rfl⟩⟩; refine ⟨_, rfl, ?_⟩))
         go_meet
         case rel => exact ⟨_, (true), qf, H', ⟨by have := HK1.out; first | omega | exact Nat.le_refl _⟩, ⟨qn BK893.out⟩, ⟨qo GE893.out⟩⟩
        ·
         replace c24 := Bool.eq_false_iff.mpr c24
         subst c24
         have H1 : ((llcritical.f l0_0 a0_1 a0_2 l0_3 l0_4 x31_1 (rd l1 (ji4))).bind fun t901 => (llcycle.j1 k1 l1 a2 (rd l1 (ji4)) x31_1 (l0_3.length : Int) x31_1 (!t901) l0_0 a0_1 a0_2 l0_3 l0_4)) = some r := by rw [if_neg (show ¬ (false = true) by decide)] at H; exact H
         clear H
         have H := H1
         clear H1
         replace H := qw H
         obtain ⟨t901, A250, H⟩ := H
         replace H : (llcycle.j1 k1 l1 a2 (rd l1 (ji4)) x31_1 (l0_3.length : Int) x31_1 (!t901) l0_0 a0_1 a0_2 l0_3 l0_4) = some r := H
         have A25 := xA.mk A250
         clear A250
         have H' := xA.mk H
         clear H
         go_wp2_with (first | ((with_reducible refine xK (f := 82) rfl ?_); refine xS (some 36) rfl rfl Try.func82 jk rfl #[.slice (some ad894) l1.length c1, .int .i64 x31_1] rfl qc ?_; (with_reducible refine (slices_Contains_int_int.calls k1 _ _ l1 x31_1 false _ ?side1 ?side2 A23.out).mono ?_); (case side1 => exact qm (Kd.yC HR1.out HB.out)); (case side2 => exact HC1.out); rintro e w' ⟨rfl, ⟨nd, rfl⟩⟩; refine ⟨_, rfl, ?_⟩; have hcz26_0 : wr.cell? ⟨gb893, 0, none⟩ = some (.slice A0_0 l0_0.length c0_0) := (xB BK893.out 0).trans rfl; have hcz26_1 : wr.cell? ⟨gb893, 1, none⟩ = some (.int .i64 a0_1) := (xB BK893.out 1).trans rfl; have hcz26_2 : wr.cell? ⟨gb893, 2, none⟩ = some (.int .i64 a0_2) := (xB BK893.out 2).trans rfl; have hcz26_3 : wr.cell? ⟨gb893, 3, none⟩ = some (.slice A0_3 l0_3.length c0_3) := (xB BK893.out 3).trans rfl; have hcz26_4 : wr.cell? ⟨gb893, 4, none⟩ = some (.slice A0_4 l0_4.length c0_4) := (xB BK893.out 4).trans rfl; have hfz26_0 := xC BK893.out 0; have hfz26_1 := xC BK893.out 1; have hfz26_2 := xC BK893.out 2; have hfz26_3 := xC BK893.out 3; have hfz26_4 := xC BK893.out 4) | (go_at_call 84; (with_reducible refine (llcritical.calls _ _ l0_0 a0_1 a0_2 _ _ l0_3 _ _ l0_4 x31_1 (rd l1 (ji4)) t901 _ ?side1 ?side2 ?side3 ?side4 ?side5 ?side6 A25.out).mono ?_); (case side1 => repeat (first | exact (Kd.yC HR0_0.out (qo GE893.out)) | (with_reducible refine Kd.C_alloc ?_ _) | (with_reducible refine Kd.C_drewN ?_ _) | (with_reducible refine Kd.C_drew ?_))); (case side2 => exact HC0_0.out); (case side3 => repeat (first | exact (Kd.yC HR0_3.out (qo GE893.out)) | (with_reducible refine Kd.C_alloc ?_ _) | (with_reducible refine Kd.C_drewN ?_ _) | (with_reducible refine Kd.C_drew ?_))); (case side4 => exact HC0_3.out); (case side5 => repeat (first | exact (Kd.yC HR0_4.out (qo GE893.out)) | (with_reducible refine Kd.C_alloc ?_ _) | (with_reducible refine Kd.C_drewN ?_ _) | (with_reducible refine Kd.C_drew ?_))); (case side6 => exact HC0_4.out); rintro e w27 ⟨rfl, hb⟩; replace BK893 := xA.mk (xO (g := gb893) (o := .cells #[.slice A0_0 l0_0.length c0_0, .int .i64 a0_1, .int .i64 a0_2, .slice A0_3 l0_3.length c0_3, .slice A0_4 l0_4.length c0_4] 58 (0, 0)) (qn BK893.out) hb); replace HB := xA.mk (xF (qo GE893.out) hb); (try clear hb); (try clear hb2); (try clear hk); (try clear hi)))
         go_meet
         case rel => exact ⟨_, (!t901), qf, H', ⟨by have := HK1.out; first | omega | exact Nat.le_refl _⟩, ⟨qn BK893.out⟩, ⟨qo GE893.out⟩⟩
       case rest =>
        clear HC22
        try clear c1
        try clear c2
        try clear p2
        try clear c5
        try clear c5b0
        try clear c6
        try clear c6b0
        try clear p6
        try clear c7
        try clear c7b0
        try clear c7b1
        try clear c8
        try clear c8b0
        try clear c8b1
        try clear p8
        try clear q8
        try clear hx8
        try clear qi8
        try clear c9
        try clear c10
        try clear c21
        try clear c21b0
        try clear c24
        try clear hcz20_0
        try clear hcz20_1
        try clear hcz20_2
        try clear hcz20_3
        try clear hcz20_4
        try clear hcz26_0
        try clear hcz26_1
        try clear hcz26_2
        try clear hcz26_3
        try clear hcz26_4
        try clear hfz20_0
        try clear hfz20_1
        try clear hfz20_2
        try clear hfz20_3
        try clear hfz20_4
        try clear hfz26_0
        try clear hfz26_1
        try clear hfz26_2
        try clear hfz26_3
        try clear hfz26_4
        try clear hx894_0
        try clear hx895_0
        try clear p2
        try clear p6
        try clear p8
        try clear p894
        try clear p895
        try clear q8
        try clear q894
        try clear q895
        obtain ⟨kq, x43_21, rfl, HA, HJ21, BK893, HB⟩ := hcut
        cases kq with
        | zero => exact absurd HA.out (by simp [llcycle.j1])
        | succ kj21 =>
         have H := HA.out
         clear HA
         simp only [llcycle.j1] at H
         by_cases c28 : x43_21 = true
         ·
          subst c28
          have H1 : (llcycle.l0 kj21 l1 a2 (rd l1 (ji4)) (l0_3.length : Int) (wrap64 (x31_1 + 1)) l0_0 a0_1 a0_2 l0_3 l0_4) = some r := by rw [if_pos rfl] at H; exact H
          clear H
          have H := H1
          clear H1
          have H' := xA.mk H
          clear H
          go_wp2
          go_roundg kj21
          case measure => have := HK1.out; have := HJ21.out; omega
          case rel => exact ⟨(wrap64 (x31_1 + 1)), qf, H', ⟨by have := HK1.out; have := HJ21.out; omega⟩, ⟨qn BK893.out⟩, ⟨Kd.Still.step HI.out (qo GE893.out)⟩⟩
         ·
          replace c28 := Bool.eq_false_iff.mpr c28
          subst c28
          have H1 : ((slices_Clone_int_int.f l1).bind fun t902 => (if t902.length < 17592186044416 then ((llcycle.f kj21 l0_0 a0_1 a0_2 l0_3 l0_4 (t902 ++ [x31_1]) a2).bind fun t908 => (if (t908.length : Int) = 0 then (llcycle.l0 kj21 l1 a2 (rd l1 (ji4)) (l0_3.length : Int) (wrap64 (x31_1 + 1)) l0_0 a0_1 a0_2 l0_3 l0_4) else (some t908))) else (none))) = some r := by rw [if_neg (show ¬ (false = true) by decide)] at H; exact H
          clear H
          have H := H1
          clear H1
          replace H := qw H
          obtain ⟨t902, A290, H⟩ := H
          replace H : (if t902.length < 17592186044416 then ((llcycle.f kj21 l0_0 a0_1 a0_2 l0_3 l0_4 (t902 ++ [x31_1]) a2).bind fun t908 => (if (t908.length : Int) = 0 then (llcycle.l0 kj21 l1 a2 (rd l1 (ji4)) (l0_3.length : Int) (wrap64 (x31_1 + 1)) l0_0 a0_1 a0_2 l0_3 l0_4) else (some t908))) else (none)) = some r := H
          have e902_ := llcycle.clone A290
          clear A290
          subst e902_
          by_cases c30 : l1.length < 17592186044416
          ·
           rw [if_pos c30] at H
           have LMc30 := xA.mk c30
           clear c30
           obtain ⟨y905, hy905⟩ : ∃ y_ : List Int, y_ = (l1 ++ [x31_1]) := ⟨_, rfl⟩
           replace H : ((llcycle.f kj21 l0_0 a0_1 a0_2 l0_3 l0_4 y905 a2).bind fun t908 => (if (t908.length : Int) = 0 then (llcycle.l0 kj21 l1 a2 (rd l1 (ji4)) (l0_3.length : Int) (wrap64 (x31_1 + 1)) l0_0 a0_1 a0_2 l0_3 l0_4) else (some t908))) = some r := by first | (rw [hy905]; with_reducible exact H) | (have H2_ := (Option.bind_some _ _).symm.trans H; rw [hy905]; with_reducible exact H2_) | (have H2_ := (Option.bind_some _ _).symm.trans H; with_reducible exact H2_) | with_reducible exact H | (rw [hy905]; exact H) | exact H
           have Ny905 := xA.mk hy905
           clear hy905
           replace H := qw H
           obtain ⟨t908, A310, H⟩ := H
           replace H : (if (t908.length : Int) = 0 then (llcycle.l0 kj21 l1 a2 (rd l1 (ji4)) (l0_3.length : Int) (wrap64 (x31_1 + 1)) l0_0 a0_1 a0_2 l0_3 l0_4) else (some t908)) = some r := H
           have A31 := xA.mk A310
           clear A310
           by_cases c32 : (t908.length : Int) = 0
           ·
            rw [if_pos c32] at H
            have c32b0 : ((t908.length : Int) == 0) = true := beq_iff_eq.mpr c32
            have c32b1 : ((t908.length : Int) != 0) = false := bne_eq_false_iff_eq.mpr c32
            clear c32
            have H' := xA.mk H
            clear H
            try go_wp2
            have HO904 := xA.mk (Kd.R_below HI.out.2.2 HB.out)
            have n0_ := xA.mk (Kd.R_drew HO904.out)
            have n1_ := xA.mk (xH BK893.out)
            have n2_ := xA.mk (xN HB.out)
            clear HO904
            clear BK893
            clear HB
            have HO904 := n0_
            have BK893 := n1_
            have HB := n2_
            clear n0_ n1_ n2_
            refine start_ (n := 8) (S := fun w' => w'.cell? ⟨gb893, 0, none⟩ = some (.slice A0_0 l0_0.length c0_0) ∧ w'.cell? ⟨gb893, 1, none⟩ = some (.int .i64 a0_1) ∧ w'.cell? ⟨gb893, 2, none⟩ = some (.int .i64 a0_2) ∧ w'.cell? ⟨gb893, 3, none⟩ = some (.slice A0_3 l0_3.length c0_3) ∧ w'.cell? ⟨gb893, 4, none⟩ = some (.slice A0_4 l0_4.length c0_4)) (ds := []) (jl 8 0) jk rfl rfl ⟨(xB BK893.out 0).trans rfl, (xB BK893.out 1).trans rfl, (xB BK893.out 2).trans rfl, (xB BK893.out 3).trans rfl, (xB BK893.out 4).trans rfl⟩ (fun hHeld => ?_); refine with_tabW llcycle.tab10 llcycle.bits10 (fun HT_ HW_ => ?_)
            generalize wc.drew = w34 at HO904 BK893 HB hHeld ⊢
            refine pure_ (i := 1) (N := some 45) (v := ?_) (a' := ?_) (jl 8 2) rfl rfl (xE HT_.out jk) (fun _ _ _ h => h) (Or.inl ⟨by rfl, ?_⟩) ?_ ?_
            rotate_left
            ·
             intro w'
             go_simp
             with_reducible rfl
            rotate_left
            ·
             simp only [Act.put, qy, qz, ja, i64_w, i32_w]
             rfl
            refine pure_ (i := 2) (N := some 46) (v := ?_) (a' := ?_) (jl 8 6) rfl rfl (xE HT_.out jk) (fun _ _ _ h => h) (Or.inl ⟨by rfl, ?_⟩) ?_ ?_
            rotate_left
            ·
             intro w'
             go_simp
             with_reducible rfl
            rotate_left
            ·
             simp only [Act.put, qy, qz, ja, i64_w, i32_w]
             rfl
            refine pure_ (i := 5) (N := some 49) (v := ?_) (a' := ?_) (jl 8 38) rfl rfl (xE HT_.out jk) (fun _ _ _ h => h) (Or.inl ⟨by rfl, ?_⟩) ?_ ?_
            rotate_left
            ·
             intro w'
             go_simp
             with_reducible rfl
            rotate_left
            ·
             simp only [Act.put, qy, qz, ja, i64_w, i32_w]
             rfl
            refine take_ (i := 0) (N := some 44) (v := ?_) (a' := ?_) (jl 8 39) rfl rfl (xY HT_.out HW_.out jk) (fun _ _ _ h => h) (Or.inl ⟨by rfl, ?_⟩) hHeld ?_ ?_
            rotate_left
            ·
             rintro w' ⟨s0, s1, s2, s3, s4⟩
             go_simp
             with_reducible rfl
            rotate_left
            ·
             simp only [Act.put, qy, qz, ja, i64_w, i32_w]
             rfl
            refine one_ (i := 3) (N := some 47) (jl 8 47) rfl rfl (one_of HT_.out jk) (by decide) (fun K hK => ?_)
            with_reducible refine value_ (w1 := ?z5_w) (v := ?z5_v) ?z5_a ?z5_b ?z5_c ?z5_d
            (case z5_a => rfl)
            (case z5_b => rfl)
            case z5_c =>
             go_simp
             constructor
             ·
              rfl
             ·
              rfl
            refine hK.out _ _ ⟨(xB (xG BK893.out _) 0).trans rfl, (xB (xG BK893.out _) 1).trans rfl, (xB (xG BK893.out _) 2).trans rfl, (xB (xG BK893.out _) 3).trans rfl, (xB (xG BK893.out _) 4).trans rfl⟩ (fun hHeld => ?_)
            clear hK K
            refine norm_ (a' := ?_) ?_ ?_
            rotate_left
            ·
             show Act.put _ (some 47) _ = _
             simp only [Act.put, qy, qz, ja, i64_w, i32_w]
             rfl
            refine one_ (i := 4) (N := some 48) (jl 8 63) rfl rfl (one_of HT_.out jk) (by decide) (fun K hK => ?_)
            refine Kd.R_append_keep (w0 := w0) w0.heap.size (by rfl) (.tmp 45) (.tmp 47) 26 3 (.int .i64 0) 8 rfl Try.underlying26 info3 rfl (by decide) jj (.slice (some ad894) l1.length c1) l1 x31_1 [.int .i64 x31_1] rfl rfl ?aP ?aO ?aB ?aS ?aL ?_
            (case aP => exact rfl)
            (case aB => exact (Kd.Still.step HI.out (qo GE893.out)).1)
            (case aO => exact (qi HO904.out))
            (case aS => exact (xD (Kd.Still.step HI.out (qo GE893.out)).1))
            (case aL => have := LMc30.out; omega)
            intro v906 w35 ho hb hg hat hkp
            have HBK := xA.mk (fun w2_ (h2_ : Kd.Still w0 w35 v906 (l1 ++ [x31_1]) w2_) => Kd.Still.back (Kd.Still.step HI.out (qo GE893.out)) ho hg hat hkp h2_)
            rw [← Ny905.out] at ho HBK
            have n0_ := xA.mk (blk_grown (g := gb893) (o := .cells #[.slice A0_0 l0_0.length c0_0, .int .i64 a0_1, .int .i64 a0_2, .slice A0_3 l0_3.length c0_3, .slice A0_4 l0_4.length c0_4] 58 (0, 0)) (qn BK893.out) hg (Kd.R_ne HO904.out BK893.out (by decide)))
            have n1_ := xA.mk (hb)
            have n2_ := xA.mk (ho)
            clear BK893
            clear HB
            clear HO904
            have BK893 := n0_
            have HB := n1_
            have HO907 := n2_
            clear n0_ n1_ n2_
            clear ho hb hg hat hkp
            have HR0_0 := HW0_0
            have HR0_3 := HW0_3
            have HR0_4 := HW0_4
            obtain ⟨Ao36, co36, eo36⟩ := Kd.R_slice HO907.out
            (first | subst eo36 | (injection eo36 with f1_ f2_ f3_; have f4_ := f1_.symm; have f5_ := f3_.symm; clear f1_ f2_ f3_; subst f4_; subst f5_))
            refine hK.out _ _ ⟨(xB BK893.out 0).trans rfl, (xB BK893.out 1).trans rfl, (xB BK893.out 2).trans rfl, (xB BK893.out 3).trans rfl, (xB BK893.out 4).trans rfl⟩ (fun hHeld => ?_)
            clear hK K
            refine norm_ (a' := ?_) ?_ ?_
            rotate_left
            ·
             show Act.put _ (some 48) _ = _
             simp only [Act.put, qy, qz, ja, i64_w, i32_w]
             rfl
            refine one_ (i := 6) (N := some 50) (jl 8 127) rfl rfl (one_of HT_.out jk) (by decide) (fun K hK => ?_)
            with_reducible refine goes_ (f := 75) (fn := Try.f75) (as0 := #[.tmp 44, .tmp 48, .tmp 49]) (ts := #[58, 26, 3]) ?z3_1 ?z3_2 ?z3_3 #[.agg #[.slice A0_0 l0_0.length c0_0, .int .i64 a0_1, .int .i64 a0_2, .slice A0_3 l0_3.length c0_3, .slice A0_4 l0_4.length c0_4], .slice Ao36 y905.length co36, .int .i64 a2] ?z3_4 ?z3_5 ?z3_6 ?z3_7 ?z3_8
            (case z3_1 => exact Try.func75)
            (case z3_2 => kernel_rfl)
            (case z3_3 => kernel_rfl)
            (case z3_4 => rfl)
            (case z3_5 => rfl)
            (case z3_6 => rfl)
            (case z3_7 => (try simp only [jb, jc, jd]); first | done | rfl | (simp only [jf, je]; rfl))
            with_reducible refine (ih kj21 (by have := HK1.out; have := HJ21.out; omega) _ _ l0_0 a0_1 a0_2 _ _ l0_3 _ _ l0_4 _ _ y905 a2 t908 w0 _ ?side0 ?side1 ?side2 ?side3 ?side4 ?side5 ?side6 ?side7 A31.out).mono ?_
            (case side0 => exact HB.out)
            (case side1 => exact HW0_0.out)
            (case side2 => exact HC0_0.out)
            (case side3 => exact HW0_3.out)
            (case side4 => exact HC0_3.out)
            (case side5 => exact HW0_4.out)
            (case side6 => exact HC0_4.out)
            (case side7 => exact HO907.out)
            rintro e w37 ⟨v909, rfl, ho0, hz0, hst⟩
            refine ⟨_, rfl, ?_⟩
            have n0_ := xA.mk (blk_grown (g := gb893) (o := .cells #[.slice A0_0 l0_0.length c0_0, .int .i64 a0_1, .int .i64 a0_2, .slice A0_3 l0_3.length c0_3, .slice A0_4 l0_4.length c0_4] 58 (0, 0)) BK893.out hst.2.1 (Kd.R_ne HO907.out BK893.out (by decide)))
            have HO910 := xA.mk ho0
            have HZ := xA.mk hz0
            have HI := xA.mk (HBK.out _ hst)
            clear HB
            have HB := xA.mk hst.1
            clear BK893 HO907 HBK
            have BK893 := n0_
            clear n0_ ho0 hz0 hst
            refine hK.out _ _ ⟨(xB BK893.out 0).trans rfl, (xB BK893.out 1).trans rfl, (xB BK893.out 2).trans rfl, (xB BK893.out 3).trans rfl, (xB BK893.out 4).trans rfl⟩ (fun hHeld => ?_)
            clear hK K
            refine norm_ (a' := ?_) ?_ ?_
            rotate_left
            ·
             show Act.put _ (some 50) _ = _
             simp only [Act.put, qy, qz, ja, i64_w, i32_w]
             rfl
            refine pure_ (i := 7) (N := some 9) (v := ?_) (a' := ?_) (jl 8 255) rfl rfl (xE HT_.out jk) (fun _ _ _ h => h) (Or.inl ⟨by rfl, ?_⟩) ?_ ?_
            rotate_left
            ·
             intro w'
             go_simp
             with_reducible rfl
            rotate_left
            ·
             simp only [Act.put, qy, qz, ja, i64_w, i32_w]
             rfl
            refine done_ (done_of HT_.out jk) ?_
            obtain ⟨Ao38, co38, eo38⟩ := Kd.R_slice HO910.out
            subst eo38
            have he_ := Kd.R_neq (P := Try.prog) (t := 26) (e' := 3) Try.underlying26 HO910.out HZ.out c32b1
            try go_wp2
            go_roundg kj21
            case measure => have := HK1.out; have := HJ21.out; omega
            case rel => exact ⟨(wrap64 (x31_1 + 1)), qf, H', ⟨by have := HK1.out; have := HJ21.out; omega⟩, ⟨qn BK893.out⟩, ⟨HI.out⟩⟩
           ·
            rw [if_neg c32] at H
            have c32b0 : ((t908.length : Int) == 0) = false := jg c32
            have c32b1 : ((t908.length : Int) != 0) = true := bne_iff_ne.mpr c32
            have c32b2 : ¬ (t908 = []) := fun h_ => c32 (by rw [h_]; rfl)
            obtain rfl := qx H
            try go_wp2
            have HO904 := xA.mk (Kd.R_below HI.out.2.2 HB.out)
            have n0_ := xA.mk (Kd.R_drew HO904.out)
            have n1_ := xA.mk (xH BK893.out)
            have n2_ := xA.mk (xN HB.out)
            clear HO904
            clear BK893
            clear HB
            have HO904 := n0_
            have BK893 := n1_
            have HB := n2_
            clear n0_ n1_ n2_
            refine start_ (n := 8) (S := fun w' => w'.cell? ⟨gb893, 0, none⟩ = some (.slice A0_0 l0_0.length c0_0) ∧ w'.cell? ⟨gb893, 1, none⟩ = some (.int .i64 a0_1) ∧ w'.cell? ⟨gb893, 2, none⟩ = some (.int .i64 a0_2) ∧ w'.cell? ⟨gb893, 3, none⟩ = some (.slice A0_3 l0_3.length c0_3) ∧ w'.cell? ⟨gb893, 4, none⟩ = some (.slice A0_4 l0_4.length c0_4)) (ds := []) (jl 8 0) jk rfl rfl ⟨(xB BK893.out 0).trans rfl, (xB BK893.out 1).trans rfl, (xB BK893.out 2).trans rfl, (xB BK893.out 3).trans rfl, (xB BK893.out 4).trans rfl⟩ (fun hHeld => ?_); refine with_tabW llcycle.tab10 llcycle.bits10 (fun HT_ HW_ => ?_)
            generalize wc.drew = w40 at HO904 BK893 HB hHeld ⊢
            refine pure_ (i := 1) (N := some 45) (v := ?_) (a' := ?_) (jl 8 2) rfl rfl (xE HT_.out jk) (fun _ _ _ h => h) (Or.inl ⟨by rfl, ?_⟩) ?_ ?_
            rotate_left
            ·
             intro w'
             go_simp
             with_reducible rfl
            rotate_left
            ·
             simp only [Act.put, qy, qz, ja, i64_w, i32_w]
             rfl
            refine pure_ (i := 2) (N := some 46) (v := ?_) (a' := ?_) (jl 8 6) rfl rfl (xE HT_.out jk) (fun _ _ _ h => h) (Or.inl ⟨by rfl, ?_⟩) ?_ ?_
            rotate_left
            ·
             intro w'
             go_simp
             with_reducible rfl
            rotate_left
            ·
             simp only [Act.put, qy, qz, ja, i64_w, i32_w]
             rfl
            refine pure_ (i := 5) (N := some 49) (v := ?_) (a' := ?_) (jl 8 38) rfl rfl (xE HT_.out jk) (fun _ _ _ h => h) (Or.inl ⟨by rfl, ?_⟩) ?_ ?_
            rotate_left
            ·
             intro w'
             go_simp
             with_reducible rfl
            rotate_left
            ·
             simp only [Act.put, qy, qz, ja, i64_w, i32_w]
             rfl
            refine take_ (i := 0) (N := some 44) (v := ?_) (a' := ?_) (jl 8 39) rfl rfl (xY HT_.out HW_.out jk) (fun _ _ _ h => h) (Or.inl ⟨by rfl, ?_⟩) hHeld ?_ ?_
            rotate_left
            ·
             rintro w' ⟨s0, s1, s2, s3, s4⟩
             go_simp
             with_reducible rfl
            rotate_left
            ·
             simp only [Act.put, qy, qz, ja, i64_w, i32_w]
             rfl
            refine one_ (i := 3) (N := some 47) (jl 8 47) rfl rfl (one_of HT_.out jk) (by decide) (fun K hK => ?_)
            with_reducible refine value_ (w1 := ?z6_w) (v := ?z6_v) ?z6_a ?z6_b ?z6_c ?z6_d
            (case z6_a => rfl)
            (case z6_b => rfl)
            case z6_c =>
             go_simp
             constructor
             ·
              rfl
             ·
              rfl
            refine hK.out _ _ ⟨(xB (xG BK893.out _) 0).trans rfl, (xB (xG BK893.out _) 1).trans rfl, (xB (xG BK893.out _) 2).trans rfl, (xB (xG BK893.out _) 3).trans rfl, (xB (xG BK893.out _) 4).trans rfl⟩ (fun hHeld => ?_)
            clear hK K
            refine norm_ (a' := ?_) ?_ ?_
            rotate_left
            ·
             show Act.put _ (some 47) _ = _
             simp only [Act.put, qy, qz, ja, i64_w, i32_w]
             rfl
            refine one_ (i := 4) (N := some 48) (jl 8 63) rfl rfl (one_of HT_.out jk) (by decide) (fun K hK => ?_)
            refine Kd.R_append_keep (w0 := w0) w0.heap.size (by rfl) (.tmp 45) (.tmp 47) 26 3 (.int .i64 0) 8 rfl Try.underlying26 info3 rfl (by decide) jj (.slice (some ad894) l1.length c1) l1 x31_1 [.int .i64 x31_1] rfl rfl ?aP ?aO ?aB ?aS ?aL ?_
            (case aP => exact rfl)
            (case aB => exact (Kd.Still.step HI.out (qo GE893.out)).1)
            (case aO => exact (qi HO904.out))
            (case aS => exact (xD (Kd.Still.step HI.out (qo GE893.out)).1))
            (case aL => have := LMc30.out; omega)
            intro v906 w41 ho hb hg hat hkp
            have HBK := xA.mk (fun w2_ (h2_ : Kd.Still w0 w41 v906 (l1 ++ [x31_1]) w2_) => Kd.Still.back (Kd.Still.step HI.out (qo GE893.out)) ho hg hat hkp h2_)
            rw [← Ny905.out] at ho HBK
            have n0_ := xA.mk (blk_grown (g := gb893) (o := .cells #[.slice A0_0 l0_0.length c0_0, .int .i64 a0_1, .int .i64 a0_2, .slice A0_3 l0_3.length c0_3, .slice A0_4 l0_4.length c0_4] 58 (0, 0)) (qn BK893.out) hg (Kd.R_ne HO904.out BK893.out (by decide)))
            have n1_ := xA.mk (hb)
            have n2_ := xA.mk (ho)
            clear BK893
            clear HB
            clear HO904
            have BK893 := n0_
            have HB := n1_
            have HO907 := n2_
            clear n0_ n1_ n2_
            clear ho hb hg hat hkp
            have HR0_0 := HW0_0
            have HR0_3 := HW0_3
            have HR0_4 := HW0_4
            obtain ⟨Ao42, co42, eo42⟩ := Kd.R_slice HO907.out
            (first | subst eo42 | (injection eo42 with f1_ f2_ f3_; have f4_ := f1_.symm; have f5_ := f3_.symm; clear f1_ f2_ f3_; subst f4_; subst f5_))
            refine hK.out _ _ ⟨(xB BK893.out 0).trans rfl, (xB BK893.out 1).trans rfl, (xB BK893.out 2).trans rfl, (xB BK893.out 3).trans rfl, (xB BK893.out 4).trans rfl⟩ (fun hHeld => ?_)
            clear hK K
            refine norm_ (a' := ?_) ?_ ?_
            rotate_left
            ·
             show Act.put _ (some 48) _ = _
             simp only [Act.put, qy, qz, ja, i64_w, i32_w]
             rfl
            refine one_ (i := 6) (N := some 50) (jl 8 127) rfl rfl (one_of HT_.out jk) (by decide) (fun K hK => ?_)
            with_reducible refine goes_ (f := 75) (fn := Try.f75) (as0 := #[.tmp 44, .tmp 48, .tmp 49]) (ts := #[58, 26, 3]) ?z4_1 ?z4_2 ?z4_3 #[.agg #[.slice A0_0 l0_0.length c0_0, .int .i64 a0_1, .int .i64 a0_2, .slice A0_3 l0_3.length c0_3, .slice A0_4 l0_4.length c0_4], .slice Ao42 y905.length co42, .int .i64 a2] ?z4_4 ?z4_5 ?z4_6 ?z4_7 ?z4_8
            (case z4_1 => exact Try.func75)
            (case z4_2 => kernel_rfl)
            (case z4_3 => kernel_rfl)
            (case z4_4 => rfl)
            (case z4_5 => rfl)
            (case z4_6 => rfl)
            (case z4_7 => (try simp only [jb, jc, jd]); first | done | rfl | (simp only [jf, je]; rfl))
            with_reducible refine (ih kj21 (by have := HK1.out; have := HJ21.out; omega) _ _ l0_0 a0_1 a0_2 _ _ l0_3 _ _ l0_4 _ _ y905 a2 t908 w0 _ ?side0 ?side1 ?side2 ?side3 ?side4 ?side5 ?side6 ?side7 A31.out).mono ?_
            (case side0 => exact HB.out)
            (case side1 => exact HW0_0.out)
            (case side2 => exact HC0_0.out)
            (case side3 => exact HW0_3.out)
            (case side4 => exact HC0_3.out)
            (case side5 => exact HW0_4.out)
            (case side6 => exact HC0_4.out)
            (case side7 => exact HO907.out)
            rintro e w43 ⟨v909, rfl, ho0, hz0, hst⟩
            refine ⟨_, rfl, ?_⟩
            have n0_ := xA.mk (blk_grown (g := gb893) (o := .cells #[.slice A0_0 l0_0.length c0_0, .int .i64 a0_1, .int .i64 a0_2, .slice A0_3 l0_3.length c0_3, .slice A0_4 l0_4.length c0_4] 58 (0, 0)) BK893.out hst.2.1 (Kd.R_ne HO907.out BK893.out (by decide)))
            have HO910 := xA.mk ho0
            have HZ := xA.mk hz0
            have HI := xA.mk (HBK.out _ hst)
            clear HB
            have HB := xA.mk hst.1
            clear BK893 HO907 HBK
            have BK893 := n0_
            clear n0_ ho0 hz0 hst
            refine hK.out _ _ ⟨(xB BK893.out 0).trans rfl, (xB BK893.out 1).trans rfl, (xB BK893.out 2).trans rfl, (xB BK893.out 3).trans rfl, (xB BK893.out 4).trans rfl⟩ (fun hHeld => ?_)
            clear hK K
            refine norm_ (a' := ?_) ?_ ?_
            rotate_left
            ·
             show Act.put _ (some 50) _ = _
             simp only [Act.put, qy, qz, ja, i64_w, i32_w]
             rfl
            refine pure_ (i := 7) (N := some 9) (v := ?_) (a' := ?_) (jl 8 255) rfl rfl (xE HT_.out jk) (fun _ _ _ h => h) (Or.inl ⟨by rfl, ?_⟩) ?_ ?_
            rotate_left
            ·
             intro w'
             go_simp
             with_reducible rfl
            rotate_left
            ·
             simp only [Act.put, qy, qz, ja, i64_w, i32_w]
             rfl
            refine done_ (done_of HT_.out jk) ?_
            obtain ⟨Ao44, co44, eo44⟩ := Kd.R_slice HO910.out
            subst eo44
            have he_ := Kd.R_neq (P := Try.prog) (t := 26) (e' := 3) Try.underlying26 HO910.out HZ.out c32b1
            try go_wp2
            go_ret
            exact ⟨_, by first | rfl | (simp [errW_none, errW_some] <;> rfl) | (simp only [← hji4]; first | rfl | (simp [errW_none, errW_some] <;> rfl)) | (simp [*, errW_none, errW_some] <;> rfl), by (with_reducible repeat (first | apply Kd.R_alloc | apply Kd.R_drewN | apply Kd.R_drew)); exact Kd.xZ HO910.out (fun _ hk => trivial), (fun h_ => absurd h_ c32b2), HI.out⟩
          ·
           rw [if_neg c30] at H
           exact absurd H (by simp)
      ·
       rw [if_neg c21] at H
       have c21b0 : decide (x31_1 < (l0_3.length : Int)) = false := qv c21
       clear c21
       obtain rfl := qx H
       go_wp2
       go_ret
       exact ⟨_, by first | rfl | (simp [errW_none, errW_some] <;> rfl) | (simp only [← hji4]; first | rfl | (simp [errW_none, errW_some] <;> rfl)) | (simp [*, errW_none, errW_some] <;> rfl), by first | exact Kd.R_nil _ _ _ _ _ | exact Kd.N_nil _ _ _ _ _ | exact Kd.V_nil _ _ _ _ _ | exact Kd.Q_nil _ _ _ _ _ | exact Kd.S_nil _ _ _ _ _, (by first | exact (fun _ => rfl) | rfl | simp), Kd.Still.step HI.out (qo GE893.out)⟩
  ·
   rw [if_neg c6] at H
   exact absurd H (by simp)
 ·
  rw [if_neg c5] at H
  exact absurd H (by simp)
mutual
def line_Cycle.l0 : Nat → Int → List (List Int) → Int → Int → List (List Int) → List (List Int) → Option (List Int × Int)
 | 0, _, _, _, _, _, _ => none
 | k + 1, x6, x924000, x924001, x924002, x924003, x924004 => line_Cycle.l1 k x6 (x924003.length : Int) 0 x924000 x924001 x924002 x924003 x924004
def line_Cycle.l1 : Nat → Int → Int → Int → List (List Int) → Int → Int → List (List Int) → List (List Int) → Option (List Int × Int)
 | 0, _, _, _, _, _, _, _, _ => none
 | k + 1, x6, x21, x22, x924000, x924001, x924002, x924003, x924004 => if x22 < x21 then ((llcycle.f k x924000 x924001 x924002 x924003 x924004 (([x22] : List Int)) x6).bind fun t927 => (if (t927.length : Int) = 0 then (line_Cycle.l1 k x6 x21 (wrap64 (x22 + 1)) x924000 x924001 x924002 x924003 x924004) else (some (t927, 0)))) else (line_Cycle.l0 k (wrap64 (x6 + 1)) x924000 x924001 x924002 x924003 x924004)
end
def line_Cycle.f (k : Nat) (l0 : List (List Int)) : Option (List Int × Int) := (line_looked.f k l0).bind fun bt911 => (if bt911.2.2.2.2.2 = 0 then (line_Cycle.l0 k 1 bt911.1 bt911.2.1 bt911.2.2.1 bt911.2.2.2.1 bt911.2.2.2.2.1) else (some (([] : List Int), bt911.2.2.2.2.2)))
theorem line_Cycle.calls (k : Nat) (A0 : Option Addr) (c0 : Nat) (l0 : List (List Int)) (r1 : List Int) (r2 : Int) (w : World) (hr0 : Kd.C (Kd.slice 3 (Kd.int .i64)) w A0 l0.length l0) (hc0 : l0.length ≤ c0) (h : line_Cycle.f k l0 = some (r1, r2)) :
  Calls Try.prog 33 #[.slice A0 l0.length c0] w fun e w' => ∃ v0_ : Value, e = .returned (.tuple #[v0_, .int .i64 r2]) ∧ Kd.R (Kd.int .i64) 3 w' w.heap.size (fun _ => True) v0_ r1 ∧ Below w.heap.size w w' := by
 have hu58 := Try.underlying58
 have HR0 := xA.mk hr0
 have HC0 := xA.mk hc0
 clear hr0 hc0
 have HB := xA.mk (Below.refl w.heap.size w)
 have H : ((line_looked.f k l0).bind fun bt911 => (if bt911.2.2.2.2.2 = 0 then (line_Cycle.l0 k 1 bt911.1 bt911.2.1 bt911.2.2.1 bt911.2.2.2.1 bt911.2.2.2.2.1) else (some (([] : List Int), bt911.2.2.2.2.2)))) = some (r1, r2) := h
 clear h
 replace H := qw H
 obtain ⟨⟨t911, t914, t915, t916, t919, t922⟩, A20, H⟩ := H
 replace H : (if t922 = 0 then (line_Cycle.l0 k 1 t911 t914 t915 t916 t919) else (some (([] : List Int), t922))) = some (r1, r2) := H
 have A2 := xA.mk A20
 clear A20
 by_cases c3 : t922 = 0
 ·
  rw [if_pos c3] at H
  have c3b0 : (t922 == 0) = true := beq_iff_eq.mpr c3
  have c3b1 : (t922 != 0) = false := bne_eq_false_iff_eq.mpr c3
  clear c3
  have H' := xA.mk H
  clear H
  go_enter Try.func33, Try.ntmps33
  go_wp2_with (first | ((with_reducible refine xK (f := 45) rfl ?_); refine xS (some 11) rfl rfl Try.func45 jk rfl #[.slice A0 l0.length c0] rfl qc ?_; (with_reducible refine (line_looked.calls k (fun k_ => k_ < w.heap.size) _ _ l0 t911 t914 t915 t916 t919 t922 _ ?side1 A2.out).mono ?_); (case side1 => exact Kd.V_mk HC0.out (Kd.F_below (Kd.C_F (Kd.heap_slice 3 (Kd.heap_int .i64)) HR0.out) qa)); rintro e w4 ⟨v912, v917, v920, rfl, ho0, ho1, ho2, hb⟩; refine ⟨_, rfl, ?_⟩; have HO913 := xA.mk (Kd.V_lower (Kd.V_mono (ok' := fun k_ => some k_ ≠ (v917 : Value).ownBlock ∧ some k_ ≠ (v920 : Value).ownBlock) ho0 (fun k_ hk_ => ⟨hk_.2.1, hk_.2.2⟩)) (xD qa)); have HO918 := xA.mk (Kd.S_lower (Kd.xQ (ok' := fun k_ => some k_ ≠ (v920 : Value).ownBlock) ho1 (fun _ hk_ => hk_.2)) (xD qa)); have HO921 := xA.mk (Kd.S_lower (Kd.xQ (ok' := fun k_ => some k_ ≠ (v917 : Value).ownBlock) ho2 (fun _ hk_ => hk_.2)) (xD qa)); replace HB := xA.mk (xF qa hb); (try clear hb); (try clear hb2); (try clear hk); (try clear hi); (try clear ho0); (try clear ho1); (try clear ho2)) | ((with_reducible refine xW (N := 4) rfl ?_); refine yF ?hg (N := 4) ?hd (cs := #[.slice none 0 0, .int .i64 0, .int .i64 0, .slice none 0 0, .slice none 0 0]) (t := 58) ?hr ?_; (case hd => rfl); (case hg => rfl); (case hr => first | (go_simp; done) | (go_simp; rfl)); intro gb923 hg w5 hbox hb; have n0_ := xA.mk (Kd.V_below (Kd.V_elderB (qj HO913.out) gb923 (Nat.le_of_eq hg.symm)) hb); have n1_ := xA.mk (Kd.xX (qh HO918.out) hb); have n2_ := xA.mk (Kd.xX (qh HO921.out) hb); have n3_ := xA.mk (xF qa hb); have n4_ := xA.mk (hbox); have n5_ := xA.mk ((by rw [hg]; exact (xD qa) : w.heap.size ≤ gb923)); have n6_ := xA.mk ((by rw [hg]; exact (xD qa) : w.heap.size ≤ gb923)); clear HO913; clear HO918; clear HO921; clear HB; have HO913 := n0_; have HO918 := n1_; have HO921 := n2_; have HB := n3_; have BK923 := n4_; have GW923 := n5_; have GE923 := n6_; clear n0_ n1_ n2_ n3_ n4_ n5_ n6_; clear hb hbox hg; obtain ⟨Ao6, co6, eo6⟩ := Kd.V_slice HO913.out; subst eo6; have hcz7_0 : w5.cell? ⟨gb923, 0, none⟩ = some (.slice none 0 0) := (xB BK923.out 0).trans rfl; have hcz7_1 : w5.cell? ⟨gb923, 1, none⟩ = some (.int .i64 0) := (xB BK923.out 1).trans rfl; have hcz7_2 : w5.cell? ⟨gb923, 2, none⟩ = some (.int .i64 0) := (xB BK923.out 2).trans rfl; have hcz7_3 : w5.cell? ⟨gb923, 3, none⟩ = some (.slice none 0 0) := (xB BK923.out 3).trans rfl; have hcz7_4 : w5.cell? ⟨gb923, 4, none⟩ = some (.slice none 0 0) := (xB BK923.out 4).trans rfl; have hfz7_0 := xC BK923.out 0; have hfz7_1 := xC BK923.out 1; have hfz7_2 := xC BK923.out 2; have hfz7_3 := xC BK923.out 3; have hfz7_4 := xC BK923.out 4; obtain ⟨Ao8, co8, eo8⟩ := Kd.yD HO918.out; subst eo8; obtain ⟨Ao9, co9, eo9⟩ := Kd.yD HO921.out; subst eo9))
  go_loopg [6] k (fun kq v6 w' => ∃ (x6_1 : Int), v6 = .int .i64 x6_1 ∧ xA (line_Cycle.l0 kq x6_1 t911 t914 t915 t916 t919 = some (r1, r2)) ∧ xA (kq ≤ k) ∧ xA (Kd.V (Kd.slice 3 (Kd.int .i64)) 26 w' w.heap.size (fun k_ => some k_ ≠ ((.slice Ao8 t916.length co8) : Value).ownBlock ∧ some k_ ≠ ((.slice Ao9 t919.length co9) : Value).ownBlock ∧ k_ ≠ gb923) (.slice Ao6 t911.length co6) t911) ∧ xA (Kd.S (Kd.slice 3 (Kd.int .i64)) 26 w' w.heap.size (fun k_ => some k_ ≠ ((.slice Ao9 t919.length co9) : Value).ownBlock) (.slice Ao8 t916.length co8) t916) ∧ xA (Kd.S (Kd.slice 3 (Kd.int .i64)) 26 w' w.heap.size (fun k_ => some k_ ≠ ((.slice Ao8 t916.length co8) : Value).ownBlock) (.slice Ao9 t919.length co9) t919) ∧ xA (w'.heap[gb923]? = some (.cells #[(.slice Ao6 t911.length co6), .int .i64 t914, .int .i64 t915, (.slice Ao8 t916.length co8), (.slice Ao9 t919.length co9)] 58 (0, 0))) ∧ xA (Below w.heap.size w w'))
  case atStart => exact ⟨(1), qf, H', ⟨Nat.le_refl _⟩, ⟨by (with_reducible repeat (first | apply Kd.V_alloc | apply Kd.V_drewN | apply Kd.V_drew)); exact Kd.V_mono (Kd.V_far (p := ⟨gb923, 4, none⟩) (Kd.V_far (p := ⟨gb923, 3, none⟩) (Kd.V_far (p := ⟨gb923, 2, none⟩) (Kd.V_far (p := ⟨gb923, 1, none⟩) (Kd.V_far (p := ⟨gb923, 0, none⟩) (Kd.V_mono HO913.out (fun k_ hk => (⟨hk, hk.2⟩ : _ ∧ k_ ≠ gb923))) (fun _ hk => hk.2) (.slice Ao6 t911.length co6)) (fun _ hk => hk.2) (.int .i64 t914)) (fun _ hk => hk.2) (.int .i64 t915)) (fun _ hk => hk.2) (.slice Ao8 t916.length co8)) (fun _ hk => hk.2) (.slice Ao9 t919.length co9)) (fun _ hk => ⟨hk.1.1.1, ⟨hk.1.1.2, hk.1.2⟩⟩)⟩, ⟨by (with_reducible repeat (first | apply Kd.S_alloc | apply Kd.yA | apply Kd.xV)); exact Kd.xQ (Kd.S_far (p := ⟨gb923, 4, none⟩) (Kd.S_far (p := ⟨gb923, 3, none⟩) (Kd.S_far (p := ⟨gb923, 2, none⟩) (Kd.S_far (p := ⟨gb923, 1, none⟩) (Kd.S_far (p := ⟨gb923, 0, none⟩) (Kd.S_types HO918.out BK923.out (by decide)) (fun _ hk => hk.2) (.slice Ao6 t911.length co6)) (fun _ hk => hk.2) (.int .i64 t914)) (fun _ hk => hk.2) (.int .i64 t915)) (fun _ hk => hk.2) (.slice Ao8 t916.length co8)) (fun _ hk => hk.2) (.slice Ao9 t919.length co9)) (fun _ hk => hk.1)⟩, ⟨by (with_reducible repeat (first | apply Kd.S_alloc | apply Kd.yA | apply Kd.xV)); exact Kd.xQ (Kd.S_far (p := ⟨gb923, 4, none⟩) (Kd.S_far (p := ⟨gb923, 3, none⟩) (Kd.S_far (p := ⟨gb923, 2, none⟩) (Kd.S_far (p := ⟨gb923, 1, none⟩) (Kd.S_far (p := ⟨gb923, 0, none⟩) (Kd.S_types HO921.out BK923.out (by decide)) (fun _ hk => hk.2) (.slice Ao6 t911.length co6)) (fun _ hk => hk.2) (.int .i64 t914)) (fun _ hk => hk.2) (.int .i64 t915)) (fun _ hk => hk.2) (.slice Ao8 t916.length co8)) (fun _ hk => hk.2) (.slice Ao9 t919.length co9)) (fun _ hk => hk.1)⟩, ⟨by (with_reducible repeat (first | refine xI ?_ _ | refine xH ?_ | refine xG ?_ _)); refine xT (cs := #[.slice Ao6 t911.length co6, .int .i64 t914, .int .i64 t915, .slice Ao8 t916.length co8, .slice none 0 0]) ?_ 4 _ rfl; (with_reducible repeat (first | refine xI ?_ _ | refine xH ?_ | refine xG ?_ _)); refine xT (cs := #[.slice Ao6 t911.length co6, .int .i64 t914, .int .i64 t915, .slice none 0 0, .slice none 0 0]) ?_ 3 _ rfl; (with_reducible repeat (first | refine xI ?_ _ | refine xH ?_ | refine xG ?_ _)); refine xT (cs := #[.slice Ao6 t911.length co6, .int .i64 t914, .int .i64 0, .slice none 0 0, .slice none 0 0]) ?_ 2 _ rfl; (with_reducible repeat (first | refine xI ?_ _ | refine xH ?_ | refine xG ?_ _)); refine xT (cs := #[.slice Ao6 t911.length co6, .int .i64 0, .int .i64 0, .slice none 0 0, .slice none 0 0]) ?_ 1 _ rfl; (with_reducible repeat (first | refine xI ?_ _ | refine xH ?_ | refine xG ?_ _)); refine xT (cs := #[.slice none 0 0, .int .i64 0, .int .i64 0, .slice none 0 0, .slice none 0 0]) ?_ 0 _ rfl; (with_reducible repeat (first | refine xI ?_ _ | refine xH ?_ | refine xG ?_ _)); exact BK923.out⟩, ⟨qo GE923.out⟩⟩
  case round =>
   clear H'
   try clear p2
   try clear c3
   try clear c3b0
   try clear c3b1
   try clear c4
   try clear hcz7_0
   try clear hcz7_1
   try clear hcz7_2
   try clear hcz7_3
   try clear hcz7_4
   try clear hfz7_0
   try clear hfz7_1
   try clear hfz7_2
   try clear hfz7_3
   try clear hfz7_4
   obtain ⟨x6_1, rfl, HA, HK1, HO_924000, HO_924003, HO_924004, BK923, HB⟩ := hrel
   cases gk with
   | zero => exact absurd HA.out (by simp [line_Cycle.l0])
   | succ k1 =>
    have H := HA.out
    clear HA
    simp only [line_Cycle.l0] at H
    have H' := xA.mk H
    clear H
    have hcz10_0 : wr.cell? ⟨gb923, 0, none⟩ = some (.slice Ao6 t911.length co6) := (xB BK923.out 0).trans rfl
    have hcz10_1 : wr.cell? ⟨gb923, 1, none⟩ = some (.int .i64 t914) := (xB BK923.out 1).trans rfl
    have hcz10_2 : wr.cell? ⟨gb923, 2, none⟩ = some (.int .i64 t915) := (xB BK923.out 2).trans rfl
    have hcz10_3 : wr.cell? ⟨gb923, 3, none⟩ = some (.slice Ao8 t916.length co8) := (xB BK923.out 3).trans rfl
    have hcz10_4 : wr.cell? ⟨gb923, 4, none⟩ = some (.slice Ao9 t919.length co9) := (xB BK923.out 4).trans rfl
    have hfz10_0 := xC BK923.out 0
    have hfz10_1 := xC BK923.out 1
    have hfz10_2 := xC BK923.out 2
    have hfz10_3 := xC BK923.out 3
    have hfz10_4 := xC BK923.out 4
    go_wp2
    go_loopg [22] k1 (fun kq v22 w' => ∃ (x22_2 : Int), v22 = .int .i64 x22_2 ∧ xA (line_Cycle.l1 kq x6_1 (t916.length : Int) x22_2 t911 t914 t915 t916 t919 = some (r1, r2)) ∧ xA (kq ≤ k1) ∧ xA (Kd.V (Kd.slice 3 (Kd.int .i64)) 26 w' w.heap.size (fun k_ => some k_ ≠ ((.slice Ao8 t916.length co8) : Value).ownBlock ∧ some k_ ≠ ((.slice Ao9 t919.length co9) : Value).ownBlock ∧ k_ ≠ gb923) (.slice Ao6 t911.length co6) t911) ∧ xA (Kd.S (Kd.slice 3 (Kd.int .i64)) 26 w' w.heap.size (fun k_ => some k_ ≠ ((.slice Ao9 t919.length co9) : Value).ownBlock) (.slice Ao8 t916.length co8) t916) ∧ xA (Kd.S (Kd.slice 3 (Kd.int .i64)) 26 w' w.heap.size (fun k_ => some k_ ≠ ((.slice Ao8 t916.length co8) : Value).ownBlock) (.slice Ao9 t919.length co9) t919) ∧ xA (w'.heap[gb923]? = some (.cells #[(.slice Ao6 t911.length co6), .int .i64 t914, .int .i64 t915, (.slice Ao8 t916.length co8), (.slice Ao9 t919.length co9)] 58 (0, 0))) ∧ xA (Below w.heap.size w w'))
    case atStart => exact ⟨(0), qf, H', ⟨Nat.le_refl _⟩, ⟨qj HO_924000.out⟩, ⟨qh HO_924003.out⟩, ⟨qh HO_924004.out⟩, ⟨qn BK923.out⟩, ⟨qo GE923.out⟩⟩
    case round =>
     clear H'
     try clear p2
     try clear c3
     try clear c3b0
     try clear c3b1
     try clear c4
     try clear hcz10_0
     try clear hcz10_1
     try clear hcz10_2
     try clear hcz10_3
     try clear hcz10_4
     try clear hcz7_0
     try clear hcz7_1
     try clear hcz7_2
     try clear hcz7_3
     try clear hcz7_4
     try clear hfz10_0
     try clear hfz10_1
     try clear hfz10_2
     try clear hfz10_3
     try clear hfz10_4
     try clear hfz7_0
     try clear hfz7_1
     try clear hfz7_2
     try clear hfz7_3
     try clear hfz7_4
     try clear p2
     obtain ⟨x22_2, rfl, HA, HK2, HO_924000, HO_924003, HO_924004, BK923, HB⟩ := hrel
     cases gk with
     | zero => exact absurd HA.out (by simp [line_Cycle.l1])
     | succ k2 =>
      have H := HA.out
      clear HA
      simp only [line_Cycle.l1] at H
      by_cases c11 : x22_2 < (t916.length : Int)
      ·
       rw [if_pos c11] at H
       have c11b0 : decide (x22_2 < (t916.length : Int)) = true := qu c11
       clear c11
       obtain ⟨y924, hy924⟩ : ∃ y_ : List Int, y_ = (([x22_2] : List Int)) := ⟨_, rfl⟩
       replace H : ((llcycle.f k2 t911 t914 t915 t916 t919 y924 x6_1).bind fun t927 => (if (t927.length : Int) = 0 then (line_Cycle.l1 k2 x6_1 (t916.length : Int) (wrap64 (x22_2 + 1)) t911 t914 t915 t916 t919) else (some (t927, 0)))) = some (r1, r2) := by first | (rw [hy924]; with_reducible exact H) | (have H2_ := (Option.bind_some _ _).symm.trans H; rw [hy924]; with_reducible exact H2_) | (have H2_ := (Option.bind_some _ _).symm.trans H; with_reducible exact H2_) | with_reducible exact H | (rw [hy924]; exact H) | exact H
       have Ny924 := xA.mk hy924
       clear hy924
       replace H := qw H
       obtain ⟨t927, A120, H⟩ := H
       replace H : (if (t927.length : Int) = 0 then (line_Cycle.l1 k2 x6_1 (t916.length : Int) (wrap64 (x22_2 + 1)) t911 t914 t915 t916 t919) else (some (t927, 0))) = some (r1, r2) := H
       have A12 := xA.mk A120
       clear A120
       by_cases c13 : (t927.length : Int) = 0
       ·
        rw [if_pos c13] at H
        have c13b0 : ((t927.length : Int) == 0) = true := beq_iff_eq.mpr c13
        have c13b1 : ((t927.length : Int) != 0) = false := bne_eq_false_iff_eq.mpr c13
        clear c13
        have H' := xA.mk H
        clear H
        have hcz14_0 : wr.cell? ⟨gb923, 0, none⟩ = some (.slice Ao6 t911.length co6) := (xB BK923.out 0).trans rfl
        have hcz14_1 : wr.cell? ⟨gb923, 1, none⟩ = some (.int .i64 t914) := (xB BK923.out 1).trans rfl
        have hcz14_2 : wr.cell? ⟨gb923, 2, none⟩ = some (.int .i64 t915) := (xB BK923.out 2).trans rfl
        have hcz14_3 : wr.cell? ⟨gb923, 3, none⟩ = some (.slice Ao8 t916.length co8) := (xB BK923.out 3).trans rfl
        have hcz14_4 : wr.cell? ⟨gb923, 4, none⟩ = some (.slice Ao9 t919.length co9) := (xB BK923.out 4).trans rfl
        have hfz14_0 := xC BK923.out 0
        have hfz14_1 := xC BK923.out 1
        have hfz14_2 := xC BK923.out 2
        have hfz14_3 := xC BK923.out 3
        have hfz14_4 := xC BK923.out 4
        go_wp2_with (first | ((with_reducible refine xW (N := 27) rfl ?_); refine Kd.R_lit (Kd.int .i64) _ 3 ?hg (N := 27) ?hd (xs := ([x22_2] : List Int)) (inner := [.int .i64 x22_2]) (ok := fun _ => True) (okp := fun _ => True) ?hr ?hp (fun _ hk => hk) trivial (Below.refl _ _) (Nat.le_refl _) (by simp) ?_; (case hd => rfl); (case hg => rfl); (case hr => first | (go_simp; done) | (go_simp; rfl)); (case hp => exact (Reps.one (show Kd.M (Kd.int .i64) _ _ _ x22_2 [.int .i64 x22_2] from rfl) (Reps.none _ _))); intro v925 w15 ho16 hb hg_ hnew_; clear hg_ hnew_; (first | rw [← Ny924.out] at ho16 | (simp only [Int.reduceToNat] at ho16; rw [← Ny924.out] at ho16)); have HCY := xA.mk (Kd.Still.start hb ho16); have HCYa := xA.mk HCY.out.1; have HCYb := xA.mk HCY.out.2.2; have HO926 := xA.mk ho16; clear hb ho16; obtain ⟨Ao17, co17, eo17⟩ := Kd.R_slice HO926.out; subst eo17) | ((with_reducible refine xK (f := 75) rfl ?_); refine xS (some 29) rfl rfl Try.func75 jk rfl #[.agg #[.slice Ao6 t911.length co6, .int .i64 t914, .int .i64 t915, .slice Ao8 t916.length co8, .slice Ao9 t919.length co9], .slice Ao17 y924.length co17, .int .i64 x6_1] rfl qc ?_; (with_reducible refine (llcycle.calls k2 _ _ t911 t914 t915 _ _ t916 _ _ t919 _ _ y924 x6_1 t927 wr _ HCYa.out ?side1 ?side2 ?side3 ?side4 ?side5 ?side6 HCYb.out A12.out).mono ?_); (case side1 => exact qm (Kd.yB HO_924000.out).2.2); (case side2 => exact (Kd.yB HO_924000.out).2.1); (case side3 => exact qm (Kd.xJ HO_924003.out).2.2); (case side4 => exact (Kd.xJ HO_924003.out).2.1); (case side5 => exact qm (Kd.xJ HO_924004.out).2.2); (case side6 => exact (Kd.xJ HO_924004.out).2.1); rintro e w18 ⟨v928, rfl, ho0, hz0, hst⟩; refine ⟨_, rfl, ?_⟩; have n0_ := xA.mk (Kd.V_below HO_924000.out hst.1); have n1_ := xA.mk (Kd.xX HO_924003.out hst.1); have n2_ := xA.mk (Kd.xX HO_924004.out hst.1); have HO929 := xA.mk (Kd.R_lower ho0 (xD HB.out)); have n5_ := xA.mk (xO (g := gb923) (o := .cells #[.slice Ao6 t911.length co6, .int .i64 t914, .int .i64 t915, .slice Ao8 t916.length co8, .slice Ao9 t919.length co9] 58 (0, 0)) BK923.out hst.1); have n6_ := xA.mk (xF HB.out hst.1); have HZ := xA.mk hz0; clear HO_924000 HO_924003 HO_924004 HO926 BK923 HB HCY; have HO_924000 := n0_; have HO_924003 := n1_; have HO_924004 := n2_; have BK923 := n5_; have HB := n6_; clear n0_ n1_ n2_ n5_ n6_ ho0 hz0 hst; obtain ⟨Ao19, co19, eo19⟩ := Kd.R_slice HO929.out; subst eo19; have he_ := Kd.R_neq (P := Try.prog) (t := 26) (e' := 3) Try.underlying26 HO929.out HZ.out c13b1))
        go_roundg k2
        case measure => have := HK1.out; have := HK2.out; omega
        case rel => exact ⟨(wrap64 (x22_2 + 1)), qf, H', ⟨by have := HK1.out; have := HK2.out; omega⟩, ⟨qj HO_924000.out⟩, ⟨qh HO_924003.out⟩, ⟨qh HO_924004.out⟩, ⟨qn BK923.out⟩, ⟨qo GE923.out⟩⟩
       ·
        rw [if_neg c13] at H
        have c13b0 : ((t927.length : Int) == 0) = false := jg c13
        have c13b1 : ((t927.length : Int) != 0) = true := bne_iff_ne.mpr c13
        have c13b2 : ¬ (t927 = []) := fun h_ => c13 (by rw [h_]; rfl)
        simp only [Option.some.injEq, Prod.mk.injEq] at H
        obtain ⟨rfl, rfl⟩ := H
        have hcz20_0 : wr.cell? ⟨gb923, 0, none⟩ = some (.slice Ao6 t911.length co6) := (xB BK923.out 0).trans rfl
        have hcz20_1 : wr.cell? ⟨gb923, 1, none⟩ = some (.int .i64 t914) := (xB BK923.out 1).trans rfl
        have hcz20_2 : wr.cell? ⟨gb923, 2, none⟩ = some (.int .i64 t915) := (xB BK923.out 2).trans rfl
        have hcz20_3 : wr.cell? ⟨gb923, 3, none⟩ = some (.slice Ao8 t916.length co8) := (xB BK923.out 3).trans rfl
        have hcz20_4 : wr.cell? ⟨gb923, 4, none⟩ = some (.slice Ao9 t919.length co9) := (xB BK923.out 4).trans rfl
        have hfz20_0 := xC BK923.out 0
        have hfz20_1 := xC BK923.out 1
        have hfz20_2 := xC BK923.out 2
        have hfz20_3 := xC BK923.out 3
        have hfz20_4 := xC BK923.out 4
        go_wp2_with (first | ((with_reducible refine xW (N := 27) rfl ?_); refine Kd.R_lit (Kd.int .i64) _ 3 ?hg (N := 27) ?hd (xs := ([x22_2] : List Int)) (inner := [.int .i64 x22_2]) (ok := fun _ => True) (okp := fun _ => True) ?hr ?hp (fun _ hk => hk) trivial (Below.refl _ _) (Nat.le_refl _) (by simp) ?_; (case hd => rfl); (case hg => rfl); (case hr => first | (go_simp; done) | (go_simp; rfl)); (case hp => exact (Reps.one (show Kd.M (Kd.int .i64) _ _ _ x22_2 [.int .i64 x22_2] from rfl) (Reps.none _ _))); intro v925 w21 ho22 hb hg_ hnew_; clear hg_ hnew_; (first | rw [← Ny924.out] at ho22 | (simp only [Int.reduceToNat] at ho22; rw [← Ny924.out] at ho22)); have HCY := xA.mk (Kd.Still.start hb ho22); have HCYa := xA.mk HCY.out.1; have HCYb := xA.mk HCY.out.2.2; have HO926 := xA.mk ho22; clear hb ho22; obtain ⟨Ao23, co23, eo23⟩ := Kd.R_slice HO926.out; subst eo23) | ((with_reducible refine xK (f := 75) rfl ?_); refine xS (some 29) rfl rfl Try.func75 jk rfl #[.agg #[.slice Ao6 t911.length co6, .int .i64 t914, .int .i64 t915, .slice Ao8 t916.length co8, .slice Ao9 t919.length co9], .slice Ao23 y924.length co23, .int .i64 x6_1] rfl qc ?_; (with_reducible refine (llcycle.calls k2 _ _ t911 t914 t915 _ _ t916 _ _ t919 _ _ y924 x6_1 t927 wr _ HCYa.out ?side1 ?side2 ?side3 ?side4 ?side5 ?side6 HCYb.out A12.out).mono ?_); (case side1 => exact qm (Kd.yB HO_924000.out).2.2); (case side2 => exact (Kd.yB HO_924000.out).2.1); (case side3 => exact qm (Kd.xJ HO_924003.out).2.2); (case side4 => exact (Kd.xJ HO_924003.out).2.1); (case side5 => exact qm (Kd.xJ HO_924004.out).2.2); (case side6 => exact (Kd.xJ HO_924004.out).2.1); rintro e w24 ⟨v928, rfl, ho0, hz0, hst⟩; refine ⟨_, rfl, ?_⟩; have n0_ := xA.mk (Kd.V_below HO_924000.out hst.1); have n1_ := xA.mk (Kd.xX HO_924003.out hst.1); have n2_ := xA.mk (Kd.xX HO_924004.out hst.1); have HO929 := xA.mk (Kd.R_lower ho0 (xD HB.out)); have n5_ := xA.mk (xO (g := gb923) (o := .cells #[.slice Ao6 t911.length co6, .int .i64 t914, .int .i64 t915, .slice Ao8 t916.length co8, .slice Ao9 t919.length co9] 58 (0, 0)) BK923.out hst.1); have n6_ := xA.mk (xF HB.out hst.1); have HZ := xA.mk hz0; clear HO_924000 HO_924003 HO_924004 HO926 BK923 HB HCY; have HO_924000 := n0_; have HO_924003 := n1_; have HO_924004 := n2_; have BK923 := n5_; have HB := n6_; clear n0_ n1_ n2_ n5_ n6_ ho0 hz0 hst; obtain ⟨Ao25, co25, eo25⟩ := Kd.R_slice HO929.out; subst eo25; have he_ := Kd.R_neq (P := Try.prog) (t := 26) (e' := 3) Try.underlying26 HO929.out HZ.out c13b1))
        go_ret2
        exact ⟨_, qg, by (with_reducible repeat (first | apply Kd.R_alloc | apply Kd.R_drewN | apply Kd.R_drew)); exact Kd.xZ HO929.out (fun _ hk => trivial), qo GE923.out⟩
      ·
       rw [if_neg c11] at H
       have c11b0 : decide (x22_2 < (t916.length : Int)) = false := qv c11
       clear c11
       have H' := xA.mk H
       clear H
       go_wp2
       go_roundg k2
       case measure => have := HK1.out; have := HK2.out; omega
       case rel => exact ⟨(wrap64 (x6_1 + 1)), qf, H', ⟨by have := HK1.out; have := HK2.out; omega⟩, ⟨qj HO_924000.out⟩, ⟨qh HO_924003.out⟩, ⟨qh HO_924004.out⟩, ⟨qn BK923.out⟩, ⟨qo GE923.out⟩⟩
 ·
  rw [if_neg c3] at H
  have c3b0 : (t922 == 0) = false := jg c3
  have c3b1 : (t922 != 0) = true := bne_iff_ne.mpr c3
  simp only [Option.some.injEq, Prod.mk.injEq] at H
  obtain ⟨rfl, rfl⟩ := H
  go_enter Try.func33, Try.ntmps33
  go_wp2_with (first | ((with_reducible refine xK (f := 45) rfl ?_); refine xS (some 11) rfl rfl Try.func45 jk rfl #[.slice A0 l0.length c0] rfl qc ?_; (with_reducible refine (line_looked.calls k (fun k_ => k_ < w.heap.size) _ _ l0 t911 t914 t915 t916 t919 t922 _ ?side1 A2.out).mono ?_); (case side1 => exact Kd.V_mk HC0.out (Kd.F_below (Kd.C_F (Kd.heap_slice 3 (Kd.heap_int .i64)) HR0.out) qa)); rintro e w26 ⟨v912, v917, v920, rfl, ho0, ho1, ho2, hb⟩; refine ⟨_, rfl, ?_⟩; have HO913 := xA.mk (Kd.V_lower (Kd.V_mono (ok' := fun k_ => some k_ ≠ (v917 : Value).ownBlock ∧ some k_ ≠ (v920 : Value).ownBlock) ho0 (fun k_ hk_ => ⟨hk_.2.1, hk_.2.2⟩)) (xD qa)); have HO918 := xA.mk (Kd.S_lower (Kd.xQ (ok' := fun k_ => some k_ ≠ (v920 : Value).ownBlock) ho1 (fun _ hk_ => hk_.2)) (xD qa)); have HO921 := xA.mk (Kd.S_lower (Kd.xQ (ok' := fun k_ => some k_ ≠ (v917 : Value).ownBlock) ho2 (fun _ hk_ => hk_.2)) (xD qa)); replace HB := xA.mk (xF qa hb); (try clear hb); (try clear hb2); (try clear hk); (try clear hi); (try clear ho0); (try clear ho1); (try clear ho2)) | ((with_reducible refine xW (N := 4) rfl ?_); refine yF ?hg (N := 4) ?hd (cs := #[.slice none 0 0, .int .i64 0, .int .i64 0, .slice none 0 0, .slice none 0 0]) (t := 58) ?hr ?_; (case hd => rfl); (case hg => rfl); (case hr => first | (go_simp; done) | (go_simp; rfl)); intro gb923 hg w27 hbox hb; have n0_ := xA.mk (Kd.V_below (Kd.V_elderB (qj HO913.out) gb923 (Nat.le_of_eq hg.symm)) hb); have n1_ := xA.mk (Kd.xX (qh HO918.out) hb); have n2_ := xA.mk (Kd.xX (qh HO921.out) hb); have n3_ := xA.mk (xF qa hb); have n4_ := xA.mk (hbox); have n5_ := xA.mk ((by rw [hg]; exact (xD qa) : w.heap.size ≤ gb923)); have n6_ := xA.mk ((by rw [hg]; exact (xD qa) : w.heap.size ≤ gb923)); clear HO913; clear HO918; clear HO921; clear HB; have HO913 := n0_; have HO918 := n1_; have HO921 := n2_; have HB := n3_; have BK923 := n4_; have GW923 := n5_; have GE923 := n6_; clear n0_ n1_ n2_ n3_ n4_ n5_ n6_; clear hb hbox hg; obtain ⟨Ao28, co28, eo28⟩ := Kd.V_slice HO913.out; subst eo28; have hcz29_0 : w27.cell? ⟨gb923, 0, none⟩ = some (.slice none 0 0) := (xB BK923.out 0).trans rfl; have hcz29_1 : w27.cell? ⟨gb923, 1, none⟩ = some (.int .i64 0) := (xB BK923.out 1).trans rfl; have hcz29_2 : w27.cell? ⟨gb923, 2, none⟩ = some (.int .i64 0) := (xB BK923.out 2).trans rfl; have hcz29_3 : w27.cell? ⟨gb923, 3, none⟩ = some (.slice none 0 0) := (xB BK923.out 3).trans rfl; have hcz29_4 : w27.cell? ⟨gb923, 4, none⟩ = some (.slice none 0 0) := (xB BK923.out 4).trans rfl; have hfz29_0 := xC BK923.out 0; have hfz29_1 := xC BK923.out 1; have hfz29_2 := xC BK923.out 2; have hfz29_3 := xC BK923.out 3; have hfz29_4 := xC BK923.out 4; obtain ⟨Ao30, co30, eo30⟩ := Kd.yD HO918.out; subst eo30; obtain ⟨Ao31, co31, eo31⟩ := Kd.yD HO921.out; subst eo31))
  go_ret2
  exact ⟨_, qg, by first | exact Kd.R_nil _ _ _ _ _ | exact Kd.N_nil _ _ _ _ _ | exact Kd.V_nil _ _ _ _ _ | exact Kd.Q_nil _ _ _ _ _ | exact Kd.S_nil _ _ _ _ _, qo GE923.out⟩
mutual
def l5within.l0 : Nat → List (List Int) → Int → Option (Bool)
 | 0, _, _ => none
 | k + 1, x0, x3 => if x3 < (x0.length : Int) then (l5within.l1 k x0 x3 0) else (some true)
def l5within.l1 : Nat → List (List Int) → Int → Int → Option (Bool)
 | 0, _, _, _ => none
 | k + 1, x0, x3, x4 => if 0 ≤ x3 then (if x3 < (x0.length : Int) then (if x4 < ((rd_L1 x0 x3).length : Int) then (if 0 ≤ x4 then (if (rd (rd_L1 x0 x3) x4) = (-1152921504606846976) then (l5within.l1 k x0 x3 (wrap64 (x4 + 1))) else (if (rd (rd_L1 x0 x3) x4) < (-1000) then (some false) else (if (rd (rd_L1 x0 x3) x4) > 1000 then (some false) else (l5within.l1 k x0 x3 (wrap64 (x4 + 1)))))) else (none)) else (l5within.l0 k x0 (wrap64 (x3 + 1)))) else (none)) else (none)
end
def l5within.f (k : Nat) (l0 : List (List Int)) : Option (Bool) := l5within.l0 k l0 0
theorem l5within.calls (k : Nat) (A0 : Option Addr) (c0 : Nat) (l0 : List (List Int)) (r : Bool) (w : World) (hr0 : Kd.C (Kd.slice 3 (Kd.int .i64)) w A0 l0.length l0) (hc0 : l0.length ≤ c0) (h : l5within.f k l0 = some r) :
  Calls Try.prog 43 #[.slice A0 l0.length c0] w fun e w' => e = .returned (.bool r) ∧ Drawn0 w w' := by
 have HR0 := xA.mk hr0
 have HC0 := xA.mk hc0
 clear hr0 hc0
 have H : (l5within.l0 k l0 0) = some r := h
 clear h
 have H' := xA.mk H
 clear H
 go_enter Try.func43, Try.ntmps43
 go_wp2
 go_loopg [3] k (fun kq v3 w' => ∃ (x3_1 : Int), v3 = .int .i64 x3_1 ∧ xA (l5within.l0 kq l0 x3_1 = some r) ∧ xA (kq ≤ k) ∧ Drawn0 w w')
 case atStart => exact ⟨(0), rfl, H', ⟨Nat.le_refl _⟩, qe⟩
 case round =>
  clear H'
  obtain ⟨x3_1, rfl, HA, HK1, ⟨m1, rfl⟩⟩ := hrel
  cases gk with
  | zero => exact absurd HA.out (by simp [l5within.l0])
  | succ k1 =>
   have H := HA.out
   clear HA
   simp only [l5within.l0] at H
   by_cases c2 : x3_1 < (l0.length : Int)
   ·
    rw [if_pos c2] at H
    have c2b0 : decide (x3_1 < (l0.length : Int)) = true := qu c2
    clear c2
    have H' := xA.mk H
    clear H
    go_wp2
    go_loopg [4] k1 (fun kq v4 w' => ∃ (x4_2 : Int), v4 = .int .i64 x4_2 ∧ xA (l5within.l1 kq l0 x3_1 x4_2 = some r) ∧ xA (kq ≤ k1) ∧ Drawn0 w w')
    case atStart => exact ⟨(0), rfl, H', ⟨Nat.le_refl _⟩, qe⟩
    case round =>
     clear H'
     obtain ⟨x4_2, rfl, HA, HK2, ⟨m2, rfl⟩⟩ := hrel
     cases gk with
     | zero => exact absurd HA.out (by simp [l5within.l1])
     | succ k2 =>
      have H := HA.out
      clear HA
      simp only [l5within.l1] at H
      by_cases c3 : 0 ≤ x3_1
      ·
       rw [if_pos c3] at H
       have c3b0 : decide (0 ≤ x3_1) = true := qu c3
       clear c3
       by_cases c4 : x3_1 < (l0.length : Int)
       ·
        rw [if_pos c4] at H
        have c4b0 : decide (x3_1 < (l0.length : Int)) = true := qu c4
        clear c4
        by_cases c5 : x4_2 < ((rd_L1 l0 x3_1).length : Int)
        ·
         rw [if_pos c5] at H
         have c5b0 : decide (x4_2 < ((rd_L1 l0 x3_1).length : Int)) = true := qu c5
         clear c5
         by_cases c6 : 0 ≤ x4_2
         ·
          rw [if_pos c6] at H
          have c6b0 : decide (0 ≤ x4_2) = true := qu c6
          clear c6
          by_cases c7 : (rd (rd_L1 l0 x3_1) x4_2) = (-1152921504606846976)
          ·
           rw [if_pos c7] at H
           have c7b0 : ((rd (rd_L1 l0 x3_1) x4_2) == (-1152921504606846976)) = true := beq_iff_eq.mpr c7
           have c7b1 : ((rd (rd_L1 l0 x3_1) x4_2) != (-1152921504606846976)) = false := bne_eq_false_iff_eq.mpr c7
           clear c7
           have H' := xA.mk H
           clear H
           have p1093 : 0 ≤ (x3_1 : Int) := qr
           have q1093 : x3_1 < (l0.length : Int) := qr
           obtain ⟨ad1093, A1093_0, c1093_0, e1093, hx1093_0, hl1093_0, hi1093_0⟩ := at_L1 HR0.out x3_1 p1093 q1093
           cases e1093
           have HR1093_0 := xA.mk hi1093_0
           have HC1093_0 := xA.mk hl1093_0
           clear hi1093_0 hl1093_0
           replace p1093 := eq_true p1093
           replace q1093 := eq_true q1093
           have p1094 : 0 ≤ (x3_1 : Int) := qq
           have q1094 : x3_1 < (l0.length : Int) := qq
           obtain ⟨ad1094, A1094_0, c1094_0, e1094, hx1094_0, hl1094_0, hi1094_0⟩ := at_L1 HR0.out x3_1 p1094 q1094
           obtain rfl : ad1093 = ad1094 := (by injection e1094)
           have HR1094_0 := xA.mk hi1094_0
           have HC1094_0 := xA.mk hl1094_0
           clear hi1094_0 hl1094_0
           replace p1094 := eq_true p1094
           replace q1094 := eq_true q1094
           have ea_ := qx (hx1093_0.symm.trans hx1094_0)
           injection ea_ with ea_ en_ ec_
           subst ea_
           subst ec_
           clear en_
           have p1095 : 0 ≤ (x4_2 : Int) := qq
           have q1095 : x4_2 < ((rd_L1 l0 x3_1).length : Int) := qq
           obtain ⟨ad1095, e1095, hx1095_0⟩ := Kd.xU HR1094_0.out x4_2 p1095 q1095
           cases e1095
           replace p1095 := eq_true p1095
           replace q1095 := eq_true q1095
           go_wp2
           go_roundg k2
           case measure => have := HK1.out; have := HK2.out; omega
           case rel => exact ⟨(wrap64 (x4_2 + 1)), rfl, H', ⟨by have := HK1.out; have := HK2.out; omega⟩, qe⟩
          ·
           rw [if_neg c7] at H
           have c7b0 : ((rd (rd_L1 l0 x3_1) x4_2) == (-1152921504606846976)) = false := jg c7
           by_cases c8 : (rd (rd_L1 l0 x3_1) x4_2) < (-1000)
           ·
            rw [if_pos c8] at H
            have c8b0 : decide ((rd (rd_L1 l0 x3_1) x4_2) < (-1000)) = true := qu c8
            clear c8
            obtain rfl := qx H
            have p1093 : 0 ≤ (x3_1 : Int) := qq
            have q1093 : x3_1 < (l0.length : Int) := qq
            obtain ⟨ad1093, A1093_0, c1093_0, e1093, hx1093_0, hl1093_0, hi1093_0⟩ := at_L1 HR0.out x3_1 p1093 q1093
            cases e1093
            have HR1093_0 := xA.mk hi1093_0
            have HC1093_0 := xA.mk hl1093_0
            clear hi1093_0 hl1093_0
            replace p1093 := eq_true p1093
            replace q1093 := eq_true q1093
            have p1094 : 0 ≤ (x3_1 : Int) := qq
            have q1094 : x3_1 < (l0.length : Int) := qq
            obtain ⟨ad1094, A1094_0, c1094_0, e1094, hx1094_0, hl1094_0, hi1094_0⟩ := at_L1 HR0.out x3_1 p1094 q1094
            obtain rfl : ad1093 = ad1094 := (by injection e1094)
            have HR1094_0 := xA.mk hi1094_0
            have HC1094_0 := xA.mk hl1094_0
            clear hi1094_0 hl1094_0
            replace p1094 := eq_true p1094
            replace q1094 := eq_true q1094
            have ea_ := qx (hx1093_0.symm.trans hx1094_0)
            injection ea_ with ea_ en_ ec_
            subst ea_
            subst ec_
            clear en_
            have p1095 : 0 ≤ (x4_2 : Int) := qq
            have q1095 : x4_2 < ((rd_L1 l0 x3_1).length : Int) := qq
            obtain ⟨ad1095, e1095, hx1095_0⟩ := Kd.xU HR1094_0.out x4_2 p1095 q1095
            cases e1095
            replace p1095 := eq_true p1095
            replace q1095 := eq_true q1095
            have p1096 : 0 ≤ (x3_1 : Int) := qq
            have q1096 : x3_1 < (l0.length : Int) := qq
            obtain ⟨ad1096, A1096_0, c1096_0, e1096, hx1096_0, hl1096_0, hi1096_0⟩ := at_L1 HR0.out x3_1 p1096 q1096
            obtain rfl : ad1093 = ad1096 := (by injection e1096)
            have HR1096_0 := xA.mk hi1096_0
            have HC1096_0 := xA.mk hl1096_0
            clear hi1096_0 hl1096_0
            replace p1096 := eq_true p1096
            replace q1096 := eq_true q1096
            have ea_ := qx (hx1093_0.symm.trans hx1096_0)
            injection ea_ with ea_ en_ ec_
            subst ea_
            subst ec_
            clear en_
            have p1097 : 0 ≤ (x4_2 : Int) := qq
            have q1097 : x4_2 < ((rd_L1 l0 x3_1).length : Int) := qq
            obtain ⟨ad1097, e1097, hx1097_0⟩ := Kd.xU HR1096_0.out x4_2 p1097 q1097
            cases e1097
            replace p1097 := eq_true p1097
            replace q1097 := eq_true q1097
            go_wp2
            go_ret
            exact ⟨qf, qe⟩
           ·
            rw [if_neg c8] at H
            have c8b0 : decide ((rd (rd_L1 l0 x3_1) x4_2) < (-1000)) = false := qv c8
            clear c8
            by_cases c9 : (rd (rd_L1 l0 x3_1) x4_2) > 1000
            ·
             rw [if_pos c9] at H
             have c9b0 : decide (1000 < (rd (rd_L1 l0 x3_1) x4_2)) = true := qu c9
             clear c9
             obtain rfl := qx H
             have p1093 : 0 ≤ (x3_1 : Int) := qq
             have q1093 : x3_1 < (l0.length : Int) := qq
             obtain ⟨ad1093, A1093_0, c1093_0, e1093, hx1093_0, hl1093_0, hi1093_0⟩ := at_L1 HR0.out x3_1 p1093 q1093
             cases e1093
             have HR1093_0 := xA.mk hi1093_0
             have HC1093_0 := xA.mk hl1093_0
             clear hi1093_0 hl1093_0
             replace p1093 := eq_true p1093
             replace q1093 := eq_true q1093
             have p1094 : 0 ≤ (x3_1 : Int) := qq
             have q1094 : x3_1 < (l0.length : Int) := qq
             obtain ⟨ad1094, A1094_0, c1094_0, e1094, hx1094_0, hl1094_0, hi1094_0⟩ := at_L1 HR0.out x3_1 p1094 q1094
             obtain rfl : ad1093 = ad1094 := (by injection e1094)
             have HR1094_0 := xA.mk hi1094_0
             have HC1094_0 := xA.mk hl1094_0
             clear hi1094_0 hl1094_0
             replace p1094 := eq_true p1094
             replace q1094 := eq_true q1094
             have ea_ := qx (hx1093_0.symm.trans hx1094_0)
             injection ea_ with ea_ en_ ec_
             subst ea_
             subst ec_
             clear en_
             have p1095 : 0 ≤ (x4_2 : Int) := qq
             have q1095 : x4_2 < ((rd_L1 l0 x3_1).length : Int) := qq
             obtain ⟨ad1095, e1095, hx1095_0⟩ := Kd.xU HR1094_0.out x4_2 p1095 q1095
             cases e1095
             replace p1095 := eq_true p1095
             replace q1095 := eq_true q1095
             have p1096 : 0 ≤ (x3_1 : Int) := qq
             have q1096 : x3_1 < (l0.length : Int) := qq
             obtain ⟨ad1096, A1096_0, c1096_0, e1096, hx1096_0, hl1096_0, hi1096_0⟩ := at_L1 HR0.out x3_1 p1096 q1096
             obtain rfl : ad1093 = ad1096 := (by injection e1096)
             have HR1096_0 := xA.mk hi1096_0
             have HC1096_0 := xA.mk hl1096_0
             clear hi1096_0 hl1096_0
             replace p1096 := eq_true p1096
             replace q1096 := eq_true q1096
             have ea_ := qx (hx1093_0.symm.trans hx1096_0)
             injection ea_ with ea_ en_ ec_
             subst ea_
             subst ec_
             clear en_
             have p1097 : 0 ≤ (x4_2 : Int) := qq
             have q1097 : x4_2 < ((rd_L1 l0 x3_1).length : Int) := qq
             obtain ⟨ad1097, e1097, hx1097_0⟩ := Kd.xU HR1096_0.out x4_2 p1097 q1097
             cases e1097
             replace p1097 := eq_true p1097
             replace q1097 := eq_true q1097
             have p1098 : 0 ≤ (x3_1 : Int) := qq
             have q1098 : x3_1 < (l0.length : Int) := qq
             obtain ⟨ad1098, A1098_0, c1098_0, e1098, hx1098_0, hl1098_0, hi1098_0⟩ := at_L1 HR0.out x3_1 p1098 q1098
             obtain rfl : ad1093 = ad1098 := (by injection e1098)
             have HR1098_0 := xA.mk hi1098_0
             have HC1098_0 := xA.mk hl1098_0
             clear hi1098_0 hl1098_0
             replace p1098 := eq_true p1098
             replace q1098 := eq_true q1098
             have ea_ := qx (hx1093_0.symm.trans hx1098_0)
             injection ea_ with ea_ en_ ec_
             subst ea_
             subst ec_
             clear en_
             have p1099 : 0 ≤ (x4_2 : Int) := qq
             have q1099 : x4_2 < ((rd_L1 l0 x3_1).length : Int) := qq
             obtain ⟨ad1099, e1099, hx1099_0⟩ := Kd.xU HR1098_0.out x4_2 p1099 q1099
             cases e1099
             replace p1099 := eq_true p1099
             replace q1099 := eq_true q1099
             go_wp2
             go_ret
             exact ⟨qf, qe⟩
            ·
             rw [if_neg c9] at H
             have c9b0 : decide (1000 < (rd (rd_L1 l0 x3_1) x4_2)) = false := qv c9
             clear c9
             have H' := xA.mk H
             clear H
             have p1093 : 0 ≤ (x3_1 : Int) := qq
             have q1093 : x3_1 < (l0.length : Int) := qq
             obtain ⟨ad1093, A1093_0, c1093_0, e1093, hx1093_0, hl1093_0, hi1093_0⟩ := at_L1 HR0.out x3_1 p1093 q1093
             cases e1093
             have HR1093_0 := xA.mk hi1093_0
             have HC1093_0 := xA.mk hl1093_0
             clear hi1093_0 hl1093_0
             replace p1093 := eq_true p1093
             replace q1093 := eq_true q1093
             have p1094 : 0 ≤ (x3_1 : Int) := qq
             have q1094 : x3_1 < (l0.length : Int) := qq
             obtain ⟨ad1094, A1094_0, c1094_0, e1094, hx1094_0, hl1094_0, hi1094_0⟩ := at_L1 HR0.out x3_1 p1094 q1094
             obtain rfl : ad1093 = ad1094 := (by injection e1094)
             have HR1094_0 := xA.mk hi1094_0
             have HC1094_0 := xA.mk hl1094_0
             clear hi1094_0 hl1094_0
             replace p1094 := eq_true p1094
             replace q1094 := eq_true q1094
             have ea_ := qx (hx1093_0.symm.trans hx1094_0)
             injection ea_ with ea_ en_ ec_
             subst ea_
             subst ec_
             clear en_
             have p1095 : 0 ≤ (x4_2 : Int) := qq
             have q1095 : x4_2 < ((rd_L1 l0 x3_1).length : Int) := qq
             obtain ⟨ad1095, e1095, hx1095_0⟩ := Kd.xU HR1094_0.out x4_2 p1095 q1095
             cases e1095
             replace p1095 := eq_true p1095
             replace q1095 := eq_true q1095
             have p1096 : 0 ≤ (x3_1 : Int) := qq
             have q1096 : x3_1 < (l0.length : Int) := qq
             obtain ⟨ad1096, A1096_0, c1096_0, e1096, hx1096_0, hl1096_0, hi1096_0⟩ := at_L1 HR0.out x3_1 p1096 q1096
             obtain rfl : ad1093 = ad1096 := (by injection e1096)
             have HR1096_0 := xA.mk hi1096_0
             have HC1096_0 := xA.mk hl1096_0
             clear hi1096_0 hl1096_0
             replace p1096 := eq_true p1096
             replace q1096 := eq_true q1096
             have ea_ := qx (hx1093_0.symm.trans hx1096_0)
             injection ea_ with ea_ en_ ec_
             subst ea_
             subst ec_
             clear en_
             have p1097 : 0 ≤ (x4_2 : Int) := qq
             have q1097 : x4_2 < ((rd_L1 l0 x3_1).length : Int) := qq
             obtain ⟨ad1097, e1097, hx1097_0⟩ := Kd.xU HR1096_0.out x4_2 p1097 q1097
             cases e1097
             replace p1097 := eq_true p1097
             replace q1097 := eq_true q1097
             have p1098 : 0 ≤ (x3_1 : Int) := qq
             have q1098 : x3_1 < (l0.length : Int) := qq
             obtain ⟨ad1098, A1098_0, c1098_0, e1098, hx1098_0, hl1098_0, hi1098_0⟩ := at_L1 HR0.out x3_1 p1098 q1098
             obtain rfl : ad1093 = ad1098 := (by injection e1098)
             have HR1098_0 := xA.mk hi1098_0
             have HC1098_0 := xA.mk hl1098_0
             clear hi1098_0 hl1098_0
             replace p1098 := eq_true p1098
             replace q1098 := eq_true q1098
             have ea_ := qx (hx1093_0.symm.trans hx1098_0)
             injection ea_ with ea_ en_ ec_
             subst ea_
             subst ec_
             clear en_
             have p1099 : 0 ≤ (x4_2 : Int) := qq
             have q1099 : x4_2 < ((rd_L1 l0 x3_1).length : Int) := qq
             obtain ⟨ad1099, e1099, hx1099_0⟩ := Kd.xU HR1098_0.out x4_2 p1099 q1099
             cases e1099
             replace p1099 := eq_true p1099
             replace q1099 := eq_true q1099
             go_wp2
             go_roundg k2
             case measure => have := HK1.out; have := HK2.out; omega
             case rel => exact ⟨(wrap64 (x4_2 + 1)), rfl, H', ⟨by have := HK1.out; have := HK2.out; omega⟩, qe⟩
         ·
          rw [if_neg c6] at H
          exact absurd H (by simp)
        ·
         rw [if_neg c5] at H
         have c5b0 : decide (x4_2 < ((rd_L1 l0 x3_1).length : Int)) = false := qv c5
         clear c5
         have H' := xA.mk H
         clear H
         have p1093 : 0 ≤ (x3_1 : Int) := qq
         have q1093 : x3_1 < (l0.length : Int) := qq
         obtain ⟨ad1093, A1093_0, c1093_0, e1093, hx1093_0, hl1093_0, hi1093_0⟩ := at_L1 HR0.out x3_1 p1093 q1093
         cases e1093
         have HR1093_0 := xA.mk hi1093_0
         have HC1093_0 := xA.mk hl1093_0
         clear hi1093_0 hl1093_0
         replace p1093 := eq_true p1093
         replace q1093 := eq_true q1093
         go_wp2
         go_roundg k2
         case measure => have := HK1.out; have := HK2.out; omega
         case rel => exact ⟨(wrap64 (x3_1 + 1)), rfl, H', ⟨by have := HK1.out; have := HK2.out; omega⟩, qe⟩
       ·
        rw [if_neg c4] at H
        exact absurd H (by simp)
      ·
       rw [if_neg c3] at H
       exact absurd H (by simp)
   ·
    rw [if_neg c2] at H
    have c2b0 : decide (x3_1 < (l0.length : Int)) = false := qv c2
    clear c2
    obtain rfl := qx H
    go_wp2
    go_ret
    exact ⟨qf, qe⟩
end Go.Proofs.Ythjmfbmffchicaa.V
