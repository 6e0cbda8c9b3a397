/- Walks of the shop's functions, twenty-sixth text: the search's round. -/
import Derived.Test.YtipkhaicjjeieaaKLShY7
import Derived.Test.YtipkhaicjjeieaaKLShY8
import Derived.Test.YtipkhaicjjeieaaKLShY10
import Derived.Test.YtipkhaicjjeieaaKLShYV
namespace Go.Proofs.Ytipkhaicjjeieaa.V
set_option linter.unusedSimpArgs false
set_option linter.unusedVariables false
open Go.RowKit Go.Proofs.YtipkhaicjjeieaaW.PrintWords Go.Proofs.YtipkhaicjjeieaaW.PrintLast Go.Proofs.YtipkhaicjjeieaaW.PrintMore
def gp6T : Bool × List (List Nat × List Nat) := (true, [([], []), ([0], [0]), ([1], [1]), ([2], [2]), ([], []), ([3, 4], [3, 4]), ([5], [5]), ([], []), ([7], [7]), ([8], [8]), ([9], [9]), ([10], [10]), ([11], [11]), ([12], [12]), ([], []), ([13, 14], [13, 14]), ([15], [15]), ([16], [16]), ([6, 17], [6, 17])])
def gp6B : List Nat := [0, 1, 3, 7, 0, 31, 63, 0, 128, 384, 896, 1920, 3968, 8064, 0, 32640, 65408, 130944, 262143]
theorem gp6tab : rtab .any (opsOf Try.f53 6) = gp6T := by kernel_rfl
theorem gp6bits : waitsOk gp6T.2 gp6B = true := by kernel_rfl
set_option maxHeartbeats 4000000 in
set_option maxRecDepth 100000 in
theorem go_step (w0 : World) (gs gn gj gt g : Nat) (J : List (List S40)) (n : Nat) (hs : IsShop w0 g J) (hf : Fit J) (hn : n = (tasksN J J.length).length) (left : Nat) (IH : GoOK w0 gs gn gj gt g J n left) : GoOK w0 gs gn gj gt g J n (left + 1) := by
  intro en S W hl hS hI
  have hnj4 : J.length ≤ 4 := hf.jl
  have hn10 : n ≤ 10 := by rw [hn]; exact hf.nl
  obtain ⟨A0, c0, At, ct, Af, cf, hb, hJ, hJc, hT, hTc, hF, hFc⟩ := id hs
  rw [firstsN_len] at hb hF hFc
  rw [← hn] at hb hT hTc
  unfold GoOK at IH
  have HN := Aside0.mk hn
  have HFIT := Aside0.mk hf
  have HI := Aside0.mk hI
  have HIH := Aside0.mk IH
  have SB := Aside0.mk hb
  have SJ := Aside0.mk (And.intro hJ hJc)
  have ST := Aside0.mk (And.intro hT hTc)
  have SF := Aside0.mk (And.intro hF hFc)
  have HS := Aside0.mk hS
  have HSL := Aside0.mk hS.lens.2.2.2
  have hcs := hS.cells
  have p1 := (blk_cell (blk_below hb hS.below) 0).trans rfl
  clear hs hf hn IH hI hS hb hJ hJc hT hTc hF hFc
  rw [show ((left + 1 : Nat) : Int) = (left : Int) + 1 by omega]
  have d0 : ((left : Int) + 1 == 0) = false := beq_eq_false_iff_ne.2 (by omega)
  obtain ⟨hc0, _, _, _, _⟩ := hcs
  have HK := Aside0.mk (Kept.refl W (fun k => k = gs ∨ k = gn ∨ k = gj ∨ k = gt))
  go_enter Try.func53, Try.ntmps53
  go_wp2
  clear hc0 p1
  refine wp_loop (fun a w' => ∃ j : Nat, j ≤ J.length ∧ (∃ v6 v7 v8 v9 v12 v13, Ta a gs left en J.length j v6 v7 v8 v9 v12 v13) ∧ Aside0 (Srch w0 gs gn gj gt g J.length n w' (loopG J (tasksN J J.length) (goF J (tasksN J J.length) left) en S j)) ∧ Aside0 (Kept W w' (fun k => k = gs ∨ k = gn ∨ k = gj ∨ k = gt))) (fun a _ => J.length - (intOf (a.tmps.getD 69 undef)).toNat) ?_ ?_
  · exact ⟨0, Nat.zero_le _, ⟨_, _, _, _, _, _, ⟨rfl, rfl, rfl, rfl, rfl, rfl, rfl, rfl, rfl, rfl, rfl, rfl, rfl⟩⟩, HS, HK⟩
  clear HS HK
  rintro a wr ⟨j, hj, ⟨v6, v7, v8, v9, v12, v13, TA⟩, HS, HK⟩
  obtain ⟨sz, df, e0, e1, e2, e68, e69, e6, e7, e8, e9, e12, e13⟩ := TA
  have hmu : (intOf (a.tmps.getD 69 undef)).toNat = j := by
    have : a.tmps.getD 69 undef = .int .i64 (j : Int) := by simp [sz, e69]
    rw [this]
    simp [intOf]
  rw [hmu]
  clear hmu
  by_cases hlt : j < J.length
  · obtain ⟨Q, eQ⟩ : ∃ Q, Q = loopG J (tasksN J J.length) (goF J (tasksN J J.length) left) en S j := ⟨_, rfl⟩
    rw [← eQ] at HS
    have EQ := Aside0.mk eQ
    have hlj : j < J.length := hlt
    obtain ⟨k, hk, hkl⟩ : ∃ k : Nat, Q.nx.getD j 0 = (k : Int) ∧ k ≤ (J.getD j []).length := by
      rw [eQ, (loopG_same J (tasksN J J.length) left en S j).1]
      exact HI.out.1 j hlj
    obtain ⟨ad0, r, Aj, cj, eA0, er, hr1, hr2, hr3⟩ := at_NL2 SJ.out.1 j hlt
    cases eA0
    obtain ⟨m, em⟩ : ∃ m, m = r.length := ⟨_, rfl⟩
    rw [← em] at hr1 hr2 hr3
    have hkm : k ≤ m := by rw [em, er]; exact hkl
    have HR := Aside0.mk hr3
    have ER := Aside0.mk er
    have EM := Aside0.mk em
    have R1 := Aside0.mk hr1
    have HKX := Aside0.mk hk
    have hji : (j : Int) < (J.length : Int) := by omega
    have hm4 : m ≤ 4 := by rw [em, er]; exact HFIT.out.rl j
    clear eQ er em hk hkl hr1 hr3
    have D0 : decide ((j : Int) < (J.length : Int)) = true := decide_eq_true hji
    go_wp2
    refine wp_cond (t := true) (by simp [Act.eval, sz]) ?_
    simp only [if_true]
    go_wp2
    refine reabs (fun a => Ta a gs left en J.length j (.int .i64 (j : Int)) v7 v8 v9 v12 v13) ⟨by simp [sz], by simp [df], by simp [sz, e0], by simp [sz, e1], by simp [sz, e2], by simp [sz, e68], by simp [sz, e69], by simp [sz, e69], by simp [sz, e7], by simp [sz, e8], by simp [sz, e9], by simp [sz, e12], by simp [sz, e13]⟩ ?_
    clear sz df e0 e1 e2 e68 e69 e6 e7 e8 e9 e12 e13
    rintro a ⟨sz, df, e0, e1, e2, e68, e69, e6, e7, e8, e9, e12, e13⟩
    have HS1 := Aside0.mk HS.out.drew
    have HK1 := Aside0.mk HK.out.drew
    clear HS HK
    have HS := HS1
    have HK := HK1
    clear HS1 HK1
    have hcs := HS.out.cells
    have q1 := HS.out.nx_ hlt
    have q2 := (blk_cell (blk_below SB.out HS.out.below) 0).trans rfl
    have q3 := pw_cell_below HS.out.below R1.out
    rw [HKX.out] at q1
    refine start_ (n := 19) (S := fun w' => w'.cell? ⟨gs, 0, none⟩ = some (.pointer (some ⟨g, 0, none⟩)) ∧ w'.cell? ⟨gs, 1, none⟩ = some (.slice (some ⟨gn, 0, none⟩) J.length J.length) ∧ w'.cell? ⟨gn, j, none⟩ = some (.int .i64 (k : Int)) ∧ w'.cell? ⟨g, 0, none⟩ = some (.slice (some ad0) J.length c0) ∧ w'.cell? (ad0.add j) = some (.slice Aj m cj)) (ds := []) #[false, false, false, false, false, false, false, false, false, false, false, false, false, false, false, false, false, false, false] (by kernel_rfl) rfl rfl ⟨hcs.1, hcs.2.1, q1, q2, q3⟩ (fun hHeld => ?_)
    refine with_tabW gp6tab gp6bits (fun HT_ HW_ => ?_)
    generalize wr.drew = w6 at HS HK hHeld ⊢
    refine pure_ (i := 0) (N := some 72) (v := ?_) (a' := ?_) (qd 19 1) rfl rfl (any_of HT_.out (by kernel_rfl)) (fun _ _ _ h => h) (Or.inl ⟨by rfl, ?_⟩) ?_ ?_
    rotate_left
    · intro w'
      go_simp
      with_reducible rfl
    rotate_left
    · simp only [Act.put, qa, qb, qc, i64_w, i32_w]
      rfl
    refine pure_ (i := 1) (N := some 73) (v := ?_) (a' := ?_) (qd 19 3) rfl rfl (any_of HT_.out (by kernel_rfl)) (fun _ _ _ h => h) (Or.inl ⟨by rfl, ?_⟩) ?_ ?_
    rotate_left
    · intro w'
      go_simp
      with_reducible rfl
    rotate_left
    · simp only [Act.put, qa, qb, qc, i64_w, i32_w]
      rfl
    refine pure_ (i := 2) (N := some 74) (v := ?_) (a' := ?_) (qd 19 7) rfl rfl (any_of HT_.out (by kernel_rfl)) (fun _ _ _ h => h) (Or.inl ⟨by rfl, ?_⟩) ?_ ?_
    rotate_left
    · intro w'
      go_simp
      with_reducible rfl
    rotate_left
    · simp only [Act.put, qa, qb, qc, i64_w, i32_w]
      rfl
    refine pure_ (i := 4) (N := some 76) (v := ?_) (a' := ?_) (qd 19 23) rfl rfl (any_of HT_.out (by kernel_rfl)) (fun _ _ _ h => h) (Or.inl ⟨by rfl, ?_⟩) ?_ ?_
    rotate_left
    · intro w'
      go_simp
      with_reducible rfl
    rotate_left
    · simp only [Act.put, qa, qb, qc, i64_w, i32_w]
      rfl
    refine pure_ (i := 7) (N := some 79) (v := ?_) (a' := ?_) (qd 19 151) rfl rfl (any_of HT_.out (by kernel_rfl)) (fun _ _ _ h => h) (Or.inl ⟨by rfl, ?_⟩) ?_ ?_
    rotate_left
    · intro w'
      go_simp
      with_reducible rfl
    rotate_left
    · simp only [Act.put, qa, qb, qc, i64_w, i32_w]
      rfl
    refine pure_ (i := 8) (N := some 80) (v := ?_) (a' := ?_) (qd 19 407) rfl rfl (any_of HT_.out (by kernel_rfl)) (fun _ _ _ h => h) (Or.inl ⟨by rfl, ?_⟩) ?_ ?_
    rotate_left
    · intro w'
      go_simp
      with_reducible rfl
    rotate_left
    · simp only [Act.put, qa, qb, qc, i64_w, i32_w]
      rfl
    refine pure_ (i := 9) (N := some 81) (v := ?_) (a' := ?_) (qd 19 919) rfl rfl (any_of HT_.out (by kernel_rfl)) (fun _ _ _ h => h) (Or.inl ⟨by rfl, ?_⟩) ?_ ?_
    rotate_left
    · intro w'
      go_simp
      with_reducible rfl
    rotate_left
    · simp only [Act.put, qa, qb, qc, i64_w, i32_w]
      rfl
    refine pure_ (i := 14) (N := some 86) (v := ?_) (a' := ?_) (qd 19 17303) rfl rfl (any_of HT_.out (by kernel_rfl)) (fun _ _ _ h => h) (Or.inl ⟨by rfl, ?_⟩) ?_ ?_
    rotate_left
    · intro w'
      go_simp
      with_reducible rfl
    rotate_left
    · simp only [Act.put, qa, qb, qc, i64_w, i32_w]
      rfl
    refine take_ (i := 3) (N := some 75) (v := ?_) (a' := ?_) (qd 19 17311) rfl rfl (take_ofW HT_.out HW_.out (by kernel_rfl)) (fun _ _ _ h => h) (Or.inl ⟨by rfl, ?_⟩) hHeld ?_ ?_
    rotate_left
    · rintro w' ⟨s0, s1, s2, s3, s4⟩
      go_simp
      with_reducible rfl
    rotate_left
    · simp only [Act.put, qa, qb, qc, i64_w, i32_w]
      rfl
    refine pure_ (i := 5) (N := some 77) (v := ?_) (a' := ?_) (qd 19 17343) rfl rfl (any_of HT_.out (by kernel_rfl)) (fun _ _ _ h => h) (Or.inl ⟨by rfl, ?_⟩) ?_ ?_
    rotate_left
    · intro w'
      go_simp
      with_reducible rfl
    rotate_left
    · simp only [Act.put, qa, qb, qc, i64_w, i32_w]
      rfl
    refine take_ (i := 6) (N := some 78) (v := ?_) (a' := ?_) (qd 19 17407) rfl rfl (take_ofW HT_.out HW_.out (by kernel_rfl)) (fun _ _ _ h => h) (Or.inl ⟨by rfl, ?_⟩) hHeld ?_ ?_
    rotate_left
    · rintro w' ⟨s0, s1, s2, s3, s4⟩
      go_simp
      with_reducible rfl
    rotate_left
    · simp only [Act.put, qa, qb, qc, i64_w, i32_w]
      rfl
    refine take_ (i := 10) (N := some 82) (v := ?_) (a' := ?_) (qd 19 18431) rfl rfl (take_ofW HT_.out HW_.out (by kernel_rfl)) (fun _ _ _ h => h) (Or.inl ⟨by rfl, ?_⟩) hHeld ?_ ?_
    rotate_left
    · rintro w' ⟨s0, s1, s2, s3, s4⟩
      go_simp
      with_reducible rfl
    rotate_left
    · simp only [Act.put, qa, qb, qc, i64_w, i32_w]
      rfl
    refine pure_ (i := 11) (N := some 83) (v := ?_) (a' := ?_) (qd 19 20479) rfl rfl (any_of HT_.out (by kernel_rfl)) (fun _ _ _ h => h) (Or.inl ⟨by rfl, ?_⟩) ?_ ?_
    rotate_left
    · intro w'
      go_simp
      with_reducible rfl
    rotate_left
    · simp only [Act.put, qa, qb, qc, i64_w, i32_w]
      rfl
    refine pure_ (i := 12) (N := some 84) (v := ?_) (a' := ?_) (qd 19 24575) rfl rfl (any_of HT_.out (by kernel_rfl)) (fun _ _ _ h => h) (Or.inl ⟨by rfl, ?_⟩) ?_ ?_
    rotate_left
    · intro w'
      go_simp
      with_reducible rfl
    rotate_left
    · simp only [Act.put, qa, qb, qc, i64_w, i32_w]
      rfl
    refine take_ (i := 13) (N := some 85) (v := ?_) (a' := ?_) (qd 19 32767) rfl rfl (take_ofW HT_.out HW_.out (by kernel_rfl)) (fun _ _ _ h => h) (Or.inl ⟨by rfl, ?_⟩) hHeld ?_ ?_
    rotate_left
    · rintro w' ⟨s0, s1, s2, s3, s4⟩
      go_simp
      with_reducible rfl
    rotate_left
    · simp only [Act.put, qa, qb, qc, i64_w, i32_w]
      rfl
    refine pure_ (i := 15) (N := some 87) (v := ?_) (a' := ?_) (qd 19 65535) rfl rfl (any_of HT_.out (by kernel_rfl)) (fun _ _ _ h => h) (Or.inl ⟨by rfl, ?_⟩) ?_ ?_
    rotate_left
    · intro w'
      go_simp
      with_reducible rfl
    rotate_left
    · simp only [Act.put, qa, qb, qc, i64_w, i32_w]
      rfl
    refine take_ (i := 16) (N := some 88) (v := ?_) (a' := ?_) (qd 19 131071) rfl rfl (take_ofW HT_.out HW_.out (by kernel_rfl)) (fun _ _ _ h => h) (Or.inl ⟨by rfl, ?_⟩) hHeld ?_ ?_
    rotate_left
    · rintro w' ⟨s0, s1, s2, s3, s4⟩
      go_simp
      with_reducible rfl
    rotate_left
    · simp only [Act.put, qa, qb, qc, i64_w, i32_w]
      rfl
    refine pure_ (i := 17) (N := some 89) (v := ?_) (a' := ?_) (qd 19 262143) rfl rfl (any_of HT_.out (by kernel_rfl)) (fun _ _ _ h => h) (Or.inl ⟨by rfl, ?_⟩) ?_ ?_
    rotate_left
    · intro w'
      go_simp
      with_reducible rfl
    rotate_left
    · simp only [Act.put, qa, qb, qc, i64_w, i32_w]
      rfl
    refine pure_ (i := 18) (N := some 90) (v := ?_) (a' := ?_) (qd 19 524287) rfl rfl (any_of HT_.out (by kernel_rfl)) (fun _ _ _ h => h) (Or.inl ⟨by rfl, ?_⟩) ?_ ?_
    rotate_left
    · intro w'
      go_simp
      with_reducible rfl
    rotate_left
    · simp only [Act.put, qa, qb, qc, i64_w, i32_w]
      rfl
    refine done_ (done_of HT_.out (by kernel_rfl)) ?_
    clear hHeld hcs q1 q2 q3
    refine reabs2 (F := Exit.then _ _ .normal) (fun a => Ta a gs left en J.length j (.int .i64 (j : Int)) v7 v8 v9 v12 v13 ∧ a.tmps[90]? = some (.bool ((k : Int) == (m : Int)))) ⟨⟨by simp [sz], by simp [df], by simp [sz, e0], by simp [sz, e1], by simp [sz, e2], by simp [sz, e68], by simp [sz, e69], by simp [sz, e6], by simp [sz, e7], by simp [sz, e8], by simp [sz, e9], by simp [sz, e12], by simp [sz, e13]⟩, by simp [sz]⟩ ?_
    clear sz df e0 e1 e2 e68 e69 e6 e7 e8 e9 e12 e13
    rintro a ⟨⟨sz, df, e0, e1, e2, e68, e69, e6, e7, e8, e9, e12, e13⟩, e90⟩
    have E90 := Aside0.mk e90
    clear e90
    by_cases hkm2 : k = m
    · have D1 : ((k : Int) == (m : Int)) = true := beq_iff_eq.2 (by omega)
      go_wp2
      refine wp_cond (t := true) (by rw [ev_of E90.out, D1]) ?_
      simp only [if_true]
      go_wp2
      refine fin_ (Y := fun j => Aside0 (Srch w0 gs gn gj gt g J.length n _ (loopG J (tasksN J J.length) (goF J (tasksN J J.length) left) en S j)) ∧ Aside0 (Kept W _ (fun k => k = gs ∨ k = gn ∨ k = gj ∨ k = gt))) ⟨_, _, _, _, _, _, ⟨by simp [sz], by simp [df], by simp [sz, e0], by simp [sz, e1], by simp [sz, e2], by simp [sz, e68], by simp [sz, e69], rfl, rfl, rfl, rfl, rfl, rfl⟩⟩ (by omega) ⟨?_, HK⟩
      have e : loopG J (tasksN J J.length) (goF J (tasksN J J.length) left) en S (j + 1) = Q := by
        rw [loopG, ← EQ.out, stepG, if_pos (by rw [HKX.out, ← ER.out, ← EM.out, hkm2])]
      rw [e]
      exact HS
    · have D1 : ((k : Int) == (m : Int)) = false := beq_eq_false_iff_ne.2 (by omega)
      go_wp2
      refine wp_cond (t := false) (by rw [ev_of E90.out, D1]) ?_
      simp only [Bool.false_eq_true, if_false]
      go_wp2
      have hkm3 : k < r.length := by have := EM.out; omega
      obtain ⟨p, ep⟩ : ∃ p, p = (tasksN J j).length + k := ⟨_, rfl⟩
      obtain ⟨fi, efi⟩ : ∃ fi, fi = (tasksN J j).length := ⟨_, rfl⟩
      obtain ⟨hp1, hp2⟩ := tasksN_get J J.length j k hlt (by rw [← ER.out]; exact hkm3)
      rw [← ep] at hp1 hp2
      obtain ⟨adt, x, et, hx, t0, t1, t2, t3, t4⟩ := at_N89 ST.out.1 p (by rw [HN.out]; exact hp1)
      cases et
      obtain ⟨adf, ef, hfj⟩ := at_NInt SF.out.1 j hlt
      cases ef
      rw [firstsN_get J J.length j hlt, ← efi] at hfj
      have hbad := HFIT.out.tk p hp1
      rw [← hx] at hbad hp2
      have hxm : 0 ≤ x.f0.f0 ∧ x.f0.f0 ≤ 3 ∧ 1 ≤ x.f0.f1 ∧ x.f0.f1 ≤ 50 := by
        unfold S89.bad badT at hbad
        simp only [Bool.or_eq_false_iff, decide_eq_false_iff_not] at hbad
        omega
      obtain ⟨mc, emc⟩ : ∃ mc : Nat, x.f0.f0 = (mc : Int) := ⟨x.f0.f0.toNat, by omega⟩
      have hmc : mc < 4 := by omega
      have hxp : x.f1 = (p : Int) := by rw [hp2]
      rw [emc] at t0
      rw [hxp] at t2
      have HADD : (fi : Int) + (k : Int) = (p : Int) := by omega
      have hpn' : p < n := Nat.lt_of_lt_of_eq hp1 HN.out.symm
      have hpn : (p : Int) < (n : Int) := Int.ofNat_lt.2 hpn'
      have hn10' : (n : Int) ≤ 9223372036854775807 := Int.le_trans (Int.ofNat_le.2 hn10) (by decide)
      have HADDW : wrap64 (p : Int) = (p : Int) := wr64_in _ ⟨Int.le_trans (by decide) (Int.natCast_nonneg p), Int.le_trans (Int.le_of_lt hpn) hn10'⟩
      clear hn10'
      have HX := Aside0.mk hx
      have HP2 := Aside0.mk hp2
      have HXM := Aside0.mk hxm
      have EMC := Aside0.mk emc
      have HXP := Aside0.mk hxp
      have EFI := Aside0.mk efi
      have EP := Aside0.mk ep
      have HM := Aside0.mk hmc
      clear hx hp1 hp2 hxm emc hxp efi ep hbad
      have hcs := HS.out.cells
      have q1 := HS.out.nx_ hlt
      rw [HKX.out] at q1
      have q2 := (blk_cell (blk_below SB.out HS.out.below) 1).trans rfl
      have q3 := (blk_cell (blk_below SB.out HS.out.below) 2).trans rfl
      have q4 := pw_cell_below HS.out.below hfj
      have r0 := pw_cell_below HS.out.below t0
      have r1 := pw_cell_below HS.out.below t1
      have r2 := pw_cell_below HS.out.below t2
      have r3 := pw_cell_below HS.out.below t3
      have r4 := pw_cell_below HS.out.below t4
      refine go_r7 (fun c a a' w hd h => ⟨hd.trans h.1, h.2⟩) _ w6 gs gn g left J.length j k fi p n cf ct mc en x.f0.f1 x.f2 x.f3 v7 v8 v9 v12 v13 adt adf ⟨by simp [sz], by simp [df], by simp [sz, e0], by simp [sz, e1], by simp [sz, e2], by simp [sz, e68], by simp [sz, e69], by simp [sz, e6], by simp [sz, e7], by simp [sz, e8], by simp [sz, e9], by simp [sz, e12], by simp [sz, e13]⟩ hji hpn HADD HADDW hcs.1 hcs.2.1 q1 q2 q3 q4 r0 r1 r2 r3 r4 ?_
      clear hcs q1 q2 q3 q4 r0 r1 r2 r3 r4 hfj t0 t1 t2 t3 t4
      clear sz df e0 e1 e2 e68 e69 e6 e7 e8 e9 e12 e13
      rintro a wb ⟨sz, df, e0, e1, e2, e68, e69, e6, e7, e8, e9, e12, e13⟩ hbb hbx
      obtain ⟨bx, ebx⟩ : ∃ bx, bx = w6.heap.size := ⟨_, rfl⟩
      rw [← ebx] at e7 hbx
      have hbxs : bx ≠ gs ∧ bx ≠ gn ∧ bx ≠ gj ∧ bx ≠ gt := by
        obtain ⟨vb, b1, _⟩ := HS.out.bs
        have h1 := blk_lt b1
        have h2 := blk_lt HS.out.rn
        have h3 := blk_lt HS.out.rj
        have h4 := blk_lt HS.out.rt
        omega
      have BX := Aside0.mk hbx
      have BXS := Aside0.mk hbxs
      have HSB := Aside0.mk (HS.out.below_ hbb)
      have HKB := Aside0.mk (HK.out.below hbb)
      clear HS HK hbb hbx hbxs ebx
      have HS := HSB
      have HK := HKB
      clear HSB HKB
      go_wp2
      have hcs := HS.out.cells
      have q1 := HS.out.je_ hlt
      have q2 := (blk_cell BX.out 0).trans rfl
      have q3 := HS.out.fre mc HM.out
      obtain ⟨at_, eat⟩ : ∃ at_, at_ = mx (Q.je.getD j 0) (Q.fre.getD mc 0) := ⟨_, rfl⟩
      have EAT := Aside0.mk eat
      have hmc4 : (mc : Int) < 4 := Int.ofNat_lt.2 HM.out
      refine go_r8 (fun c a a' w hd h => ⟨hd.trans h.1, h.2⟩) _ wb gs gj bx left J.length j mc en (Q.je.getD j 0) (Q.fre.getD mc 0) v8 v9 v12 v13 ⟨by simp [sz], by simp [df], by simp [sz, e0], by simp [sz, e1], by simp [sz, e2], by simp [sz, e68], by simp [sz, e69], by simp [sz, e6], by simp [sz, e7], by simp [sz, e8], by simp [sz, e9], by simp [sz, e12], by simp [sz, e13]⟩ hji hmc4 hcs.2.2.1 q1 q2 q3 ?_
      rw [← eat]
      clear hcs q1 q2 q3 eat
      clear sz df e0 e1 e2 e68 e69 e6 e7 e8 e9 e12 e13
      rintro a ⟨sz, df, e0, e1, e2, e68, e69, e6, e7, e8, e9, e12, e13⟩
      have HSB := Aside0.mk HS.out.drew
      have HKB := Aside0.mk HK.out.drew
      have BXB := Aside0.mk (blk_drew BX.out)
      clear HS HK BX
      generalize wb.drew = wc at HSB HKB BXB ⊢
      have HS := HSB
      have HK := HKB
      have BX := BXB
      clear HSB HKB BXB
      go_wp2
      have hcs := HS.out.cells
      have q1 := HS.out.nx_ hlt
      rw [HKX.out] at q1
      have q2 := (blk_cell (blk_below SB.out HS.out.below) 0).trans rfl
      have q3 := pw_cell_below HS.out.below R1.out
      obtain ⟨A2, eA2⟩ : ∃ A2, A2 = if cj = k then Aj else Aj.map (·.add (k * 2)) := ⟨_, rfl⟩
      refine go_r10 (fun c a a' w hd h => ⟨hd.trans h.1, h.2⟩) _ wc gs gn g left J.length j k m c0 cj en (.pointer (some ⟨bx, 0, none⟩)) (.int .i64 at_) (.int .i64 at_) v12 v13 ad0 Aj A2 ⟨by simp [sz], by simp [df], by simp [sz, e0], by simp [sz, e1], by simp [sz, e2], by simp [sz, e68], by simp [sz, e69], by simp [sz, e6], by simp [sz, e7], by simp [sz, e8], by simp [sz, e8], by simp [sz, e12], by simp [sz, e13]⟩ hji (Int.ofNat_le.2 hkm) (Int.ofNat_le.2 hr2) eA2 hcs.1 hcs.2.1 q1 q2 q3 ?_
      clear hcs q1 q2 q3
      clear sz df e0 e1 e2 e68 e69 e6 e7 e8 e9 e12 e13
      rintro a ⟨sz, df, e0, e1, e2, e68, e69, e6, e7, e8, e9, e12, e13⟩ e152 e153 e154
      have HSB := Aside0.mk HS.out.drew
      have HKB := Aside0.mk HK.out.drew
      have BXB := Aside0.mk (blk_drew BX.out)
      clear HS HK BX
      generalize wc.drew = wd at HSB HKB BXB ⊢
      have HS := HSB
      have HK := HKB
      have BX := BXB
      clear HSB HKB BXB
      have hrow : k40.C w0 A2 (m - k) (r.drop k) := by
        have h := HR.out
        rw [EM.out] at h
        have h2 := Kd.C_drop h (m := k) (c := cj) (by rw [← EM.out]; exact hkm) (by rw [← EM.out]; exact hr2)
        rw [List.length_drop, ← EM.out] at h2
        rw [eA2]
        exact h2
      have ROW := Aside0.mk hrow
      clear hrow eA2
      go_wp2
      refine wp_loop (fun a w' => ∃ i : Nat, i ≤ m - k ∧ Ta a gs left en J.length j (.int .i64 (j : Int)) (.pointer (some ⟨bx, 0, none⟩)) (.int .i64 at_) (.int .i64 (restF (r.drop k) at_ i)) v12 v13 ∧ a.tmps[152]? = some (.slice A2 (m - k) (cj - k)) ∧ a.tmps[153]? = some (.int .i64 ((m - k : Nat) : Int)) ∧ a.tmps[154]? = some (.int .i64 (i : Int)) ∧ Aside0 (Srch w0 gs gn gj gt g J.length n w' Q) ∧ Aside0 (Kept W w' (fun k => k = gs ∨ k = gn ∨ k = gj ∨ k = gt)) ∧ Aside0 (w'.heap[bx]? = some (.cells #[.int .i64 (mc : Int), .int .i64 x.f0.f1, .int .i64 (p : Int), .int .i64 x.f2, .int .i64 x.f3] 89 (0, 0)))) (fun a _ => (m - k) - (intOf (a.tmps.getD 154 undef)).toNat) ?_ ?_
      · exact ⟨0, Nat.zero_le _, ⟨sz, df, e0, e1, e2, e68, e69, e6, e7, e8, e9, e12, e13⟩, e152, e153, e154, HS, HK, BX⟩
      clear HS HK BX e152 e153 e154
      clear sz df e0 e1 e2 e68 e69 e6 e7 e8 e9 e12 e13
      rintro a we ⟨i, hi, ⟨sz, df, e0, e1, e2, e68, e69, e6, e7, e8, e9, e12, e13⟩, e152, e153, e154, HS, HK, BX⟩
      have hmu : (intOf (a.tmps.getD 154 undef)).toNat = i := by
        rw [Array.getD_eq_getD_getElem?, e154]
        simp [intOf]
      rw [hmu]
      clear hmu
      obtain ⟨mk, emk⟩ : ∃ mk, mk = m - k := ⟨_, rfl⟩
      rw [← emk] at hi e152 e153 ⊢
      have EMK := Aside0.mk emk
      have g152 : a.tmps[152]'(by omega) = .slice A2 mk (cj - k) := (Array.getElem?_eq_some_iff.1 e152).2
      have g153 : a.tmps[153]'(by omega) = .int .i64 (mk : Int) := (Array.getElem?_eq_some_iff.1 e153).2
      have g154 : a.tmps[154]'(by omega) = .int .i64 (i : Int) := (Array.getElem?_eq_some_iff.1 e154).2
      clear emk e152 e153 e154
      by_cases hil : i < mk
      · have D2 : decide ((i : Int) < (mk : Int)) = true := decide_eq_true (Int.ofNat_lt.2 hil)
        have hii : (i : Int) < (mk : Int) := Int.ofNat_lt.2 hil
        obtain ⟨ad2, y, ea2, hy, y0, y1⟩ := at_N40 (Kd.C_below ROW.out HS.out.below) i (by rw [← EMK.out]; exact hil)
        cases ea2
        have HY := Aside0.mk hy
        clear hy
        have hi4 : (i : Int) ≤ 4 := Int.ofNat_le.2 (Nat.le_trans (Nat.le_of_lt hil) (by rw [EMK.out]; exact Nat.le_trans (Nat.sub_le m k) hm4))
        have hwi : wrap64 ((i : Int) + 1) = (i : Int) + 1 := wr64_in _ ⟨Int.le_trans (by decide : (-9223372036854775808 : Int) ≤ 0) (Int.add_nonneg (Int.natCast_nonneg i) (by decide)), Int.le_trans (Int.add_le_add_right hi4 1) (by decide)⟩
        clear hi4
        obtain ⟨rs, ers⟩ : ∃ rs, rs = restF (r.drop k) at_ i := ⟨_, rfl⟩
        rw [← ers] at e9
        have ERS := Aside0.mk ers
        clear ers
        go_wp2
        refine wp_cond (t := true) (by simp [Act.eval, sz]) ?_
        simp only [if_true]
        go_wp2
        have hrs : restF (r.drop k) at_ (i + 1) = wrap64 (rs + y.f1) := by
          rw [restF, ERS.out, HY.out]
        refine ⟨⟨i + 1, hil, ?_, ?_, ?_, ?_, ?_, ?_, ?_⟩, ?_⟩
        · exact ⟨by simp [sz], by simp [df], by simp [sz, e0], by simp [sz, e1], by simp [sz, e2], by simp [sz, e68], by simp [sz, e69], by simp [sz, e6], by simp [sz, e7], by simp [sz, e8], by simp [sz, hrs], by simp [sz, e12], by simp [sz, e13]⟩
        · simp [sz, g152]
        · simp [sz, g153]
        · simp [sz]
        · exact ⟨HS.out.alloc _⟩
        · exact ⟨HK.out.alloc _⟩
        · exact ⟨blk_alloc BX.out _⟩
        have hm : ∀ (b : Array Value), b[154]? = some (.int .i64 ((i + 1 : Nat) : Int)) → mk - (intOf (b.getD 154 undef)).toNat < mk - i := by
          intro b hb
          rw [Array.getD_eq_getD_getElem?, hb]
          simp only [Option.getD_some, intOf, Int.toNat_natCast]
          exact Nat.sub_lt_sub_left hil (Nat.lt_succ_self i)
        refine hm _ ?_
        simp [sz]
      · obtain rfl : i = mk := Nat.le_antisymm hi (Nat.le_of_not_lt hil)
        have D2 : decide ((i : Int) < (i : Int)) = false := decide_eq_false (Int.lt_irrefl _)
        go_wp2
        refine wp_cond (t := false) (by simp [Act.eval, sz]) ?_
        simp only [Bool.false_eq_true, if_false]
        refine wp_exit ?_
        rename_i K2 hK2 b6 b5 b4 b3 K1 hK1 b1 Q1 K0 hK0
        have HK2 := Aside0.mk hK2
        have HK1 := Aside0.mk hK1
        clear hK2 hK1 hK0 D2 hil hi
        obtain ⟨res, eres⟩ : ∃ res, res = restF (r.drop k) at_ i := ⟨_, rfl⟩
        rw [← eres] at e9
        have ERES := Aside0.mk eres
        clear eres
        refine reabs2 (F := Exit.then _ _ (.exit 2)) (fun a => Ta a gs left en J.length j (.int .i64 (j : Int)) (.pointer (some ⟨bx, 0, none⟩)) (.int .i64 at_) (.int .i64 res) v12 v13) ⟨by simp [sz], by simp [df], by simp [sz, e0], by simp [sz, e1], by simp [sz, e2], by simp [sz, e68], by simp [sz, e69], by simp [sz, e6], by simp [sz, e7], by simp [sz, e8], by simp [sz, e9], by simp [sz, e12], by simp [sz, e13]⟩ ?_
        clear sz df e0 e1 e2 e68 e69 e6 e7 e8 e9 e12 e13 g152 g153 g154
        intro a T
        show K1 a we
        refine HK1.out a we ?_
        have HEND : Aside0 (∀ a' W', (∃ v6 v7 v8 v9 v12 v13, Ta a' gs left en J.length j v6 v7 v8 v9 v12 v13) → Srch w0 gs gn gj gt g J.length n W' (loopG J (tasksN J J.length) (goF J (tasksN J J.length) left) en S (j + 1)) → Kept W W' (fun k => k = gs ∨ k = gn ∨ k = gj ∨ k = gt) → K2 a' W') := ⟨by
          intro a' W' hT hS' hK'
          obtain ⟨_, _, _, _, _, _, ⟨sz, df, e0, e1, e2, e68, e69, _, _, _, _, _, _⟩⟩ := hT
          refine HK2.out a' W' ?_
          have HS' := Aside0.mk hS'
          have HK' := Aside0.mk hK'
          clear hS' hK'
          go_wp2
          refine fin_ (Y := fun j => Aside0 (Srch w0 gs gn gj gt g J.length n W' (loopG J (tasksN J J.length) (goF J (tasksN J J.length) left) en S j)) ∧ Aside0 (Kept W W' (fun k => k = gs ∨ k = gn ∨ k = gj ∨ k = gt))) ⟨_, _, _, _, _, _, ⟨by simp [sz], by simp [df], by simp [sz, e0], by simp [sz, e1], by simp [sz, e2], by simp [sz, e68], by simp [sz, e69], rfl, rfl, rfl, rfl, rfl, rfl⟩⟩ (Nat.succ_le_of_lt hlj) ⟨HS', HK'⟩⟩
        have hkm' : k < m := by rw [EM.out]; exact hkm3
        have hn0 : 0 < n := Nat.lt_of_lt_of_le (Nat.succ_pos left) hl
        have hgq : ∀ i, i < J.length → ∃ k : Nat, Q.nx.getD i 0 = (k : Int) ∧ k ≤ (J.getD i []).length := by
          rw [EQ.out, (loopG_same J (tasksN J J.length) left en S j).1]
          exact HI.out.1
        have hgb : ∀ b, Q.best = some b → b.length = n := by
          rw [EQ.out]
          exact loopG_best J (tasksN J J.length) n hn0 left en S HSL.out (fun b hb => (HI.out.2 b hb).1.trans HN.out.symm) j
        have hstep := step_eq (V := goF J (tasksN J J.length) left) (en := en) (mc := mc) hlj HKX.out ER.out EM.out hkm' EMK.out EFI.out EP.out HX.out EMC.out EAT.out
        rw [← ERES.out] at hstep
        have hloop : loopG J (tasksN J J.length) (goF J (tasksN J J.length) left) en S (j + 1) = stepG J (tasksN J J.length) (goF J (tasksN J J.length) left) en j Q := by
          rw [loopG, ← EQ.out]
        have hgi : Gi J (putF x j at_ Q) := gi_put HN.out hn0 hgq hgb HKX.out (by rw [← ER.out]; exact hkm3)
        have hxp : x.f1.toNat = p := by rw [HXP.out]; exact Int.toNat_natCast p
        have hxm : x.f0.f0.toNat = mc := by rw [EMC.out]; exact Int.toNat_natCast mc
        have hjl : j < Q.nx.length := by rw [HS.out.lens.1]; exact hlj
        have hk2 : (goF J (tasksN J J.length) left (mx en (wrap64 (at_ + x.f0.f1))) (putF x j at_ Q)).nx.getD j 0 = (k : Int) + 1 := by
          rw [(goF_same J (tasksN J J.length) left _ _).1]
          show (Q.nx.set j (Q.nx.getD j 0 + 1)).getD j 0 = _
          rw [getD_set, if_pos ⟨rfl, hjl⟩, HKX.out]
        refine go_mid (fun c a a' w hd h => ⟨hd.trans h.1, h.2⟩) w0 W a we gs gn gj gt g bx left J.length n j p mc k en at_ x.f0.f1 x.f2 x.f3 res v12 v13 T Q (putF x j at_ Q) (goF J (tasksN J J.length) left (mx en (wrap64 (at_ + x.f0.f1))) (putF x j at_ Q)) HS.out HK.out (fun b hb => by rw [hgb b hb]; exact hn0) BX.out BXS.out (by rw [putF, hxp, hxm]) (fun W' hs' => HIH.out _ _ W' (Nat.le_of_succ_le hl) hs' hgi) HKX.out (Nat.le_trans (Nat.le_of_lt hkm') hm4) hk2 (Nat.le_trans (Nat.le_of_succ_le hl) hn10) hlj hpn' hmc ?_ ?_
        · intro hpr a' hT
          refine HEND.out a' we hT ?_ HK.out
          rw [hloop, hstep, if_pos hpr]
          exact HS.out
        · intro hpr a' W' hT hS' hK'
          refine HEND.out a' W' hT ?_ hK'
          rw [hloop, hstep, if_neg hpr]
          exact hS'
  · have hjl : j = J.length := Nat.le_antisymm hj (Nat.le_of_not_lt hlt)
    subst hjl
    have D0 : decide ((J.length : Int) < (J.length : Int)) = false := decide_eq_false (Int.lt_irrefl _)
    go_wp2
    refine wp_cond (t := false) (by simp [Act.eval, sz]) ?_
    simp only [Bool.false_eq_true, if_false]
    go_wp2
    exact bodyPost_end (results_none rfl _ _ _) rfl ⟨rfl, HS.out, HK.out⟩
theorem go_ok (w0 : World) (gs gn gj gt g : Nat) (J : List (List S40)) (n : Nat) (hs : IsShop w0 g J) (hf : Fit J) (hn : n = (tasksN J J.length).length) : ∀ left, GoOK w0 gs gn gj gt g J n left
  | 0 => fun en S W _ h1 h2 => go_leaf w0 W gs gn gj gt g J n hn (by rw [hn]; exact hf.nl) en S h1 h2
  | left + 1 => go_step w0 gs gn gj gt g J n hs hf hn left (go_ok w0 gs gn gj gt g J n hs hf hn left)
end Go.Proofs.Ytipkhaicjjeieaa.V
