/- Walks of the shop's functions, third text: the bound of some tasks. -/
import Derived.Test.YtipkhaicjjeieaaKLShB
namespace Go.Proofs.Ytipkhaicjjeieaa.V
set_option linter.unusedSimpArgs false
set_option linter.unusedVariables false
open Go.RowKit Go.Proofs.YtipkhaicjjeieaaW.PrintWords Go.Proofs.YtipkhaicjjeieaaW.PrintLast Go.Proofs.YtipkhaicjjeieaaW.PrintMore
attribute [local go_sem] max2_int min2_int max_two min_two
def up (l : List Nat) : List Int := l.map Int.ofNat
theorem up_get (l : List Nat) (j : Nat) : (up l).getD j 0 = ((l.getD j 0 : Nat) : Int) := by
  simp only [up, List.getD_eq_getElem?_getD, List.getElem?_map]
  cases l[j]? <;> rfl
theorem at_NInt {w : World} {A : Option Addr} {n : Nat} {xs : List Int} (h : Kd.C (Kd.int .i64) w A n xs) (j : Nat) (h1 : j < n) : ∃ ad, A = some ad ∧ w.cell? (ad.add j) = some (.int .i64 (xs.getD j 0)) := Kd.at_int h (j : Int) (by omega) (by omega)
theorem add_nil (a : Addr) (w : World) (v : Value) (h : w.cell? (a.add 0) = some v) : w.cell? a = some v := by
  have e : w.cell? a = w.cell? (a.add 0) := by
    unfold Addr.add
    simp
  rw [e]; exact h
def timeT (T : List S89) (x : Nat) : Int := (T.getD x z89).f0.f1
def bSum (T : List S89) (l : List Nat) : Nat → Int
  | 0 => 0
  | k + 1 => bSum T l k + timeT T (l.getD k 0)
def bMin (H : List Int) (l : List Nat) : Nat → Int
  | 0 => H.getD (l.getD 0 0) 0
  | k + 1 => mn (bMin H l k) (H.getD (l.getD k 0) 0)
def boundF (T : List S89) (H Q : List Int) (l : List Nat) : Int := bSum T l l.length + bMin H l l.length + bMin Q l l.length
theorem bSum_bd {T : List S89} {l : List Nat} (ht : ∀ x, 0 ≤ timeT T x ∧ timeT T x ≤ 1000) : ∀ k : Nat, 0 ≤ bSum T l k ∧ bSum T l k ≤ 1000 * (k : Int)
  | 0 => by simp [bSum]
  | k + 1 => by
    have h1 := bSum_bd ht (l := l) k
    have h2 := ht (l.getD k 0)
    simp only [bSum]
    omega
theorem bMin_bd {H : List Int} {l : List Nat} (hh : ∀ x, 0 ≤ H.getD x 0 ∧ H.getD x 0 ≤ 1000000) : ∀ k : Nat, 0 ≤ bMin H l k ∧ bMin H l k ≤ 1000000
  | 0 => hh _
  | k + 1 => by
    have h1 := bMin_bd hh (l := l) k
    have h2 := hh (l.getD k 0)
    simp only [bMin, mn]
    split <;> omega
def bo1T : Bool × List (List Nat × List Nat) := (true, [([], []), ([], []), ([1], [1]), ([2], [2]), ([0, 3], [0, 3]), ([4], [4]), ([], []), ([], []), ([7], [7]), ([8], [8]), ([6, 9], [6, 9]), ([10], [10]), ([], []), ([5, 12, 0, 1, 2, 3, 4, 5, 12], [5]), ([11, 13, 0, 1, 2, 3, 4, 5, 6, 7, 8, 9, 10, 11, 12, 13], [11])])
def bo1B : List Nat := [0, 0, 2, 6, 15, 31, 0, 0, 128, 384, 960, 1984, 0, 4159, 16383]
theorem bo1tab : rtab .any (opsOf Try.f43 1) = bo1T := by kernel_rfl
theorem bo1bits : waitsOk bo1T.2 bo1B = true := by kernel_rfl
def bo5T : Bool × List (List Nat × List Nat) := (true, [([], []), ([], []), ([1], [1]), ([2], [2]), ([3], [3]), ([], []), ([4, 5], [4, 5]), ([6], [6]), ([7], [7]), ([8], [8]), ([0, 9], [0, 9]), ([], []), ([], []), ([], []), ([12, 13], [12, 13]), ([14], [14]), ([11, 15], [11, 15]), ([], []), ([], []), ([], []), ([18, 19], [18, 19]), ([20], [20]), ([17, 21], [17, 21]), ([10, 0, 1, 2, 3, 4, 5, 6, 7, 8, 9, 10], [0, 10]), ([16, 23, 0, 1, 2, 3, 4, 5, 6, 7, 8, 9, 10, 11, 12, 13, 14, 15, 16, 23], [11, 16]), ([22, 24, 0, 1, 2, 3, 4, 5, 6, 7, 8, 9, 10, 11, 12, 13, 14, 15, 16, 17, 18, 19, 20, 21, 22, 23, 24], [17, 22])])
def bo5B : List Nat := [0, 0, 2, 6, 14, 0, 62, 126, 254, 510, 1023, 0, 0, 0, 12288, 28672, 63488, 0, 0, 0, 786432, 1835008, 4063232, 2047, 8519679, 33554431]
theorem bo5tab : rtab .any (opsOf Try.f43 5) = bo5T := by kernel_rfl
theorem bo5bits : waitsOk bo5T.2 bo5B = true := by kernel_rfl
set_option maxHeartbeats 8000000 in
set_option maxRecDepth 100000 in
theorem shop_bound.calls (g : Nat) (J : List (List S40)) (A1 A2 A3 : Option Addr) (c1 c2 c3 : Nat) (l : List Nat) (H Q : List Int) (w : World) (hs : IsShop w g J)
    (h1 : Kd.C (Kd.int .i64) w A1 l.length (up l)) (h2 : Kd.C (Kd.int .i64) w A2 H.length H) (h3 : Kd.C (Kd.int .i64) w A3 Q.length Q) (k1 : l.length ≤ c1) (k2 : H.length ≤ c2) (k3 : Q.length ≤ c3)
    (hl0 : 0 < l.length) (hl : l.length ≤ 1000) (hx : ∀ j, j < l.length → l.getD j 0 < (tasksN J J.length).length ∧ l.getD j 0 < H.length ∧ l.getD j 0 < Q.length)
    (ht : ∀ x, 0 ≤ timeT (tasksN J J.length) x ∧ timeT (tasksN J J.length) x ≤ 1000) (hh : ∀ x, 0 ≤ H.getD x 0 ∧ H.getD x 0 ≤ 1000000) (hq : ∀ x, 0 ≤ Q.getD x 0 ∧ Q.getD x 0 ≤ 1000000) :
    Calls Try.prog 43 #[.pointer (some ⟨g, 0, none⟩), .slice A1 l.length c1, .slice A2 H.length c2, .slice A3 Q.length c3] w fun e w' => e = .returned (.int .i64 (boundF (tasksN J J.length) H Q l)) ∧ Below w.heap.size w w' := by
  obtain ⟨A0, c0, At, ct, Af, cf, hb, _, _, hT, hct, _, _⟩ := hs
  obtain ⟨x, ex⟩ : ∃ x, x = l.getD 0 0 := ⟨_, rfl⟩
  have X0 := hx 0 hl0
  rw [← ex] at X0
  obtain ⟨x1, x2, x3⟩ := X0
  obtain ⟨a1, e1, r1⟩ := at_NInt h1 0 hl0
  rw [up_get, ← ex] at r1
  replace r1 := add_nil _ _ _ r1
  cases e1
  obtain ⟨a2, e2, r2⟩ := at_NInt h2 x x2
  cases e2
  obtain ⟨a3, e3, r3⟩ := at_NInt h3 x x3
  cases e3
  obtain ⟨u2, eu2⟩ : ∃ u, u = H.getD x 0 := ⟨_, rfl⟩
  obtain ⟨u3, eu3⟩ : ∃ u, u = Q.getD x 0 := ⟨_, rfl⟩
  rw [← eu2] at r2
  rw [← eu3] at r3
  have e3 := Aside0.mk (show u2 = bMin H l 0 by rw [eu2, ex]; rfl)
  have e4 := Aside0.mk (show u3 = bMin Q l 0 by rw [eu3, ex]; rfl)
  have EX := Aside0.mk ex
  have S1 := Aside0.mk h1
  have S2 := Aside0.mk h2
  have S3 := Aside0.mk h3
  have ST := Aside0.mk hT
  have SB := Aside0.mk hb
  have SX := Aside0.mk hx
  have SMT := Aside0.mk ht
  have SMH := Aside0.mk hh
  have SMQ := Aside0.mk hq
  have SK := Aside0.mk (And.intro k1 (And.intro k2 k3))
  clear h1 h2 h3 hT hb hx ht hh hq k1 k2 k3 ex eu2 eu3
  go_enter Try.func43, Try.ntmps43
  go_wp2
  have HB1 := Aside0.mk (below_drew1 (Below.refl w.heap.size w))
  refine start_ (n := 15) (S := fun w' => w'.cell? a1 = some (.int .i64 (x : Int)) ∧ w'.cell? (a2.add x) = some (.int .i64 u2) ∧ w'.cell? (a3.add x) = some (.int .i64 u3)) (ds := []) #[false, false, false, false, false, false, false, false, false, false, false, false, false, false, false] (by kernel_rfl) rfl rfl ⟨r1, r2, r3⟩ (fun hHeld => ?_)
  refine with_tabW bo1tab bo1bits (fun HT_ HW_ => ?_)
  generalize w.drew = w1 at HB1 hHeld ⊢
  refine pure_ (i := 0) (N := some 14) (v := ?_) (a' := ?_) (qd 15 1) rfl rfl (any_of HT_.out (by kernel_rfl)) (fun _ _ _ h => h) (Or.inl ⟨by rfl, ?_⟩) ?_ ?_
  rotate_left
  · intro w'
    go_simp
    with_reducible rfl
  rotate_left
  · simp only [Act.put, qa, qb, qc, i64_w, i32_w]
    rfl
  refine pure_ (i := 1) (N := some 15) (v := ?_) (a' := ?_) (qd 15 3) rfl rfl (any_of HT_.out (by kernel_rfl)) (fun _ _ _ h => h) (Or.inl ⟨by rfl, ?_⟩) ?_ ?_
  rotate_left
  · intro w'
    go_simp
    with_reducible rfl
  rotate_left
  · simp only [Act.put, qa, qb, qc, i64_w, i32_w]
    rfl
  refine pure_ (i := 2) (N := some 16) (v := ?_) (a' := ?_) (qd 15 7) rfl rfl (any_of HT_.out (by kernel_rfl)) (fun _ _ _ h => h) (Or.inl ⟨by rfl, ?_⟩) ?_ ?_
  rotate_left
  · intro w'
    go_simp
    with_reducible rfl
  rotate_left
  · simp only [Act.put, qa, qb, qc, i64_w, i32_w]
    rfl
  refine pure_ (i := 6) (N := some 20) (v := ?_) (a' := ?_) (qd 15 71) rfl rfl (any_of HT_.out (by kernel_rfl)) (fun _ _ _ h => h) (Or.inl ⟨by rfl, ?_⟩) ?_ ?_
  rotate_left
  · intro w'
    go_simp
    with_reducible rfl
  rotate_left
  · simp only [Act.put, qa, qb, qc, i64_w, i32_w]
    rfl
  refine pure_ (i := 7) (N := some 21) (v := ?_) (a' := ?_) (qd 15 199) rfl rfl (any_of HT_.out (by kernel_rfl)) (fun _ _ _ h => h) (Or.inl ⟨by rfl, ?_⟩) ?_ ?_
  rotate_left
  · intro w'
    go_simp
    with_reducible rfl
  rotate_left
  · simp only [Act.put, qa, qb, qc, i64_w, i32_w]
    rfl
  refine pure_ (i := 8) (N := some 22) (v := ?_) (a' := ?_) (qd 15 455) rfl rfl (any_of HT_.out (by kernel_rfl)) (fun _ _ _ h => h) (Or.inl ⟨by rfl, ?_⟩) ?_ ?_
  rotate_left
  · intro w'
    go_simp
    with_reducible rfl
  rotate_left
  · simp only [Act.put, qa, qb, qc, i64_w, i32_w]
    rfl
  refine pure_ (i := 12) (N := some 9) (v := ?_) (a' := ?_) (qd 15 4551) rfl rfl (any_of HT_.out (by kernel_rfl)) (fun _ _ _ h => h) (Or.inl ⟨by rfl, ?_⟩) ?_ ?_
  rotate_left
  · intro w'
    go_simp
    with_reducible rfl
  rotate_left
  · simp only [Act.put, qa, qb, qc, i64_w, i32_w]
    rfl
  refine take_ (i := 3) (N := some 17) (v := ?_) (a' := ?_) (qd 15 4559) rfl rfl (take_ofW HT_.out HW_.out (by kernel_rfl)) (fun _ _ _ h => h) (Or.inl ⟨by rfl, ?_⟩) hHeld ?_ ?_
  rotate_left
  · rintro w' ⟨s0, s1, s2⟩
    go_simp
    with_reducible rfl
  rotate_left
  · simp only [Act.put, qa, qb, qc, i64_w, i32_w]
    rfl
  refine pure_ (i := 4) (N := some 18) (v := ?_) (a' := ?_) (qd 15 4575) rfl rfl (any_of HT_.out (by kernel_rfl)) (fun _ _ _ h => h) (Or.inl ⟨by rfl, ?_⟩) ?_ ?_
  rotate_left
  · intro w'
    go_simp
    with_reducible rfl
  rotate_left
  · simp only [Act.put, qa, qb, qc, i64_w, i32_w]
    rfl
  refine take_ (i := 5) (N := some 19) (v := ?_) (a' := ?_) (qd 15 4607) rfl rfl (take_ofW HT_.out HW_.out (by kernel_rfl)) (fun _ _ _ h => h) (Or.inl ⟨by rfl, ?_⟩) hHeld ?_ ?_
  rotate_left
  · rintro w' ⟨s0, s1, s2⟩
    go_simp
    with_reducible rfl
  rotate_left
  · simp only [Act.put, qa, qb, qc, i64_w, i32_w]
    rfl
  refine pure_ (i := 13) (N := some 10) (v := ?_) (a' := ?_) (qd 15 12799) rfl rfl (any_of HT_.out (by kernel_rfl)) (fun _ _ _ h => h) (Or.inl ⟨by rfl, ?_⟩) ?_ ?_
  rotate_left
  · intro w'
    go_simp
    with_reducible rfl
  rotate_left
  · simp only [Act.put, qa, qb, qc, i64_w, i32_w]
    rfl
  refine take_ (i := 9) (N := some 23) (v := ?_) (a' := ?_) (qd 15 13311) rfl rfl (take_ofW HT_.out HW_.out (by kernel_rfl)) (fun _ _ _ h => h) (Or.inl ⟨by rfl, ?_⟩) hHeld ?_ ?_
  rotate_left
  · rintro w' ⟨s0, s1, s2⟩
    go_simp
    with_reducible rfl
  rotate_left
  · simp only [Act.put, qa, qb, qc, i64_w, i32_w]
    rfl
  refine pure_ (i := 10) (N := some 24) (v := ?_) (a' := ?_) (qd 15 14335) rfl rfl (any_of HT_.out (by kernel_rfl)) (fun _ _ _ h => h) (Or.inl ⟨by rfl, ?_⟩) ?_ ?_
  rotate_left
  · intro w'
    go_simp
    with_reducible rfl
  rotate_left
  · simp only [Act.put, qa, qb, qc, i64_w, i32_w]
    rfl
  refine take_ (i := 11) (N := some 25) (v := ?_) (a' := ?_) (qd 15 16383) rfl rfl (take_ofW HT_.out HW_.out (by kernel_rfl)) (fun _ _ _ h => h) (Or.inl ⟨by rfl, ?_⟩) hHeld ?_ ?_
  rotate_left
  · rintro w' ⟨s0, s1, s2⟩
    go_simp
    with_reducible rfl
  rotate_left
  · simp only [Act.put, qa, qb, qc, i64_w, i32_w]
    rfl
  refine pure_ (i := 14) (N := some 11) (v := ?_) (a' := ?_) (qd 15 32767) rfl rfl (any_of HT_.out (by kernel_rfl)) (fun _ _ _ h => h) (Or.inl ⟨by rfl, ?_⟩) ?_ ?_
  rotate_left
  · intro w'
    go_simp
    with_reducible rfl
  rotate_left
  · simp only [Act.put, qa, qb, qc, i64_w, i32_w]
    rfl
  refine done_ (done_of HT_.out (by kernel_rfl)) ?_
  clear r1 r2 r3 hHeld
  go_wp2
  go_loopw [9, 10, 11, 28] (fun v9 v10 v11 v w' => ∃ k : Nat, k ≤ l.length ∧ v = .int .i64 k ∧ v9 = .int .i64 (bSum (tasksN J J.length) l k) ∧ v10 = .int .i64 (bMin H l k) ∧ v11 = .int .i64 (bMin Q l k) ∧ Aside0 (Below w.heap.size w w')) (fun _ _ _ v _ => l.length - (intOf v).toNat)
  case atStart => exact ⟨0, Nat.zero_le _, rfl, rfl, by rw [e3.out], by rw [e4.out], HB1⟩
  case round =>
    clear HB1
    obtain ⟨k, hk, rfl, rfl, rfl, rfl, HB⟩ := hrel
    obtain ⟨s, es⟩ : ∃ s, s = bSum (tasksN J J.length) l k := ⟨_, rfl⟩
    obtain ⟨y2, ey2⟩ : ∃ s, s = bMin H l k := ⟨_, rfl⟩
    obtain ⟨y3, ey3⟩ : ∃ s, s = bMin Q l k := ⟨_, rfl⟩
    have b1 : 0 ≤ s ∧ s ≤ 1000 * (k : Int) := by rw [es]; exact bSum_bd SMT.out k
    have b2 : 0 ≤ y2 ∧ y2 ≤ 1000000 := by rw [ey2]; exact bMin_bd SMH.out k
    have b3 : 0 ≤ y3 ∧ y3 ≤ 1000000 := by rw [ey3]; exact bMin_bd SMQ.out k
    rw [← es, ← ey2, ← ey3]
    have ES := Aside0.mk es
    have EY2 := Aside0.mk ey2
    have EY3 := Aside0.mk ey3
    clear es ey2 ey3
    obtain ⟨c11, c12⟩ := b1
    obtain ⟨c21, c22⟩ := b2
    obtain ⟨c31, c32⟩ := b3
    by_cases hlt : k < l.length
    · obtain ⟨z, ez⟩ : ∃ z, z = l.getD k 0 := ⟨_, rfl⟩
      have Z0 := SX.out k hlt
      rw [← ez] at Z0
      obtain ⟨z1, z2, z3⟩ := Z0
      obtain ⟨b1, f1, r1⟩ := at_NInt (Kd.C_below S1.out HB.out) k hlt
      rw [up_get, ← ez] at r1
      cases f1
      obtain ⟨b2, f2, r2⟩ := at_NInt (Kd.C_below S2.out HB.out) z z2
      cases f2
      obtain ⟨b3, f3, r3⟩ := at_NInt (Kd.C_below S3.out HB.out) z z3
      cases f3
      obtain ⟨b4, tz, f4, et, r4, r5, _⟩ := at_N89 (Kd.C_below ST.out HB.out) z z1
      cases f4
      obtain ⟨v2, ev2⟩ : ∃ u, u = H.getD z 0 := ⟨_, rfl⟩
      obtain ⟨v3, ev3⟩ : ∃ u, u = Q.getD z 0 := ⟨_, rfl⟩
      rw [← ev2] at r2
      rw [← ev3] at r3
      have d5 : 0 ≤ tz.f0.f1 ∧ tz.f0.f1 ≤ 1000 := by rw [et]; exact SMT.out z
      obtain ⟨d51, d52⟩ := d5
      have EZ := Aside0.mk ez
      have ET := Aside0.mk et
      have EV2 := Aside0.mk ev2
      have EV3 := Aside0.mk ev3
      clear ez et ev2 ev3
      have BK := Aside0.mk (blk_drew (blk_below SB.out HB.out))
      go_wp2
      have HB1 := Aside0.mk (below_drew1 HB.out)
      refine start_ (n := 26) (S := fun w' => w'.cell? ⟨g, 1, none⟩ = some (.slice (some b4) (tasksN J J.length).length ct) ∧ w'.cell? ⟨(b4.add (z * 5)).block, (b4.add (z * 5)).off + 1, none⟩ = some (.int .i64 tz.f0.f1) ∧ w'.cell? (a2.add z) = some (.int .i64 v2) ∧ w'.cell? (a3.add z) = some (.int .i64 v3)) (ds := []) #[false, false, false, false, false, false, false, false, false, false, false, false, false, false, false, false, false, false, false, false, false, false, false, false, false, false] (by kernel_rfl) rfl rfl ⟨(blk_cell BK.out 1).trans rfl, r5, r2, r3⟩ (fun hHeld => ?_)
      refine with_tabW bo5tab bo5bits (fun HT_ HW_ => ?_)
      generalize wr.drew = w1 at HB1 BK hHeld ⊢
      refine pure_ (i := 0) (N := some 32) (v := ?_) (a' := ?_) (qd 26 1) rfl rfl (any_of HT_.out (by kernel_rfl)) (fun _ _ _ h => h) (Or.inl ⟨by rfl, ?_⟩) ?_ ?_
      rotate_left
      · intro w'
        go_simp
        with_reducible rfl
      rotate_left
      · simp only [Act.put, qa, qb, qc, i64_w, i32_w]
        rfl
      refine pure_ (i := 1) (N := some 33) (v := ?_) (a' := ?_) (qd 26 3) rfl rfl (any_of HT_.out (by kernel_rfl)) (fun _ _ _ h => h) (Or.inl ⟨by rfl, ?_⟩) ?_ ?_
      rotate_left
      · intro w'
        go_simp
        with_reducible rfl
      rotate_left
      · simp only [Act.put, qa, qb, qc, i64_w, i32_w]
        rfl
      refine pure_ (i := 2) (N := some 34) (v := ?_) (a' := ?_) (qd 26 7) rfl rfl (any_of HT_.out (by kernel_rfl)) (fun _ _ _ h => h) (Or.inl ⟨by rfl, ?_⟩) ?_ ?_
      rotate_left
      · intro w'
        go_simp
        with_reducible rfl
      rotate_left
      · simp only [Act.put, qa, qb, qc, i64_w, i32_w]
        rfl
      refine pure_ (i := 3) (N := some 35) (v := ?_) (a' := ?_) (qd 26 15) rfl rfl (any_of HT_.out (by kernel_rfl)) (fun _ _ _ h => h) (Or.inl ⟨by rfl, ?_⟩) ?_ ?_
      rotate_left
      · intro w'
        go_simp
        with_reducible rfl
      rotate_left
      · simp only [Act.put, qa, qb, qc, i64_w, i32_w]
        rfl
      refine pure_ (i := 5) (N := some 37) (v := ?_) (a' := ?_) (qd 26 47) rfl rfl (any_of HT_.out (by kernel_rfl)) (fun _ _ _ h => h) (Or.inl ⟨by rfl, ?_⟩) ?_ ?_
      rotate_left
      · intro w'
        go_simp
        with_reducible rfl
      rotate_left
      · simp only [Act.put, qa, qb, qc, i64_w, i32_w]
        rfl
      refine pure_ (i := 11) (N := some 43) (v := ?_) (a' := ?_) (qd 26 2095) rfl rfl (any_of HT_.out (by kernel_rfl)) (fun _ _ _ h => h) (Or.inl ⟨by rfl, ?_⟩) ?_ ?_
      rotate_left
      · intro w'
        go_simp
        with_reducible rfl
      rotate_left
      · simp only [Act.put, qa, qb, qc, i64_w, i32_w]
        rfl
      refine pure_ (i := 12) (N := some 44) (v := ?_) (a' := ?_) (qd 26 6191) rfl rfl (any_of HT_.out (by kernel_rfl)) (fun _ _ _ h => h) (Or.inl ⟨by rfl, ?_⟩) ?_ ?_
      rotate_left
      · intro w'
        go_simp
        with_reducible rfl
      rotate_left
      · simp only [Act.put, qa, qb, qc, i64_w, i32_w]
        rfl
      refine pure_ (i := 13) (N := some 45) (v := ?_) (a' := ?_) (qd 26 14383) rfl rfl (any_of HT_.out (by kernel_rfl)) (fun _ _ _ h => h) (Or.inl ⟨by rfl, ?_⟩) ?_ ?_
      rotate_left
      · intro w'
        go_simp
        with_reducible rfl
      rotate_left
      · simp only [Act.put, qa, qb, qc, i64_w, i32_w]
        rfl
      refine pure_ (i := 14) (N := some 46) (v := ?_) (a' := ?_) (qd 26 30767) rfl rfl (any_of HT_.out (by kernel_rfl)) (fun _ _ _ h => h) (Or.inl ⟨by rfl, ?_⟩) ?_ ?_
      rotate_left
      · intro w'
        go_simp
        with_reducible rfl
      rotate_left
      · simp only [Act.put, qa, qb, qc, i64_w, i32_w]
        rfl
      refine pure_ (i := 17) (N := some 49) (v := ?_) (a' := ?_) (qd 26 161839) rfl rfl (any_of HT_.out (by kernel_rfl)) (fun _ _ _ h => h) (Or.inl ⟨by rfl, ?_⟩) ?_ ?_
      rotate_left
      · intro w'
        go_simp
        with_reducible rfl
      rotate_left
      · simp only [Act.put, qa, qb, qc, i64_w, i32_w]
        rfl
      refine pure_ (i := 18) (N := some 50) (v := ?_) (a' := ?_) (qd 26 423983) rfl rfl (any_of HT_.out (by kernel_rfl)) (fun _ _ _ h => h) (Or.inl ⟨by rfl, ?_⟩) ?_ ?_
      rotate_left
      · intro w'
        go_simp
        with_reducible rfl
      rotate_left
      · simp only [Act.put, qa, qb, qc, i64_w, i32_w]
        rfl
      refine pure_ (i := 19) (N := some 51) (v := ?_) (a' := ?_) (qd 26 948271) rfl rfl (any_of HT_.out (by kernel_rfl)) (fun _ _ _ h => h) (Or.inl ⟨by rfl, ?_⟩) ?_ ?_
      rotate_left
      · intro w'
        go_simp
        with_reducible rfl
      rotate_left
      · simp only [Act.put, qa, qb, qc, i64_w, i32_w]
        rfl
      refine pure_ (i := 20) (N := some 52) (v := ?_) (a' := ?_) (qd 26 1996847) rfl rfl (any_of HT_.out (by kernel_rfl)) (fun _ _ _ h => h) (Or.inl ⟨by rfl, ?_⟩) ?_ ?_
      rotate_left
      · intro w'
        go_simp
        with_reducible rfl
      rotate_left
      · simp only [Act.put, qa, qb, qc, i64_w, i32_w]
        rfl
      refine take_ (i := 4) (N := some 36) (v := ?_) (a' := ?_) (qd 26 1996863) rfl rfl (take_ofW HT_.out HW_.out (by kernel_rfl)) (fun _ _ _ h => h) (Or.inl ⟨by rfl, ?_⟩) hHeld ?_ ?_
      rotate_left
      · rintro w' ⟨s0, s1, s2, s3⟩
        go_simp
        with_reducible rfl
      rotate_left
      · simp only [Act.put, qa, qb, qc, i64_w, i32_w]
        rfl
      refine pure_ (i := 6) (N := some 38) (v := ?_) (a' := ?_) (qd 26 1996927) rfl rfl (any_of HT_.out (by kernel_rfl)) (fun _ _ _ h => h) (Or.inl ⟨by rfl, ?_⟩) ?_ ?_
      rotate_left
      · intro w'
        go_simp
        with_reducible rfl
      rotate_left
      · simp only [Act.put, qa, qb, qc, i64_w, i32_w]
        rfl
      refine pure_ (i := 7) (N := some 39) (v := ?_) (a' := ?_) (qd 26 1997055) rfl rfl (any_of HT_.out (by kernel_rfl)) (fun _ _ _ h => h) (Or.inl ⟨by rfl, ?_⟩) ?_ ?_
      rotate_left
      · intro w'
        go_simp
        with_reducible rfl
      rotate_left
      · simp only [Act.put, qa, qb, qc, i64_w, i32_w]
        rfl
      refine pure_ (i := 8) (N := some 40) (v := ?_) (a' := ?_) (qd 26 1997311) rfl rfl (any_of HT_.out (by kernel_rfl)) (fun _ _ _ h => h) (Or.inl ⟨by rfl, ?_⟩) ?_ ?_
      rotate_left
      · intro w'
        go_simp
        with_reducible rfl
      rotate_left
      · simp only [Act.put, qa, qb, qc, i64_w, i32_w]
        rfl
      refine take_ (i := 9) (N := some 41) (v := ?_) (a' := ?_) (qd 26 1997823) rfl rfl (take_ofW HT_.out HW_.out (by kernel_rfl)) (fun _ _ _ h => h) (Or.inl ⟨by rfl, ?_⟩) hHeld ?_ ?_
      rotate_left
      · rintro w' ⟨s0, s1, s2, s3⟩
        go_simp
        with_reducible rfl
      rotate_left
      · simp only [Act.put, qa, qb, qc, i64_w, i32_w]
        rfl
      refine pure_ (i := 10) (N := some 42) (v := ?_) (a' := ?_) (qd 26 1998847) rfl rfl (any_of HT_.out (by kernel_rfl)) (fun _ _ _ h => h) (Or.inl ⟨by rfl, ?_⟩) ?_ ?_
      rotate_left
      · intro w'
        go_simp
        with_reducible rfl
      rotate_left
      · simp only [Act.put, qa, qb, qc, i64_w, i32_w]
        rfl
      refine pure_ (i := 23) (N := some 9) (v := ?_) (a' := ?_) (qd 26 10387455) rfl rfl (any_of HT_.out (by kernel_rfl)) (fun _ _ _ h => h) (Or.inl ⟨by rfl, ?_⟩) ?_ ?_
      rotate_left
      · intro w'
        go_simp
        with_reducible rfl
      rotate_left
      · simp only [Act.put, qa, qb, qc, i64_w, i32_w]
        rfl
      refine take_ (i := 15) (N := some 47) (v := ?_) (a' := ?_) (qd 26 10420223) rfl rfl (take_ofW HT_.out HW_.out (by kernel_rfl)) (fun _ _ _ h => h) (Or.inl ⟨by rfl, ?_⟩) hHeld ?_ ?_
      rotate_left
      · rintro w' ⟨s0, s1, s2, s3⟩
        go_simp
        with_reducible rfl
      rotate_left
      · simp only [Act.put, qa, qb, qc, i64_w, i32_w]
        rfl
      refine pure_ (i := 16) (N := some 48) (v := ?_) (a' := ?_) (qd 26 10485759) rfl rfl (any_of HT_.out (by kernel_rfl)) (fun _ _ _ h => h) (Or.inl ⟨by rfl, ?_⟩) ?_ ?_
      rotate_left
      · intro w'
        go_simp
        with_reducible rfl
      rotate_left
      · simp only [Act.put, qa, qb, qc, i64_w, i32_w]
        rfl
      refine pure_ (i := 24) (N := some 10) (v := ?_) (a' := ?_) (qd 26 27262975) rfl rfl (any_of HT_.out (by kernel_rfl)) (fun _ _ _ h => h) (Or.inl ⟨by rfl, ?_⟩) ?_ ?_
      rotate_left
      · intro w'
        go_simp
        with_reducible rfl
      rotate_left
      · simp only [Act.put, qa, qb, qc, i64_w, i32_w]
        rfl
      refine take_ (i := 21) (N := some 53) (v := ?_) (a' := ?_) (qd 26 29360127) rfl rfl (take_ofW HT_.out HW_.out (by kernel_rfl)) (fun _ _ _ h => h) (Or.inl ⟨by rfl, ?_⟩) hHeld ?_ ?_
      rotate_left
      · rintro w' ⟨s0, s1, s2, s3⟩
        go_simp
        with_reducible rfl
      rotate_left
      · simp only [Act.put, qa, qb, qc, i64_w, i32_w]
        rfl
      refine pure_ (i := 22) (N := some 54) (v := ?_) (a' := ?_) (qd 26 33554431) rfl rfl (any_of HT_.out (by kernel_rfl)) (fun _ _ _ h => h) (Or.inl ⟨by rfl, ?_⟩) ?_ ?_
      rotate_left
      · intro w'
        go_simp
        with_reducible rfl
      rotate_left
      · simp only [Act.put, qa, qb, qc, i64_w, i32_w]
        rfl
      refine pure_ (i := 25) (N := some 11) (v := ?_) (a' := ?_) (qd 26 67108863) rfl rfl (any_of HT_.out (by kernel_rfl)) (fun _ _ _ h => h) (Or.inl ⟨by rfl, ?_⟩) ?_ ?_
      rotate_left
      · intro w'
        go_simp
        with_reducible rfl
      rotate_left
      · simp only [Act.put, qa, qb, qc, i64_w, i32_w]
        rfl
      refine done_ (done_of HT_.out (by kernel_rfl)) ?_
      clear r1 r2 r3 r4 r5 hHeld
      go_wp2
      refine ⟨⟨k + 1, by omega, rfl, ?_, ?_, ?_, HB1⟩, by simp [intOf]; omega⟩
      · rw [show wrap64 (s + tz.f0.f1) = s + tz.f0.f1 by unfold wrap64; omega]
        simp only [bSum, timeT, ← EZ.out, ← ET.out, ← ES.out]
      · simp only [bMin, mn, ← EZ.out, ← EY2.out, ← EV2.out]
      · simp only [bMin, mn, ← EZ.out, ← EY3.out, ← EV3.out]
    · obtain rfl : k = l.length := by omega
      go_wp2
      go_ret
      refine ⟨?_, HB.out⟩
      rw [ES.out, EY2.out, EY3.out]
      rfl
end Go.Proofs.Ytipkhaicjjeieaa.V
