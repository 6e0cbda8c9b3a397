/- Walks of the reference's search: the region that makes the next node (12). -/
import Derived.Test.YtipkhaicjjeieaaKSShRb
namespace Go.Proofs.Ytipkhaicjjeieaa.V
set_option linter.unusedSimpArgs false
set_option linter.unusedVariables false
open Go.RowKit Go.Proofs.YtipkhaicjjeieaaW.PrintWords Go.Proofs.YtipkhaicjjeieaaW.PrintLast Go.Proofs.YtipkhaicjjeieaaW.PrintMore
attribute [local go_sem] max2_int min2_int max_two min_two
def RowN (w : World) (A : Option Addr) (n c : Nat) (l : List Int) : Prop := n ≤ c ∧ Kd.C (Kd.int .i64) w A n l ∧ (0 < n → ∃ ad cells, A = some ad ∧ w.heap[ad.block]? = some (.cells cells 3 (0, 0)))
theorem RowN.below {w w1 : World} {A : Option Addr} {n c : Nat} {l : List Int} (h : RowN w A n c l) (hb : Below w.heap.size w w1) : RowN w1 A n c l :=
  ⟨h.1, Kd.C_below h.2.1 hb, fun hn => by
    obtain ⟨ad, cells, e, h1⟩ := h.2.2 hn
    exact ⟨ad, cells, e, blk_below h1 hb⟩⟩
theorem RowN.of_R {w : World} {B n c : Nat} {ok : Nat → Prop} {A : Option Addr} {l : List Int} (h : Kd.R (Kd.int .i64) 3 w B ok (.slice A n c) l) : RowN w A n c l := by
  obtain ⟨e, h3, h4⟩ := Kd.R_reads' h
  subst e
  refine ⟨h3, h4, fun hn => ?_⟩
  obtain ⟨g, cap, e2, _, _, cells, h5⟩ := Kd.R_form h hn
  cases e2
  exact ⟨_, cells, rfl, h5⟩
theorem RowN.setRow {w : World} {A : Option Addr} {n c k : Nat} {l : List Int} {old cs : Array Value} {t : TypeId} (h : RowN w A n c l) (hk : w.heap[k]? = some (.cells old t (0, 0))) (ht : t ≠ 3) : RowN (w.setRow k cs) A n c l := by
  obtain ⟨h1, ⟨h2, h3, h4⟩, h5⟩ := h
  by_cases hn : 0 < n
  · obtain ⟨ad, cells, e, h6⟩ := h5 hn
    have hne : ad.block ≠ k := fun q => by
      rw [q, hk] at h6
      cases h6
      exact ht rfl
    refine ⟨h1, ⟨h2, h3, fun hn => ?_⟩, fun hn => ⟨ad, cells, e, by rw [setRow_other _ _ _ _ hne]; exact h6⟩⟩
    obtain ⟨ad2, e2, h7⟩ := h4 hn
    obtain rfl : ad = ad2 := Option.some.inj (e.symm.trans e2)
    refine ⟨ad, e, fun j p hp => ?_⟩
    obtain ⟨c0, q1, q2, q3⟩ := h7 j p hp
    refine ⟨c0, q1, q2, fun i u hu => ?_⟩
    rw [cell_setRow_other _ _ _ _ (by rw [add_block]; exact hne)]
    exact q3 i u hu
  · exact ⟨h1, ⟨h2, h3, fun q => absurd q hn⟩, fun q => absurd q hn⟩
theorem RowN.at_ {w : World} {A : Option Addr} {n c : Nat} {l : List Int} (h : RowN w A n c l) {i : Nat} (hi : i < n) : ∃ ad, A = some ad ∧ w.cell? (ad.add i) = some (.int .i64 (l.getD i 0)) := at_NInt h.2.1 i hi
theorem RowN.len {w : World} {A : Option Addr} {n c : Nat} {l : List Int} (h : RowN w A n c l) : l.length = n := h.2.1.1
theorem RowN.with_ {w : World} {A : Option Addr} {n c : Nat} {l : List Int} (h : RowN w A n c l) {i : Nat} (hi : i < n) (hl : n ≤ 1000) (x : Int) {w1 : World} (hb : Below w.heap.size w w1) :
    Calls Try.prog 54 #[.slice A n c, .int .i64 (i : Int), .int .i64 x] w1 fun e w' => ∃ A c, e = .returned (.slice A n c) ∧ Kd.R (Kd.int .i64) 3 w' w1.heap.size (fun _ => True) (.slice A n c) (l.set i x) ∧ Below w1.heap.size w1 w' := by
  have hlen := h.len
  subst hlen
  refine (tinplateref06_with.calls A c l (i : Int) x (l.set i x) w1 (Kd.C_below h.2.1 hb) h.1 (with_f l i x hi hl)).mono ?_
  rintro e w' ⟨v0, rfl, hr, hb'⟩
  obtain ⟨A2, c2, e2⟩ := Kd.R_slice hr
  rw [List.length_set] at e2
  subst e2
  exact ⟨A2, c2, rfl, hr, hb'⟩
abbrev RowB (w : World) (B : Nat) (bn : Option Nat) (A : Option Addr) (n c : Nat) (l : List Int) : Prop := Kd.R (Kd.int .i64) 3 w B (fun k => bn ≠ some k) (.slice A n c) l
structure Wi (W0 w : World) (nj n : Nat) (l1 l2 l3 l4 : List Int) (v1 v2 v3 v4 : Option (Option Addr × Nat)) (bn : Option Nat) : Prop where
  below : Below W0.heap.size W0 w
  r1 : ∀ A c, v1 = some (A, c) → RowB w W0.heap.size bn A nj c l1
  r2 : ∀ A c, v2 = some (A, c) → RowB w W0.heap.size bn A nj c l2
  r3 : ∀ A c, v3 = some (A, c) → RowB w W0.heap.size bn A 4 c l3
  r4 : ∀ A c, v4 = some (A, c) → RowB w W0.heap.size bn A n c l4
  nb : ∀ k, bn = some k → W0.heap.size ≤ k ∧ w.heap[k]? = some (.cells #[.slice none 0 0, .slice none 0 0, .slice none 0 0, .slice none 0 0, .slice none 0 0, .slice none 0 0, .int .i64 0] 65 (0, 0))
section
variable {W0 w w1 : World} {nj n : Nat} {l1 l2 l3 l4 : List Int} {v1 v2 v3 v4 : Option (Option Addr × Nat)} {bn : Option Nat}
theorem Wi.step (h : Wi W0 w nj n l1 l2 l3 l4 v1 v2 v3 v4 bn) (hb : Below w.heap.size w w1) : Wi W0 w1 nj n l1 l2 l3 l4 v1 v2 v3 v4 bn :=
  ⟨below_step h.below hb, fun A c e => Kd.R_below (h.r1 A c e) hb, fun A c e => Kd.R_below (h.r2 A c e) hb, fun A c e => Kd.R_below (h.r3 A c e) hb, fun A c e => Kd.R_below (h.r4 A c e) hb, fun k e => ⟨(h.nb k e).1, blk_below (h.nb k e).2 hb⟩⟩
theorem Wi.fresh (h : Wi W0 w nj n l1 l2 l3 l4 v1 v2 v3 v4 bn) {A : Option Addr} {m c : Nat} {l : List Int} (hr : Kd.R (Kd.int .i64) 3 w1 w.heap.size (fun _ => True) (.slice A m c) l) : RowB w1 W0.heap.size bn A m c l :=
  Kd.R_lower (Kd.R_mono (Kd.R_bound hr) (fun k hk e => by
    have := blk_lt (h.nb k e).2
    omega)) h.below.size
theorem Wi.s1 (h : Wi W0 w nj n l1 l2 l3 l4 none v2 v3 v4 bn) (hb : Below w.heap.size w w1) {A : Option Addr} {c : Nat} (hr : Kd.R (Kd.int .i64) 3 w1 w.heap.size (fun _ => True) (.slice A nj c) l1) : Wi W0 w1 nj n l1 l2 l3 l4 (some (A, c)) v2 v3 v4 bn :=
  ⟨(h.step hb).below, fun A c e => (by cases e; exact h.fresh hr), (h.step hb).r2, (h.step hb).r3, (h.step hb).r4, (h.step hb).nb⟩
theorem Wi.s2 (h : Wi W0 w nj n l1 l2 l3 l4 v1 none v3 v4 bn) (hb : Below w.heap.size w w1) {A : Option Addr} {c : Nat} (hr : Kd.R (Kd.int .i64) 3 w1 w.heap.size (fun _ => True) (.slice A nj c) l2) : Wi W0 w1 nj n l1 l2 l3 l4 v1 (some (A, c)) v3 v4 bn :=
  ⟨(h.step hb).below, (h.step hb).r1, fun A c e => (by cases e; exact h.fresh hr), (h.step hb).r3, (h.step hb).r4, (h.step hb).nb⟩
theorem Wi.s3 (h : Wi W0 w nj n l1 l2 l3 l4 v1 v2 none v4 bn) (hb : Below w.heap.size w w1) {A : Option Addr} {c : Nat} (hr : Kd.R (Kd.int .i64) 3 w1 w.heap.size (fun _ => True) (.slice A 4 c) l3) : Wi W0 w1 nj n l1 l2 l3 l4 v1 v2 (some (A, c)) v4 bn :=
  ⟨(h.step hb).below, (h.step hb).r1, (h.step hb).r2, fun A c e => (by cases e; exact h.fresh hr), (h.step hb).r4, (h.step hb).nb⟩
theorem Wi.s4 (h : Wi W0 w nj n l1 l2 l3 l4 v1 v2 v3 none bn) (hb : Below w.heap.size w w1) {A : Option Addr} {c : Nat} (hr : Kd.R (Kd.int .i64) 3 w1 w.heap.size (fun _ => True) (.slice A n c) l4) : Wi W0 w1 nj n l1 l2 l3 l4 v1 v2 v3 (some (A, c)) bn :=
  ⟨(h.step hb).below, (h.step hb).r1, (h.step hb).r2, (h.step hb).r3, fun A c e => (by cases e; exact h.fresh hr), (h.step hb).nb⟩
theorem RowB.new {B m c : Nat} {A : Option Addr} {l : List Int} (h : RowB w B none A m c l) (o : Obj) : RowB (w.alloc o) B (some w.heap.size) A m c l :=
  Kd.R_below (Kd.R_mono (Kd.R_bound h) (fun k hk e => by
    have := Option.some.inj e
    omega)) (below_alloc (Below.refl _ _) o)
theorem Wi.s5 (h : Wi W0 w nj n l1 l2 l3 l4 v1 v2 v3 v4 none) : Wi W0 (w.alloc (Obj.cells #[.slice none 0 0, .slice none 0 0, .slice none 0 0, .slice none 0 0, .slice none 0 0, .slice none 0 0, .int .i64 0] 65)) nj n l1 l2 l3 l4 v1 v2 v3 v4 (some w.heap.size) :=
  ⟨below_alloc h.below _, fun A c e => RowB.new (h.r1 A c e) _, fun A c e => RowB.new (h.r2 A c e) _, fun A c e => RowB.new (h.r3 A c e) _, fun A c e => RowB.new (h.r4 A c e) _, fun k e => (by cases e; exact ⟨h.below.size, blk_new w _⟩)⟩
theorem RowB.row {B m c k : Nat} {A : Option Addr} {l : List Int} (h : RowB w B (some k) A m c l) (cs : Array Value) : RowN (w.setRow k cs) A m c l := by
  have h2 := Kd.R_step (w1 := w.setRow k cs) h (fun j hj _ => setRow_other w k j cs (fun e => hj (by rw [e])))
  exact RowN.of_R h2
end
def S12 (b0 bx : Nat) (At Af As : Option Addr) (ad aj am : Addr) (n nj ct cf cd cj cm cs i k mc : Nat) (en tm : Int) (w : World) : Prop :=
  w.cell? ⟨b0, 0, none⟩ = some (.slice At n ct) ∧ w.cell? ⟨b0, 1, none⟩ = some (.slice Af nj cf) ∧ w.cell? ⟨b0, 2, none⟩ = some (.slice (some ad) nj cd) ∧ w.cell? ⟨b0, 3, none⟩ = some (.slice (some aj) nj cj) ∧ w.cell? ⟨b0, 4, none⟩ = some (.slice (some am) 4 cm) ∧ w.cell? ⟨b0, 5, none⟩ = some (.slice As n cs) ∧ w.cell? ⟨b0, 6, none⟩ = some (.int .i64 en) ∧ w.cell? (ad.add i) = some (.int .i64 (k : Int)) ∧ w.cell? ⟨bx, 0, none⟩ = some (.int .i64 (mc : Int)) ∧ w.cell? ⟨bx, 1, none⟩ = some (.int .i64 tm)
theorem S12.below_ {b0 bx : Nat} {At Af As : Option Addr} {ad aj am : Addr} {n nj ct cf cd cj cm cs i k mc : Nat} {en tm : Int} {w w1 : World} (h : S12 b0 bx At Af As ad aj am n nj ct cf cd cj cm cs i k mc en tm w) (hb : Below w.heap.size w w1) : S12 b0 bx At Af As ad aj am n nj ct cf cd cj cm cs i k mc en tm w1 := by
  obtain ⟨h0, h1, h2, h3, h4, h5, h6, h7, h8, h9⟩ := h
  exact ⟨pw_cell_below hb h0, pw_cell_below hb h1, pw_cell_below hb h2, pw_cell_below hb h3, pw_cell_below hb h4, pw_cell_below hb h5, pw_cell_below hb h6, pw_cell_below hb h7, pw_cell_below hb h8, pw_cell_below hb h9⟩
theorem swap_set {xs : Array Value} {i j : Nat} {a b : Value} (h : i ≠ j) : (xs.setIfInBounds i a).setIfInBounds j b = (xs.setIfInBounds j b).setIfInBounds i a := Array.setIfInBounds_comm a b h
theorem sw82 {xs : Array Value} {a b : Value} : (xs.setIfInBounds 12 a).setIfInBounds 82 b = (xs.setIfInBounds 82 b).setIfInBounds 12 a := swap_set (by decide)
theorem sw90 {xs : Array Value} {a b : Value} : (xs.setIfInBounds 12 a).setIfInBounds 90 b = (xs.setIfInBounds 90 b).setIfInBounds 12 a := swap_set (by decide)
theorem sw99 {xs : Array Value} {a b : Value} : (xs.setIfInBounds 12 a).setIfInBounds 99 b = (xs.setIfInBounds 99 b).setIfInBounds 12 a := swap_set (by decide)
theorem sw104 {xs : Array Value} {a b : Value} : (xs.setIfInBounds 12 a).setIfInBounds 104 b = (xs.setIfInBounds 104 b).setIfInBounds 12 a := swap_set (by decide)
theorem sw112 {xs : Array Value} {a b : Value} : (xs.setIfInBounds 12 a).setIfInBounds 112 b = (xs.setIfInBounds 112 b).setIfInBounds 12 a := swap_set (by decide)
def sp12T : Bool × List (List Nat × List Nat) := (true, [([], []), ([0], [0]), ([], []), ([2], [2]), ([], []), ([4], [4]), ([], []), ([], []), ([7], [7]), ([], []), ([8, 9], [8, 9]), ([10], [10]), ([11], [11]), ([5, 6, 12], [5, 6, 12]), ([], []), ([14], [14]), ([], []), ([], []), ([], []), ([18], [18]), ([17, 19], [17, 19]), ([15, 16, 20, 13], [15, 16, 20]), ([], []), ([22], [22]), ([], []), ([24], [24]), ([], []), ([], []), ([27], [27]), ([26, 28], [26, 28]), ([23, 25, 29, 21], [23, 25, 29]), ([], []), ([31], [31]), ([], []), ([], []), ([32, 33, 34, 30], [32, 33, 34]), ([], []), ([36], [36]), ([], []), ([], []), ([39], [39]), ([38, 40], [38, 40]), ([37, 41], [37, 41]), ([1, 3, 13, 21, 30, 35, 42], [1, 3, 13, 21, 30, 35, 42]), ([], []), ([44, 43, 35, 0, 1, 2, 3, 4, 5, 6, 7, 8, 9, 10, 11, 12, 13, 14, 15, 16, 17, 18, 19, 20, 21, 22, 23, 24, 25, 26, 27, 28, 29, 30, 31, 32, 33, 34, 35, 36, 37, 38, 39, 40, 41, 42, 43, 44], [43, 44])])
def sp12B : List Nat := [0, 1, 0, 4, 0, 16, 0, 0, 128, 0, 896, 1920, 3968, 8176, 0, 16384, 0, 0, 0, 262144, 917504, 2097136, 0, 4194304, 0, 16777216, 0, 0, 134217728, 469762048, 1073741808, 0, 2147483648, 0, 0, 34359738352, 0, 68719476736, 0, 0, 549755813888, 1924145348608, 4329327034368, 8796093022207, 0, 35184372088831]
theorem sp12tab : rtab .any (opsOf Try.f34 12) = sp12T := by kernel_rfl
theorem sp12bits : waitsOk sp12T.2 sp12B = true := by kernel_rfl
set_option maxHeartbeats 4000000 in
set_option maxRecDepth 100000 in
theorem rs_r12 {Q : Exit → Act → World → Prop} (hp : QuietP Q) (a : Act) (W : World) (A0 : Option Addr) (c0 b0 b1 b2 bx : Nat) (wh : Bool) (At Af As : Option Addr) (ad aj am : Addr) (n nj ct cf cd cj cm cs i k mc p : Nat) (en tm s z : Int) (v12 : Value) (T : Ts a A0 nj c0 b0 b1 b2 wh i (.int .i64 (p : Int)) (.pointer (some ⟨bx, 0, none⟩)) (.int .i64 s) v12)
    (hi : (i : Int) < (nj : Int)) (hwk : wrap64 ((k : Int) + 1) = (k : Int) + 1) (hz : wrap64 (s + tm) = z) (l1 l2 l3 l4 : List Int) (q : S12 b0 bx At Af As ad aj am n nj ct cf cd cj cm cs i k mc en tm W)
    (hw1 : ∀ W', Below W.heap.size W W' → Calls Try.prog 54 #[.slice (some ad) nj cd, .int .i64 (i : Int), .int .i64 ((k : Int) + 1)] W' fun e w' => ∃ A c, e = .returned (.slice A nj c) ∧ Kd.R (Kd.int .i64) 3 w' W'.heap.size (fun _ => True) (.slice A nj c) l1 ∧ Below W'.heap.size W' w')
    (hw2 : ∀ W', Below W.heap.size W W' → Calls Try.prog 54 #[.slice (some aj) nj cj, .int .i64 (i : Int), .int .i64 z] W' fun e w' => ∃ A c, e = .returned (.slice A nj c) ∧ Kd.R (Kd.int .i64) 3 w' W'.heap.size (fun _ => True) (.slice A nj c) l2 ∧ Below W'.heap.size W' w')
    (hw3 : ∀ W', Below W.heap.size W W' → Calls Try.prog 54 #[.slice (some am) 4 cm, .int .i64 (mc : Int), .int .i64 z] W' fun e w' => ∃ A c, e = .returned (.slice A 4 c) ∧ Kd.R (Kd.int .i64) 3 w' W'.heap.size (fun _ => True) (.slice A 4 c) l3 ∧ Below W'.heap.size W' w')
    (hw4 : ∀ W', Below W.heap.size W W' → Calls Try.prog 54 #[.slice As n cs, .int .i64 (p : Int), .int .i64 s] W' fun e w' => ∃ A c, e = .returned (.slice A n c) ∧ Kd.R (Kd.int .i64) 3 w' W'.heap.size (fun _ => True) (.slice A n c) l4 ∧ Below W'.heap.size W' w')
    (hQ : ∀ a' W' bn A1 c1 A2 c2 A3 c3 A4 c4, Ts a' A0 nj c0 b0 b1 b2 wh i (.int .i64 (p : Int)) (.pointer (some ⟨bx, 0, none⟩)) (.int .i64 s) (.pointer (some ⟨bn, 0, none⟩)) → Below W.heap.size W W' → W.heap.size ≤ bn →
      W'.heap[bn]? = some (.cells #[.slice At n ct, .slice Af nj cf, .slice A1 nj c1, .slice A2 nj c2, .slice A3 4 c3, .slice A4 n c4, .int .i64 (mx en z)] 65 (0, 0)) → RowN W' A1 nj c1 l1 → RowN W' A2 nj c2 l2 → RowN W' A3 4 c3 l3 → RowN W' A4 n c4 l4 → Q .normal a' W') : (cR Try.f34 12).wp Try.prog Q a W := by
  conv => arg 2; whnf
  obtain ⟨sz, df, e1, e3, e5, e6, e7, e8, e9, e10, e11, e12⟩ := T
  have HQ := Aside0.mk hQ
  have H1 := Aside0.mk hw1
  have H2 := Aside0.mk hw2
  have H3 := Aside0.mk hw3
  have H4 := Aside0.mk hw4
  have QS := Aside0.mk (q.below_ (below_drew1 (Below.refl W.heap.size W)))
  have I65 := Aside0.mk (show (Try.prog.info? 65).map (·.size) = some 7 by kernel_rfl)
  have M0 := Aside0.mk (show Wi W W.drew nj n l1 l2 l3 l4 none none none none none from ⟨below_drew1 (Below.refl _ _), fun _ _ h => (by cases h), fun _ _ h => (by cases h), fun _ _ h => (by cases h), fun _ _ h => (by cases h), fun _ h => (by cases h)⟩)
  clear hQ hw1 hw2 hw3 hw4
  refine start_ (n := 46) (S := fun w' => w'.cell? ⟨b0, 0, none⟩ = some (.slice At n ct) ∧ w'.cell? ⟨b0, 1, none⟩ = some (.slice Af nj cf) ∧ w'.cell? ⟨b0, 2, none⟩ = some (.slice (some ad) nj cd) ∧ w'.cell? ⟨b0, 3, none⟩ = some (.slice (some aj) nj cj) ∧ w'.cell? ⟨b0, 4, none⟩ = some (.slice (some am) 4 cm) ∧ w'.cell? ⟨b0, 5, none⟩ = some (.slice As n cs) ∧ w'.cell? ⟨b0, 6, none⟩ = some (.int .i64 en) ∧ w'.cell? (ad.add i) = some (.int .i64 (k : Int)) ∧ w'.cell? ⟨bx, 0, none⟩ = some (.int .i64 (mc : Int)) ∧ w'.cell? ⟨bx, 1, none⟩ = some (.int .i64 tm)) (ds := [45]) #[false, false, false, false, false, false, false, false, false, false, false, false, false, false, false, false, false, false, false, false, false, false, false, false, false, false, false, false, false, false, false, false, false, false, false, false, false, false, false, false, false, false, false, false, false, false] (by kernel_rfl) rfl rfl (q.below_ (below_drew1 (Below.refl W.heap.size W))) (fun hHeld => ?_)
  refine with_tabW sp12tab sp12bits (fun HT_ HW_ => ?_)
  have HW := Aside0.mk (show W.drew.heap.size = W.heap.size from rfl)
  have QS := Aside0.mk q
  clear q
  obtain ⟨T0, eT0⟩ : ∃ T0, T0 = M0 := ⟨_, rfl⟩
  clear eT0 M0
  generalize W.drew = W0 at T0 HW hHeld ⊢
  refine pure_ (i := 0) (N := some 69) (v := ?_) (a' := ?_) (qd 46 1) rfl rfl (any_of HT_.out (by kernel_rfl)) (fun c a1 w1 h => hp c _ _ _ (by rfl) h) (Or.inl ⟨by rfl, ?_⟩) ?_ ?_
  rotate_left
  · intro w'
    go_simp
    with_reducible rfl
  rotate_left
  · simp only [Act.put, qa, qb, qc, i64_w, i32_w]
    rfl
  refine pure_ (i := 2) (N := some 71) (v := ?_) (a' := ?_) (qd 46 5) rfl rfl (any_of HT_.out (by kernel_rfl)) (fun c a1 w1 h => hp c _ _ _ (by rfl) h) (Or.inl ⟨by rfl, ?_⟩) ?_ ?_
  rotate_left
  · intro w'
    go_simp
    with_reducible rfl
  rotate_left
  · simp only [Act.put, qa, qb, qc, i64_w, i32_w]
    rfl
  refine pure_ (i := 4) (N := some 73) (v := ?_) (a' := ?_) (qd 46 21) rfl rfl (any_of HT_.out (by kernel_rfl)) (fun c a1 w1 h => hp c _ _ _ (by rfl) h) (Or.inl ⟨by rfl, ?_⟩) ?_ ?_
  rotate_left
  · intro w'
    go_simp
    with_reducible rfl
  rotate_left
  · simp only [Act.put, qa, qb, qc, i64_w, i32_w]
    rfl
  refine pure_ (i := 6) (N := some 75) (v := ?_) (a' := ?_) (qd 46 85) rfl rfl (any_of HT_.out (by kernel_rfl)) (fun c a1 w1 h => hp c _ _ _ (by rfl) h) (Or.inl ⟨by rfl, ?_⟩) ?_ ?_
  rotate_left
  · intro w'
    go_simp
    with_reducible rfl
  rotate_left
  · simp only [Act.put, qa, qb, qc, i64_w, i32_w]
    rfl
  refine pure_ (i := 7) (N := some 76) (v := ?_) (a' := ?_) (qd 46 213) rfl rfl (any_of HT_.out (by kernel_rfl)) (fun c a1 w1 h => hp c _ _ _ (by rfl) h) (Or.inl ⟨by rfl, ?_⟩) ?_ ?_
  rotate_left
  · intro w'
    go_simp
    with_reducible rfl
  rotate_left
  · simp only [Act.put, qa, qb, qc, i64_w, i32_w]
    rfl
  refine pure_ (i := 9) (N := some 78) (v := ?_) (a' := ?_) (qd 46 725) rfl rfl (any_of HT_.out (by kernel_rfl)) (fun c a1 w1 h => hp c _ _ _ (by rfl) h) (Or.inl ⟨by rfl, ?_⟩) ?_ ?_
  rotate_left
  · intro w'
    go_simp
    with_reducible rfl
  rotate_left
  · simp only [Act.put, qa, qb, qc, i64_w, i32_w]
    rfl
  refine pure_ (i := 14) (N := some 83) (v := ?_) (a' := ?_) (qd 46 17109) rfl rfl (any_of HT_.out (by kernel_rfl)) (fun c a1 w1 h => hp c _ _ _ (by rfl) h) (Or.inl ⟨by rfl, ?_⟩) ?_ ?_
  rotate_left
  · intro w'
    go_simp
    with_reducible rfl
  rotate_left
  · simp only [Act.put, qa, qb, qc, i64_w, i32_w]
    rfl
  refine pure_ (i := 16) (N := some 85) (v := ?_) (a' := ?_) (qd 46 82645) rfl rfl (any_of HT_.out (by kernel_rfl)) (fun c a1 w1 h => hp c _ _ _ (by rfl) h) (Or.inl ⟨by rfl, ?_⟩) ?_ ?_
  rotate_left
  · intro w'
    go_simp
    with_reducible rfl
  rotate_left
  · simp only [Act.put, qa, qb, qc, i64_w, i32_w]
    rfl
  refine pure_ (i := 17) (N := some 86) (v := ?_) (a' := ?_) (qd 46 213717) rfl rfl (any_of HT_.out (by kernel_rfl)) (fun c a1 w1 h => hp c _ _ _ (by rfl) h) (Or.inl ⟨by rfl, ?_⟩) ?_ ?_
  rotate_left
  · intro w'
    go_simp
    with_reducible rfl
  rotate_left
  · simp only [Act.put, qa, qb, qc, i64_w, i32_w]
    rfl
  refine pure_ (i := 18) (N := some 87) (v := ?_) (a' := ?_) (qd 46 475861) rfl rfl (any_of HT_.out (by kernel_rfl)) (fun c a1 w1 h => hp c _ _ _ (by rfl) h) (Or.inl ⟨by rfl, ?_⟩) ?_ ?_
  rotate_left
  · intro w'
    go_simp
    with_reducible rfl
  rotate_left
  · simp only [Act.put, qa, qb, qc, i64_w, i32_w]
    rfl
  refine pure_ (i := 22) (N := some 91) (v := ?_) (a' := ?_) (qd 46 4670165) rfl rfl (any_of HT_.out (by kernel_rfl)) (fun c a1 w1 h => hp c _ _ _ (by rfl) h) (Or.inl ⟨by rfl, ?_⟩) ?_ ?_
  rotate_left
  · intro w'
    go_simp
    with_reducible rfl
  rotate_left
  · simp only [Act.put, qa, qb, qc, i64_w, i32_w]
    rfl
  refine pure_ (i := 24) (N := some 93) (v := ?_) (a' := ?_) (qd 46 21447381) rfl rfl (any_of HT_.out (by kernel_rfl)) (fun c a1 w1 h => hp c _ _ _ (by rfl) h) (Or.inl ⟨by rfl, ?_⟩) ?_ ?_
  rotate_left
  · intro w'
    go_simp
    with_reducible rfl
  rotate_left
  · simp only [Act.put, qa, qb, qc, i64_w, i32_w]
    rfl
  refine pure_ (i := 26) (N := some 95) (v := ?_) (a' := ?_) (qd 46 88556245) rfl rfl (any_of HT_.out (by kernel_rfl)) (fun c a1 w1 h => hp c _ _ _ (by rfl) h) (Or.inl ⟨by rfl, ?_⟩) ?_ ?_
  rotate_left
  · intro w'
    go_simp
    with_reducible rfl
  rotate_left
  · simp only [Act.put, qa, qb, qc, i64_w, i32_w]
    rfl
  refine pure_ (i := 27) (N := some 96) (v := ?_) (a' := ?_) (qd 46 222773973) rfl rfl (any_of HT_.out (by kernel_rfl)) (fun c a1 w1 h => hp c _ _ _ (by rfl) h) (Or.inl ⟨by rfl, ?_⟩) ?_ ?_
  rotate_left
  · intro w'
    go_simp
    with_reducible rfl
  rotate_left
  · simp only [Act.put, qa, qb, qc, i64_w, i32_w]
    rfl
  refine pure_ (i := 31) (N := some 100) (v := ?_) (a' := ?_) (qd 46 2370257621) rfl rfl (any_of HT_.out (by kernel_rfl)) (fun c a1 w1 h => hp c _ _ _ (by rfl) h) (Or.inl ⟨by rfl, ?_⟩) ?_ ?_
  rotate_left
  · intro w'
    go_simp
    with_reducible rfl
  rotate_left
  · simp only [Act.put, qa, qb, qc, i64_w, i32_w]
    rfl
  refine pure_ (i := 33) (N := some 102) (v := ?_) (a' := ?_) (qd 46 10960192213) rfl rfl (any_of HT_.out (by kernel_rfl)) (fun c a1 w1 h => hp c _ _ _ (by rfl) h) (Or.inl ⟨by rfl, ?_⟩) ?_ ?_
  rotate_left
  · intro w'
    go_simp
    with_reducible rfl
  rotate_left
  · simp only [Act.put, qa, qb, qc, i64_w, i32_w]
    rfl
  refine pure_ (i := 34) (N := some 103) (v := ?_) (a' := ?_) (qd 46 28140061397) rfl rfl (any_of HT_.out (by kernel_rfl)) (fun c a1 w1 h => hp c _ _ _ (by rfl) h) (Or.inl ⟨by rfl, ?_⟩) ?_ ?_
  rotate_left
  · intro w'
    go_simp
    with_reducible rfl
  rotate_left
  · simp only [Act.put, qa, qb, qc, i64_w, i32_w]
    rfl
  refine pure_ (i := 36) (N := some 105) (v := ?_) (a' := ?_) (qd 46 96859538133) rfl rfl (any_of HT_.out (by kernel_rfl)) (fun c a1 w1 h => hp c _ _ _ (by rfl) h) (Or.inl ⟨by rfl, ?_⟩) ?_ ?_
  rotate_left
  · intro w'
    go_simp
    with_reducible rfl
  rotate_left
  · simp only [Act.put, qa, qb, qc, i64_w, i32_w]
    rfl
  refine pure_ (i := 38) (N := some 107) (v := ?_) (a' := ?_) (qd 46 371737445077) rfl rfl (any_of HT_.out (by kernel_rfl)) (fun c a1 w1 h => hp c _ _ _ (by rfl) h) (Or.inl ⟨by rfl, ?_⟩) ?_ ?_
  rotate_left
  · intro w'
    go_simp
    with_reducible rfl
  rotate_left
  · simp only [Act.put, qa, qb, qc, i64_w, i32_w]
    rfl
  refine pure_ (i := 39) (N := some 108) (v := ?_) (a' := ?_) (qd 46 921493258965) rfl rfl (any_of HT_.out (by kernel_rfl)) (fun c a1 w1 h => hp c _ _ _ (by rfl) h) (Or.inl ⟨by rfl, ?_⟩) ?_ ?_
  rotate_left
  · intro w'
    go_simp
    with_reducible rfl
  rotate_left
  · simp only [Act.put, qa, qb, qc, i64_w, i32_w]
    rfl
  refine take_ (i := 1) (N := some 70) (v := ?_) (a' := ?_) (qd 46 921493258967) rfl rfl (take_ofW HT_.out HW_.out (by kernel_rfl)) (fun c a1 w1 h => hp c _ _ _ (by rfl) h) (Or.inl ⟨by rfl, ?_⟩) hHeld ?_ ?_
  rotate_left
  · rintro w' ⟨s0, s1, s2, s3, s4, s5, s6, s7, s8, s9⟩
    go_simp
    with_reducible rfl
  rotate_left
  · simp only [Act.put, qa, qb, qc, i64_w, i32_w]
    rfl
  refine take_ (i := 3) (N := some 72) (v := ?_) (a' := ?_) (qd 46 921493258975) rfl rfl (take_ofW HT_.out HW_.out (by kernel_rfl)) (fun c a1 w1 h => hp c _ _ _ (by rfl) h) (Or.inl ⟨by rfl, ?_⟩) hHeld ?_ ?_
  rotate_left
  · rintro w' ⟨s0, s1, s2, s3, s4, s5, s6, s7, s8, s9⟩
    go_simp
    with_reducible rfl
  rotate_left
  · simp only [Act.put, qa, qb, qc, i64_w, i32_w]
    rfl
  refine take_ (i := 5) (N := some 74) (v := ?_) (a' := ?_) (qd 46 921493259007) rfl rfl (take_ofW HT_.out HW_.out (by kernel_rfl)) (fun c a1 w1 h => hp c _ _ _ (by rfl) h) (Or.inl ⟨by rfl, ?_⟩) hHeld ?_ ?_
  rotate_left
  · rintro w' ⟨s0, s1, s2, s3, s4, s5, s6, s7, s8, s9⟩
    go_simp
    with_reducible rfl
  rotate_left
  · simp only [Act.put, qa, qb, qc, i64_w, i32_w]
    rfl
  refine take_ (i := 8) (N := some 77) (v := ?_) (a' := ?_) (qd 46 921493259263) rfl rfl (take_ofW HT_.out HW_.out (by kernel_rfl)) (fun c a1 w1 h => hp c _ _ _ (by rfl) h) (Or.inl ⟨by rfl, ?_⟩) hHeld ?_ ?_
  rotate_left
  · rintro w' ⟨s0, s1, s2, s3, s4, s5, s6, s7, s8, s9⟩
    go_simp
    with_reducible rfl
  rotate_left
  · simp only [Act.put, qa, qb, qc, i64_w, i32_w]
    rfl
  refine pure_ (i := 10) (N := some 79) (v := ?_) (a' := ?_) (qd 46 921493260287) rfl rfl (any_of HT_.out (by kernel_rfl)) (fun c a1 w1 h => hp c _ _ _ (by rfl) h) (Or.inl ⟨by rfl, ?_⟩) ?_ ?_
  rotate_left
  · intro w'
    go_simp
    with_reducible rfl
  rotate_left
  · simp only [Act.put, qa, qb, qc, i64_w, i32_w]
    rfl
  refine take_ (i := 11) (N := some 80) (v := ?_) (a' := ?_) (qd 46 921493262335) rfl rfl (take_ofW HT_.out HW_.out (by kernel_rfl)) (fun c a1 w1 h => hp c _ _ _ (by rfl) h) (Or.inl ⟨by rfl, ?_⟩) hHeld ?_ ?_
  rotate_left
  · rintro w' ⟨s0, s1, s2, s3, s4, s5, s6, s7, s8, s9⟩
    go_simp
    with_reducible rfl
  rotate_left
  · simp only [Act.put, qa, qb, qc, i64_w, i32_w]
    rfl
  refine pure_ (i := 12) (N := some 81) (v := ?_) (a' := ?_) (qd 46 921493266431) rfl rfl (any_of HT_.out (by kernel_rfl)) (fun c a1 w1 h => hp c _ _ _ (by rfl) h) (Or.inl ⟨by rfl, ?_⟩) ?_ ?_
  rotate_left
  · intro w'
    go_simp
    with_reducible rfl
  rotate_left
  · simp only [Act.put, qa, qb, qc, i64_w, i32_w]
    rfl
  refine take_ (i := 15) (N := some 84) (v := ?_) (a' := ?_) (qd 46 921493299199) rfl rfl (take_ofW HT_.out HW_.out (by kernel_rfl)) (fun c a1 w1 h => hp c _ _ _ (by rfl) h) (Or.inl ⟨by rfl, ?_⟩) hHeld ?_ ?_
  rotate_left
  · rintro w' ⟨s0, s1, s2, s3, s4, s5, s6, s7, s8, s9⟩
    go_simp
    with_reducible rfl
  rotate_left
  · simp only [Act.put, qa, qb, qc, i64_w, i32_w]
    rfl
  refine take_ (i := 19) (N := some 88) (v := ?_) (a' := ?_) (qd 46 921493823487) rfl rfl (take_ofW HT_.out HW_.out (by kernel_rfl)) (fun c a1 w1 h => hp c _ _ _ (by rfl) h) (Or.inl ⟨by rfl, ?_⟩) hHeld ?_ ?_
  rotate_left
  · rintro w' ⟨s0, s1, s2, s3, s4, s5, s6, s7, s8, s9⟩
    go_simp
    with_reducible rfl
  rotate_left
  · simp only [Act.put, qa, qb, qc, i64_w, i32_w]
    rfl
  refine pure_ (i := 20) (N := some 89) (v := ?_) (a' := ?_) (qd 46 921494872063) rfl rfl (any_of HT_.out (by kernel_rfl)) (fun c a1 w1 h => hp c _ _ _ (by rfl) h) (Or.inl ⟨by rfl, ?_⟩) ?_ ?_
  rotate_left
  · intro w'
    go_simp
    with_reducible rfl
  rotate_left
  · simp only [Act.put, qa, qb, qc, i64_w, i32_w]
    rfl
  refine take_ (i := 23) (N := some 92) (v := ?_) (a' := ?_) (qd 46 921503260671) rfl rfl (take_ofW HT_.out HW_.out (by kernel_rfl)) (fun c a1 w1 h => hp c _ _ _ (by rfl) h) (Or.inl ⟨by rfl, ?_⟩) hHeld ?_ ?_
  rotate_left
  · rintro w' ⟨s0, s1, s2, s3, s4, s5, s6, s7, s8, s9⟩
    go_simp
    with_reducible rfl
  rotate_left
  · simp only [Act.put, qa, qb, qc, i64_w, i32_w]
    rfl
  refine take_ (i := 25) (N := some 94) (v := ?_) (a' := ?_) (qd 46 921536815103) rfl rfl (take_ofW HT_.out HW_.out (by kernel_rfl)) (fun c a1 w1 h => hp c _ _ _ (by rfl) h) (Or.inl ⟨by rfl, ?_⟩) hHeld ?_ ?_
  rotate_left
  · rintro w' ⟨s0, s1, s2, s3, s4, s5, s6, s7, s8, s9⟩
    go_simp
    with_reducible rfl
  rotate_left
  · simp only [Act.put, qa, qb, qc, i64_w, i32_w]
    rfl
  refine take_ (i := 28) (N := some 97) (v := ?_) (a' := ?_) (qd 46 921805250559) rfl rfl (take_ofW HT_.out HW_.out (by kernel_rfl)) (fun c a1 w1 h => hp c _ _ _ (by rfl) h) (Or.inl ⟨by rfl, ?_⟩) hHeld ?_ ?_
  rotate_left
  · rintro w' ⟨s0, s1, s2, s3, s4, s5, s6, s7, s8, s9⟩
    go_simp
    with_reducible rfl
  rotate_left
  · simp only [Act.put, qa, qb, qc, i64_w, i32_w]
    rfl
  refine pure_ (i := 29) (N := some 98) (v := ?_) (a' := ?_) (qd 46 922342121471) rfl rfl (any_of HT_.out (by kernel_rfl)) (fun c a1 w1 h => hp c _ _ _ (by rfl) h) (Or.inl ⟨by rfl, ?_⟩) ?_ ?_
  rotate_left
  · intro w'
    go_simp
    with_reducible rfl
  rotate_left
  · simp only [Act.put, qa, qb, qc, i64_w, i32_w]
    rfl
  refine take_ (i := 32) (N := some 101) (v := ?_) (a' := ?_) (qd 46 926637088767) rfl rfl (take_ofW HT_.out HW_.out (by kernel_rfl)) (fun c a1 w1 h => hp c _ _ _ (by rfl) h) (Or.inl ⟨by rfl, ?_⟩) hHeld ?_ ?_
  rotate_left
  · rintro w' ⟨s0, s1, s2, s3, s4, s5, s6, s7, s8, s9⟩
    go_simp
    with_reducible rfl
  rotate_left
  · simp only [Act.put, qa, qb, qc, i64_w, i32_w]
    rfl
  refine take_ (i := 37) (N := some 106) (v := ?_) (a' := ?_) (qd 46 1064076042239) rfl rfl (take_ofW HT_.out HW_.out (by kernel_rfl)) (fun c a1 w1 h => hp c _ _ _ (by rfl) h) (Or.inl ⟨by rfl, ?_⟩) hHeld ?_ ?_
  rotate_left
  · rintro w' ⟨s0, s1, s2, s3, s4, s5, s6, s7, s8, s9⟩
    go_simp
    with_reducible rfl
  rotate_left
  · simp only [Act.put, qa, qb, qc, i64_w, i32_w]
    rfl
  refine take_ (i := 40) (N := some 109) (v := ?_) (a' := ?_) (qd 46 2163587670015) rfl rfl (take_ofW HT_.out HW_.out (by kernel_rfl)) (fun c a1 w1 h => hp c _ _ _ (by rfl) h) (Or.inl ⟨by rfl, ?_⟩) hHeld ?_ ?_
  rotate_left
  · rintro w' ⟨s0, s1, s2, s3, s4, s5, s6, s7, s8, s9⟩
    go_simp
    with_reducible rfl
  rotate_left
  · simp only [Act.put, qa, qb, qc, i64_w, i32_w]
    rfl
  refine pure_ (i := 41) (N := some 110) (v := ?_) (a' := ?_) (qd 46 4362610925567) rfl rfl (any_of HT_.out (by kernel_rfl)) (fun c a1 w1 h => hp c _ _ _ (by rfl) h) (Or.inl ⟨by rfl, ?_⟩) ?_ ?_
  rotate_left
  · intro w'
    go_simp
    with_reducible rfl
  rotate_left
  · simp only [Act.put, qa, qb, qc, i64_w, i32_w]
    rfl
  refine pure_ (i := 42) (N := some 111) (v := ?_) (a' := ?_) (qd 46 8760657436671) rfl rfl (any_of HT_.out (by kernel_rfl)) (fun c a1 w1 h => hp c _ _ _ (by rfl) h) (Or.inl ⟨by rfl, ?_⟩) ?_ ?_
  rotate_left
  · intro w'
    go_simp
    with_reducible rfl
  rotate_left
  · simp only [Act.put, qa, qb, qc, i64_w, i32_w]
    rfl
  refine join_ (σ := (Option Addr × Nat) × (Option Addr × Nat) × (Option Addr × Nat) × (Option Addr × Nat) × Nat) 1 (qd 46 35184372088831) (fun s => [(82, .slice s.1.1 nj s.1.2), (90, .slice s.2.1.1 nj s.2.1.2), (99, .slice s.2.2.1.1 4 s.2.2.1.2), (104, .slice s.2.2.2.1.1 n s.2.2.2.1.2), (112, .agg #[.slice At n ct, .slice Af nj cf, .slice s.1.1 nj s.1.2, .slice s.2.1.1 nj s.2.1.2, .slice s.2.2.1.1 4 s.2.2.1.2, .slice s.2.2.2.1.1 n s.2.2.2.1.2, .int .i64 (mx en z)]), (12, .pointer (some ⟨s.2.2.2.2, 0, none⟩))]) (fun s w' => Wi W w' nj n l1 l2 l3 l4 (some s.1) (some s.2.1) (some s.2.2.1) (some s.2.2.2.1) (some s.2.2.2.2)) (fun s w2 hF => ?_) (fun hcont => ?_)
  rotate_left
  · refine two_ (i := 13) (j := 44) (Ni := some 82) (Nj := some 12) (qd 46 8760657444863) (qd 46 26352843481087) rfl rfl rfl rfl (by kernel_rfl) (by decide) (by decide) (fun K hK => ?_) (fun K hK => ?_)
    · with_reducible refine goes_ (f := 54) (fn := Try.f54) (as0 := #[.tmp 74, .tmp 75, .tmp 81]) (ts := #[26, 3, 3]) ?q1 ?q2 ?q3 #[.slice (some ad) nj cd, .int .i64 (i : Int), .int .i64 ((k : Int) + 1)] ?q4 ?q5 ?q6 ?q7 ?q8
      (case q1 => exact Try.func54)
      (case q2 => kernel_rfl)
      (case q3 => kernel_rfl)
      (case q4 => rfl)
      (case q5 => rfl)
      (case q6 => rfl)
      (case q7 => simp [Act.eval, sz, hwk, hz])
      case q8 =>
      refine (H1.out W0 T0.out.below).mono ?_
      rintro e W1 ⟨A13, c13, rfl, hr, hb⟩
      refine ⟨_, rfl, ?_⟩
      have T1 := Aside0.mk (T0.out.s1 hb hr)
      refine hK.out _ _ (QS.out.below_ T1.out.below) (fun hHeld => ?_)
      clear hK K hr hb
      simp only [Act.put]
      refine two_ (i := 21) (j := 44) (Ni := some 90) (Nj := some 12) (qd 46 8760659542015) (qd 46 26352843489279) rfl rfl rfl rfl (by kernel_rfl) (by decide) (by decide) (fun K hK => ?_) (fun K hK => ?_)
      · with_reducible refine goes_ (f := 54) (fn := Try.f54) (as0 := #[.tmp 84, .tmp 85, .tmp 89]) (ts := #[26, 3, 3]) ?q1 ?q2 ?q3 #[.slice (some aj) nj cj, .int .i64 (i : Int), .int .i64 z] ?q4 ?q5 ?q6 ?q7 ?q8
        (case q1 => exact Try.func54)
        (case q2 => kernel_rfl)
        (case q3 => kernel_rfl)
        (case q4 => rfl)
        (case q5 => rfl)
        (case q6 => rfl)
        (case q7 => simp [Act.eval, sz, hwk, hz])
        case q8 =>
        refine (H2.out W1 T1.out.below).mono ?_
        rintro e W2 ⟨A21, c21, rfl, hr, hb⟩
        refine ⟨_, rfl, ?_⟩
        have T2 := Aside0.mk (T1.out.s2 hb hr)
        refine hK.out _ _ (QS.out.below_ T2.out.below) (fun hHeld => ?_)
        clear hK K hr hb
        simp only [Act.put]
        refine two_ (i := 30) (j := 44) (Ni := some 99) (Nj := some 12) (qd 46 8761733283839) (qd 46 26352845586431) rfl rfl rfl rfl (by kernel_rfl) (by decide) (by decide) (fun K hK => ?_) (fun K hK => ?_)
        · with_reducible refine goes_ (f := 54) (fn := Try.f54) (as0 := #[.tmp 92, .tmp 94, .tmp 98]) (ts := #[26, 3, 3]) ?q1 ?q2 ?q3 #[.slice (some am) 4 cm, .int .i64 (mc : Int), .int .i64 z] ?q4 ?q5 ?q6 ?q7 ?q8
          (case q1 => exact Try.func54)
          (case q2 => kernel_rfl)
          (case q3 => kernel_rfl)
          (case q4 => rfl)
          (case q5 => rfl)
          (case q6 => rfl)
          (case q7 => simp [Act.eval, sz, hwk, hz])
          case q8 =>
          refine (H3.out W2 T2.out.below).mono ?_
          rintro e W3 ⟨A30, c30, rfl, hr, hb⟩
          refine ⟨_, rfl, ?_⟩
          have T3 := Aside0.mk (T2.out.s3 hb hr)
          refine hK.out _ _ (QS.out.below_ T3.out.below) (fun hHeld => ?_)
          clear hK K hr hb
          simp only [Act.put]
          refine two_ (i := 35) (j := 44) (Ni := some 104) (Nj := some 12) (qd 46 8796093022207) (qd 46 26353919328255) rfl rfl rfl rfl (by kernel_rfl) (by decide) (by decide) (fun K hK => ?_) (fun K hK => ?_)
          · with_reducible refine goes_ (f := 54) (fn := Try.f54) (as0 := #[.tmp 101, .tmp 102, .tmp 103]) (ts := #[26, 3, 3]) ?q1 ?q2 ?q3 #[.slice As n cs, .int .i64 (p : Int), .int .i64 s] ?q4 ?q5 ?q6 ?q7 ?q8
            (case q1 => exact Try.func54)
            (case q2 => kernel_rfl)
            (case q3 => kernel_rfl)
            (case q4 => rfl)
            (case q5 => rfl)
            (case q6 => rfl)
            (case q7 => simp [Act.eval, sz, hwk, hz])
            case q8 =>
            refine (H4.out W3 T3.out.below).mono ?_
            rintro e W4 ⟨A35, c35, rfl, hr, hb⟩
            refine ⟨_, rfl, ?_⟩
            have T4 := Aside0.mk (T3.out.s4 hb hr)
            refine hK.out _ _ (QS.out.below_ T4.out.below) (fun hHeld => ?_)
            clear hK K hr hb
            simp only [Act.put]
            refine pure_ (i := 43) (N := some 112) (v := ?_) (a' := ?_) (qd 46 17592186044415) rfl rfl (any_of HT_.out (by kernel_rfl)) (fun c a1 w1 h => hp c _ _ _ (by rfl) h) (Or.inl ⟨by rfl, ?_⟩) ?_ ?_
            rotate_left
            · intro w'
              go_simp
              with_reducible rfl
            rotate_left
            · simp only [Act.put, qa, qb, qc, i64_w, i32_w]
              rfl
            refine one_ (i := 44) (N := some 12) (qd 46 35184372088831) rfl rfl (one_of HT_.out (by kernel_rfl)) (by decide) (fun K hK => ?_)
            refine value_ (v := .pointer (some ⟨W4.heap.size, 0, none⟩)) (w1 := W4.alloc (Obj.cells #[.slice none 0 0, .slice none 0 0, .slice none 0 0, .slice none 0 0, .slice none 0 0, .slice none 0 0, .int .i64 0] 65)) (by rfl) rfl (by go_simp) ?_
            have T5 := Aside0.mk T4.out.s5
            obtain ⟨k44, hk44⟩ : ∃ k, k = W4.heap.size := ⟨_, rfl⟩
            rw [← hk44] at T5 ⊢
            refine hK.out _ _ (QS.out.below_ T5.out.below) (fun hHeld => ?_)
            clear hK K hk44
            generalize W4.alloc (Obj.cells #[.slice none 0 0, .slice none 0 0, .slice none 0 0, .slice none 0 0, .slice none 0 0, .slice none 0 0, .int .i64 0] 65) = W5 at T5 hHeld ⊢
            simp only [Act.put]
            have hc := hcont ((A13, c13), (A21, c21), (A30, c30), (A35, c35), k44) _ T5.out
            simp only [putAll, Act.put] at hc ⊢
            (try simp only [sw82, sw90, sw99, sw104, sw112])
            exact hc
          · refine value_ (v := .pointer (some ⟨W3.heap.size, 0, none⟩)) (w1 := W3.alloc (Obj.cells #[.slice none 0 0, .slice none 0 0, .slice none 0 0, .slice none 0 0, .slice none 0 0, .slice none 0 0, .int .i64 0] 65)) (by rfl) rfl (by go_simp) ?_
            have T4 := Aside0.mk T3.out.s5
            obtain ⟨k44, hk44⟩ : ∃ k, k = W3.heap.size := ⟨_, rfl⟩
            rw [← hk44] at T4 ⊢
            refine hK.out _ _ (QS.out.below_ T4.out.below) (fun hHeld => ?_)
            clear hK K hk44
            generalize W3.alloc (Obj.cells #[.slice none 0 0, .slice none 0 0, .slice none 0 0, .slice none 0 0, .slice none 0 0, .slice none 0 0, .int .i64 0] 65) = W4 at T4 hHeld ⊢
            simp only [Act.put]
            refine one_ (i := 35) (N := some 104) (qd 46 26388279066623) rfl rfl (one_of HT_.out (by kernel_rfl)) (by decide) (fun K hK => ?_)
            with_reducible refine goes_ (f := 54) (fn := Try.f54) (as0 := #[.tmp 101, .tmp 102, .tmp 103]) (ts := #[26, 3, 3]) ?q1 ?q2 ?q3 #[.slice As n cs, .int .i64 (p : Int), .int .i64 s] ?q4 ?q5 ?q6 ?q7 ?q8
            (case q1 => exact Try.func54)
            (case q2 => kernel_rfl)
            (case q3 => kernel_rfl)
            (case q4 => rfl)
            (case q5 => rfl)
            (case q6 => rfl)
            (case q7 => simp [Act.eval, sz, hwk, hz])
            case q8 =>
            refine (H4.out W4 T4.out.below).mono ?_
            rintro e W5 ⟨A35, c35, rfl, hr, hb⟩
            refine ⟨_, rfl, ?_⟩
            have T5 := Aside0.mk (T4.out.s4 hb hr)
            refine hK.out _ _ (QS.out.below_ T5.out.below) (fun hHeld => ?_)
            clear hK K hr hb
            simp only [Act.put]
            refine pure_ (i := 43) (N := some 112) (v := ?_) (a' := ?_) (qd 46 35184372088831) rfl rfl (any_of HT_.out (by kernel_rfl)) (fun c a1 w1 h => hp c _ _ _ (by rfl) h) (Or.inl ⟨by rfl, ?_⟩) ?_ ?_
            rotate_left
            · intro w'
              go_simp
              with_reducible rfl
            rotate_left
            · simp only [Act.put, qa, qb, qc, i64_w, i32_w]
              rfl
            have hc := hcont ((A13, c13), (A21, c21), (A30, c30), (A35, c35), k44) _ T5.out
            simp only [putAll, Act.put] at hc ⊢
            (try simp only [sw82, sw90, sw99, sw104, sw112])
            exact hc
        · refine value_ (v := .pointer (some ⟨W2.heap.size, 0, none⟩)) (w1 := W2.alloc (Obj.cells #[.slice none 0 0, .slice none 0 0, .slice none 0 0, .slice none 0 0, .slice none 0 0, .slice none 0 0, .int .i64 0] 65)) (by rfl) rfl (by go_simp) ?_
          have T3 := Aside0.mk T2.out.s5
          obtain ⟨k44, hk44⟩ : ∃ k, k = W2.heap.size := ⟨_, rfl⟩
          rw [← hk44] at T3 ⊢
          refine hK.out _ _ (QS.out.below_ T3.out.below) (fun hHeld => ?_)
          clear hK K hk44
          generalize W2.alloc (Obj.cells #[.slice none 0 0, .slice none 0 0, .slice none 0 0, .slice none 0 0, .slice none 0 0, .slice none 0 0, .int .i64 0] 65) = W3 at T3 hHeld ⊢
          simp only [Act.put]
          refine one_ (i := 30) (N := some 99) (qd 46 26353919328255) rfl rfl (one_of HT_.out (by kernel_rfl)) (by decide) (fun K hK => ?_)
          with_reducible refine goes_ (f := 54) (fn := Try.f54) (as0 := #[.tmp 92, .tmp 94, .tmp 98]) (ts := #[26, 3, 3]) ?q1 ?q2 ?q3 #[.slice (some am) 4 cm, .int .i64 (mc : Int), .int .i64 z] ?q4 ?q5 ?q6 ?q7 ?q8
          (case q1 => exact Try.func54)
          (case q2 => kernel_rfl)
          (case q3 => kernel_rfl)
          (case q4 => rfl)
          (case q5 => rfl)
          (case q6 => rfl)
          (case q7 => simp [Act.eval, sz, hwk, hz])
          case q8 =>
          refine (H3.out W3 T3.out.below).mono ?_
          rintro e W4 ⟨A30, c30, rfl, hr, hb⟩
          refine ⟨_, rfl, ?_⟩
          have T4 := Aside0.mk (T3.out.s3 hb hr)
          refine hK.out _ _ (QS.out.below_ T4.out.below) (fun hHeld => ?_)
          clear hK K hr hb
          simp only [Act.put]
          refine one_ (i := 35) (N := some 104) (qd 46 26388279066623) rfl rfl (one_of HT_.out (by kernel_rfl)) (by decide) (fun K hK => ?_)
          with_reducible refine goes_ (f := 54) (fn := Try.f54) (as0 := #[.tmp 101, .tmp 102, .tmp 103]) (ts := #[26, 3, 3]) ?q1 ?q2 ?q3 #[.slice As n cs, .int .i64 (p : Int), .int .i64 s] ?q4 ?q5 ?q6 ?q7 ?q8
          (case q1 => exact Try.func54)
          (case q2 => kernel_rfl)
          (case q3 => kernel_rfl)
          (case q4 => rfl)
          (case q5 => rfl)
          (case q6 => rfl)
          (case q7 => simp [Act.eval, sz, hwk, hz])
          case q8 =>
          refine (H4.out W4 T4.out.below).mono ?_
          rintro e W5 ⟨A35, c35, rfl, hr, hb⟩
          refine ⟨_, rfl, ?_⟩
          have T5 := Aside0.mk (T4.out.s4 hb hr)
          refine hK.out _ _ (QS.out.below_ T5.out.below) (fun hHeld => ?_)
          clear hK K hr hb
          simp only [Act.put]
          refine pure_ (i := 43) (N := some 112) (v := ?_) (a' := ?_) (qd 46 35184372088831) rfl rfl (any_of HT_.out (by kernel_rfl)) (fun c a1 w1 h => hp c _ _ _ (by rfl) h) (Or.inl ⟨by rfl, ?_⟩) ?_ ?_
          rotate_left
          · intro w'
            go_simp
            with_reducible rfl
          rotate_left
          · simp only [Act.put, qa, qb, qc, i64_w, i32_w]
            rfl
          have hc := hcont ((A13, c13), (A21, c21), (A30, c30), (A35, c35), k44) _ T5.out
          simp only [putAll, Act.put] at hc ⊢
          (try simp only [sw82, sw90, sw99, sw104, sw112])
          exact hc
      · refine value_ (v := .pointer (some ⟨W1.heap.size, 0, none⟩)) (w1 := W1.alloc (Obj.cells #[.slice none 0 0, .slice none 0 0, .slice none 0 0, .slice none 0 0, .slice none 0 0, .slice none 0 0, .int .i64 0] 65)) (by rfl) rfl (by go_simp) ?_
        have T2 := Aside0.mk T1.out.s5
        obtain ⟨k44, hk44⟩ : ∃ k, k = W1.heap.size := ⟨_, rfl⟩
        rw [← hk44] at T2 ⊢
        refine hK.out _ _ (QS.out.below_ T2.out.below) (fun hHeld => ?_)
        clear hK K hk44
        generalize W1.alloc (Obj.cells #[.slice none 0 0, .slice none 0 0, .slice none 0 0, .slice none 0 0, .slice none 0 0, .slice none 0 0, .int .i64 0] 65) = W2 at T2 hHeld ⊢
        simp only [Act.put]
        refine one_ (i := 21) (N := some 90) (qd 46 26352845586431) rfl rfl (one_of HT_.out (by kernel_rfl)) (by decide) (fun K hK => ?_)
        with_reducible refine goes_ (f := 54) (fn := Try.f54) (as0 := #[.tmp 84, .tmp 85, .tmp 89]) (ts := #[26, 3, 3]) ?q1 ?q2 ?q3 #[.slice (some aj) nj cj, .int .i64 (i : Int), .int .i64 z] ?q4 ?q5 ?q6 ?q7 ?q8
        (case q1 => exact Try.func54)
        (case q2 => kernel_rfl)
        (case q3 => kernel_rfl)
        (case q4 => rfl)
        (case q5 => rfl)
        (case q6 => rfl)
        (case q7 => simp [Act.eval, sz, hwk, hz])
        case q8 =>
        refine (H2.out W2 T2.out.below).mono ?_
        rintro e W3 ⟨A21, c21, rfl, hr, hb⟩
        refine ⟨_, rfl, ?_⟩
        have T3 := Aside0.mk (T2.out.s2 hb hr)
        refine hK.out _ _ (QS.out.below_ T3.out.below) (fun hHeld => ?_)
        clear hK K hr hb
        simp only [Act.put]
        refine one_ (i := 30) (N := some 99) (qd 46 26353919328255) rfl rfl (one_of HT_.out (by kernel_rfl)) (by decide) (fun K hK => ?_)
        with_reducible refine goes_ (f := 54) (fn := Try.f54) (as0 := #[.tmp 92, .tmp 94, .tmp 98]) (ts := #[26, 3, 3]) ?q1 ?q2 ?q3 #[.slice (some am) 4 cm, .int .i64 (mc : Int), .int .i64 z] ?q4 ?q5 ?q6 ?q7 ?q8
        (case q1 => exact Try.func54)
        (case q2 => kernel_rfl)
        (case q3 => kernel_rfl)
        (case q4 => rfl)
        (case q5 => rfl)
        (case q6 => rfl)
        (case q7 => simp [Act.eval, sz, hwk, hz])
        case q8 =>
        refine (H3.out W3 T3.out.below).mono ?_
        rintro e W4 ⟨A30, c30, rfl, hr, hb⟩
        refine ⟨_, rfl, ?_⟩
        have T4 := Aside0.mk (T3.out.s3 hb hr)
        refine hK.out _ _ (QS.out.below_ T4.out.below) (fun hHeld => ?_)
        clear hK K hr hb
        simp only [Act.put]
        refine one_ (i := 35) (N := some 104) (qd 46 26388279066623) rfl rfl (one_of HT_.out (by kernel_rfl)) (by decide) (fun K hK => ?_)
        with_reducible refine goes_ (f := 54) (fn := Try.f54) (as0 := #[.tmp 101, .tmp 102, .tmp 103]) (ts := #[26, 3, 3]) ?q1 ?q2 ?q3 #[.slice As n cs, .int .i64 (p : Int), .int .i64 s] ?q4 ?q5 ?q6 ?q7 ?q8
        (case q1 => exact Try.func54)
        (case q2 => kernel_rfl)
        (case q3 => kernel_rfl)
        (case q4 => rfl)
        (case q5 => rfl)
        (case q6 => rfl)
        (case q7 => simp [Act.eval, sz, hwk, hz])
        case q8 =>
        refine (H4.out W4 T4.out.below).mono ?_
        rintro e W5 ⟨A35, c35, rfl, hr, hb⟩
        refine ⟨_, rfl, ?_⟩
        have T5 := Aside0.mk (T4.out.s4 hb hr)
        refine hK.out _ _ (QS.out.below_ T5.out.below) (fun hHeld => ?_)
        clear hK K hr hb
        simp only [Act.put]
        refine pure_ (i := 43) (N := some 112) (v := ?_) (a' := ?_) (qd 46 35184372088831) rfl rfl (any_of HT_.out (by kernel_rfl)) (fun c a1 w1 h => hp c _ _ _ (by rfl) h) (Or.inl ⟨by rfl, ?_⟩) ?_ ?_
        rotate_left
        · intro w'
          go_simp
          with_reducible rfl
        rotate_left
        · simp only [Act.put, qa, qb, qc, i64_w, i32_w]
          rfl
        have hc := hcont ((A13, c13), (A21, c21), (A30, c30), (A35, c35), k44) _ T5.out
        simp only [putAll, Act.put] at hc ⊢
        (try simp only [sw82, sw90, sw99, sw104, sw112])
        exact hc
    · refine value_ (v := .pointer (some ⟨W0.heap.size, 0, none⟩)) (w1 := W0.alloc (Obj.cells #[.slice none 0 0, .slice none 0 0, .slice none 0 0, .slice none 0 0, .slice none 0 0, .slice none 0 0, .int .i64 0] 65)) (by rfl) rfl (by go_simp) ?_
      have T1 := Aside0.mk T0.out.s5
      obtain ⟨k44, hk44⟩ : ∃ k, k = W0.heap.size := ⟨_, rfl⟩
      rw [← hk44] at T1 ⊢
      refine hK.out _ _ (QS.out.below_ T1.out.below) (fun hHeld => ?_)
      clear hK K hk44
      generalize W0.alloc (Obj.cells #[.slice none 0 0, .slice none 0 0, .slice none 0 0, .slice none 0 0, .slice none 0 0, .slice none 0 0, .int .i64 0] 65) = W1 at T1 hHeld ⊢
      simp only [Act.put]
      refine one_ (i := 13) (N := some 82) (qd 46 26352843489279) rfl rfl (one_of HT_.out (by kernel_rfl)) (by decide) (fun K hK => ?_)
      with_reducible refine goes_ (f := 54) (fn := Try.f54) (as0 := #[.tmp 74, .tmp 75, .tmp 81]) (ts := #[26, 3, 3]) ?q1 ?q2 ?q3 #[.slice (some ad) nj cd, .int .i64 (i : Int), .int .i64 ((k : Int) + 1)] ?q4 ?q5 ?q6 ?q7 ?q8
      (case q1 => exact Try.func54)
      (case q2 => kernel_rfl)
      (case q3 => kernel_rfl)
      (case q4 => rfl)
      (case q5 => rfl)
      (case q6 => rfl)
      (case q7 => simp [Act.eval, sz, hwk, hz])
      case q8 =>
      refine (H1.out W1 T1.out.below).mono ?_
      rintro e W2 ⟨A13, c13, rfl, hr, hb⟩
      refine ⟨_, rfl, ?_⟩
      have T2 := Aside0.mk (T1.out.s1 hb hr)
      refine hK.out _ _ (QS.out.below_ T2.out.below) (fun hHeld => ?_)
      clear hK K hr hb
      simp only [Act.put]
      refine one_ (i := 21) (N := some 90) (qd 46 26352845586431) rfl rfl (one_of HT_.out (by kernel_rfl)) (by decide) (fun K hK => ?_)
      with_reducible refine goes_ (f := 54) (fn := Try.f54) (as0 := #[.tmp 84, .tmp 85, .tmp 89]) (ts := #[26, 3, 3]) ?q1 ?q2 ?q3 #[.slice (some aj) nj cj, .int .i64 (i : Int), .int .i64 z] ?q4 ?q5 ?q6 ?q7 ?q8
      (case q1 => exact Try.func54)
      (case q2 => kernel_rfl)
      (case q3 => kernel_rfl)
      (case q4 => rfl)
      (case q5 => rfl)
      (case q6 => rfl)
      (case q7 => simp [Act.eval, sz, hwk, hz])
      case q8 =>
      refine (H2.out W2 T2.out.below).mono ?_
      rintro e W3 ⟨A21, c21, rfl, hr, hb⟩
      refine ⟨_, rfl, ?_⟩
      have T3 := Aside0.mk (T2.out.s2 hb hr)
      refine hK.out _ _ (QS.out.below_ T3.out.below) (fun hHeld => ?_)
      clear hK K hr hb
      simp only [Act.put]
      refine one_ (i := 30) (N := some 99) (qd 46 26353919328255) rfl rfl (one_of HT_.out (by kernel_rfl)) (by decide) (fun K hK => ?_)
      with_reducible refine goes_ (f := 54) (fn := Try.f54) (as0 := #[.tmp 92, .tmp 94, .tmp 98]) (ts := #[26, 3, 3]) ?q1 ?q2 ?q3 #[.slice (some am) 4 cm, .int .i64 (mc : Int), .int .i64 z] ?q4 ?q5 ?q6 ?q7 ?q8
      (case q1 => exact Try.func54)
      (case q2 => kernel_rfl)
      (case q3 => kernel_rfl)
      (case q4 => rfl)
      (case q5 => rfl)
      (case q6 => rfl)
      (case q7 => simp [Act.eval, sz, hwk, hz])
      case q8 =>
      refine (H3.out W3 T3.out.below).mono ?_
      rintro e W4 ⟨A30, c30, rfl, hr, hb⟩
      refine ⟨_, rfl, ?_⟩
      have T4 := Aside0.mk (T3.out.s3 hb hr)
      refine hK.out _ _ (QS.out.below_ T4.out.below) (fun hHeld => ?_)
      clear hK K hr hb
      simp only [Act.put]
      refine one_ (i := 35) (N := some 104) (qd 46 26388279066623) rfl rfl (one_of HT_.out (by kernel_rfl)) (by decide) (fun K hK => ?_)
      with_reducible refine goes_ (f := 54) (fn := Try.f54) (as0 := #[.tmp 101, .tmp 102, .tmp 103]) (ts := #[26, 3, 3]) ?q1 ?q2 ?q3 #[.slice As n cs, .int .i64 (p : Int), .int .i64 s] ?q4 ?q5 ?q6 ?q7 ?q8
      (case q1 => exact Try.func54)
      (case q2 => kernel_rfl)
      (case q3 => kernel_rfl)
      (case q4 => rfl)
      (case q5 => rfl)
      (case q6 => rfl)
      (case q7 => simp [Act.eval, sz, hwk, hz])
      case q8 =>
      refine (H4.out W4 T4.out.below).mono ?_
      rintro e W5 ⟨A35, c35, rfl, hr, hb⟩
      refine ⟨_, rfl, ?_⟩
      have T5 := Aside0.mk (T4.out.s4 hb hr)
      refine hK.out _ _ (QS.out.below_ T5.out.below) (fun hHeld => ?_)
      clear hK K hr hb
      simp only [Act.put]
      refine pure_ (i := 43) (N := some 112) (v := ?_) (a' := ?_) (qd 46 35184372088831) rfl rfl (any_of HT_.out (by kernel_rfl)) (fun c a1 w1 h => hp c _ _ _ (by rfl) h) (Or.inl ⟨by rfl, ?_⟩) ?_ ?_
      rotate_left
      · intro w'
        go_simp
        with_reducible rfl
      rotate_left
      · simp only [Act.put, qa, qb, qc, i64_w, i32_w]
        rfl
      have hc := hcont ((A13, c13), (A21, c21), (A30, c30), (A35, c35), k44) _ T5.out
      simp only [putAll, Act.put] at hc ⊢
      (try simp only [sw82, sw90, sw99, sw104, sw112])
      exact hc
  obtain ⟨⟨A1, c1⟩, ⟨A2, c2⟩, ⟨A3, c3⟩, ⟨A4, c4⟩, bn⟩ := s
  have M9 := Aside0.mk hF
  clear hF T0 hHeld
  simp only [putAll, Act.put]
  refine last_ (i := 45) (N := none) (qd 46 70368744177663) rfl rfl (one_of HT_.out (by kernel_rfl)) (by decide) (fun K hK => ?_)
  with_reducible refine row_ ?hw ?hN 65 (.tmp 12) (.tmp 112) ?ho bn #[.slice At n ct, .slice Af nj cf, .slice A1 nj c1, .slice A2 nj c2, .slice A3 4 c3, .slice A4 n c4, .int .i64 (mx en z)] ?hx ?hy 65 #[.slice none 0 0, .slice none 0 0, .slice none 0 0, .slice none 0 0, .slice none 0 0, .slice none 0 0, .int .i64 0] (M9.out.nb _ rfl).2 ?hi ?hold ?h1 ?_
  (case hw => rfl)
  (case hN => rfl)
  (case ho => rfl)
  (case hx => simp [Act.eval, sz])
  (case hy => simp [Act.eval, sz])
  (case hi => exact I65.out)
  (case hold => rfl)
  (case h1 => simp [Value.oneCell'])
  refine hK.out _ _ ?_
  have hbn : W.heap.size ≤ bn := (M9.out.nb _ rfl).1
  have hbb : Below W.heap.size W (w2.setRow bn #[.slice At n ct, .slice Af nj cf, .slice A1 nj c1, .slice A2 nj c2, .slice A3 4 c3, .slice A4 n c4, .int .i64 (mx en z)]) := below_setRow M9.out.below hbn _
  have hb2 : Below w2.heap.size w2 (w2.setRow bn #[.slice At n ct, .slice Af nj cf, .slice A1 nj c1, .slice A2 nj c2, .slice A3 4 c3, .slice A4 n c4, .int .i64 (mx en z)]) ∨ True := Or.inr trivial
  have BX : (w2.setRow bn #[.slice At n ct, .slice Af nj cf, .slice A1 nj c1, .slice A2 nj c2, .slice A3 4 c3, .slice A4 n c4, .int .i64 (mx en z)]).heap[bn]? = some (.cells #[.slice At n ct, .slice Af nj cf, .slice A1 nj c1, .slice A2 nj c2, .slice A3 4 c3, .slice A4 n c4, .int .i64 (mx en z)] 65 (0, 0)) := setRow_heap _ _ _ _ _ _ (M9.out.nb _ rfl).2
  clear hK K hb2
  refine done_ (done_of HT_.out (by kernel_rfl)) ?_
  refine HQ.out _ _ bn A1 c1 A2 c2 A3 c3 A4 c4 ?_ hbb hbn BX ?_ ?_ ?_ ?_
  · (try simp only [Act.put])
    exact ⟨by simp [sz], by simp [df], by simp [sz, e1], by simp [sz, e3], by simp [sz, e5], by simp [sz, e6], by simp [sz, e7], by simp [sz, e8], by simp [sz, e9], by simp [sz, e10], by simp [sz, e11], by simp [sz]⟩
  · exact RowB.row (M9.out.r1 _ _ rfl) _
  · exact RowB.row (M9.out.r2 _ _ rfl) _
  · exact RowB.row (M9.out.r3 _ _ rfl) _
  · exact RowB.row (M9.out.r4 _ _ rfl) _
end Go.Proofs.Ytipkhaicjjeieaa.V
