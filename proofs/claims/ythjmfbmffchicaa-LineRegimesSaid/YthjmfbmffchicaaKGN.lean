/- The second part of the plain laws under the statement LineRegimes, down to its plain statement. Bounds stand in each theorem. -/
import Derived.Test.YthjmfbmffchicaaKGM
section
namespace Go.Proofs.Ythjmfbmffchicaa.Mp
theorem Pre.len {n : Nat} {a : Nat → Nat → Int} {w : List Nat} (h : Pre n a w) : w.length ≤ n := by
 by_cases e : w.length ≤ n
 ·
  exact e
 ·
  obtain ⟨p, q, hpq, hq, he⟩ := php n (fun t => w.getD t 0) (fun t ht => h.lt t jj)
  have := h.inj p q jj jj he
  omega
def nxt (w z : List Nat) : Nat := z.getD w.length (w.getD 0 0)
theorem nxt_nil (w : List Nat) : nxt w (w ++ []) = w.getD 0 0 := by
 unfold nxt
 rw [List.append_nil, List.getD_eq_getElem?_getD, List.getElem?_eq_none (Nat.le_refl _)]
 rfl
theorem nxt_cons (w : List Nat) (x : Nat) (y : List Nat) : nxt w (w ++ x :: y) = x := by
 unfold nxt
 rw [List.getD_eq_getElem?_getD, List.getElem?_append_right (Nat.le_refl _), Nat.sub_self]
 rfl
section
variable {n : Nat} {a : Nat → Nat → Int}
theorem Cy.nxt_arc {w y : List Nat} (h : Cy n a (w ++ y)) (hw : 0 < w.length) : a (nxt w (w ++ y)) (w.getD (w.length - 1) 0) ≠ NEV := by
 cases y with
 | nil =>
  rw [nxt_nil]
  have := h.last
  rwa [List.append_nil] at this
 | cons x y =>
  rw [nxt_cons]
  have := h.pre.arc (w.length - 1) (by simp; omega)
  rw [show w.length - 1 + 1 = w.length by omega, getD_append_at, getD_append_left' jj] at this
  exact this
theorem Cy.nxt_new {w y : List Nat} (h : Cy n a (w ++ y)) (_hw : 0 < w.length) (hne : y ≠ []) (t : Nat) (ht : t < w.length) : w.getD t 0 ≠ nxt w (w ++ y) := by
 cases y with
 | nil => exact absurd rfl hne
 | cons x y =>
  rw [nxt_cons]
  intro e
  have := h.pre.inj t w.length (by simp; omega) (by simp) (by rw [getD_append_left' ht, getD_append_at, e])
  omega
theorem Cy.nxt_low {w y : List Nat} (h : Cy n a (w ++ y)) (hw : 0 < w.length) : w.getD 0 0 ≤ nxt w (w ++ y) := by
 cases y with
 | nil => rw [nxt_nil]; exact Nat.le_refl _
 | cons x y =>
  rw [nxt_cons]
  have := h.pre.low w.length (by simp)
  rwa [getD_append_left' hw, getD_append_at] at this
end
end Go.Proofs.Ythjmfbmffchicaa.Mp
namespace Go.Proofs.Ythjmfbmffchicaa.Pure
open Go.RowKit Go.Proofs.Ythjmfbmffchicaa.V Go.Proofs.YthjmfbmffchicaaW.PrintWords Go.Proofs.YthjmfbmffchicaaW.PrintLast Go.Proofs.YthjmfbmffchicaaW.PrintMore
open Go.Proofs.Ythjmfbmffchicaa.Mp
def up (w : List Nat) : List Int := w.map Int.ofNat
theorem up_length (w : List Nat) : (up w).length = w.length := by simp [up]
theorem up_get (w : List Nat) (t : Nat) : (up w).getD t 0 = ((w.getD t 0 : Nat) : Int) := by
 unfold up
 rw [List.getD_eq_getElem?_getD, List.getD_eq_getElem?_getD, List.getElem?_map]
 cases w[t]? <;> rfl
theorem up_append (w : List Nat) (x : Nat) : up w ++ [(x : Int)] = up (w ++ [x]) := by simp [up]
theorem up_inj {w z : List Nat} (h : up w = up z) : w = z := by
 unfold up at h
 exact List.map_inj_right (fun x y e => Int.ofNat.inj e) |>.1 h
theorem has_l0 (l : List Int) (hl : l.length ≤ 1000000) (x : Int) : ∀ d j, j + d = l.length → ∃ b, Ev (fun k => r5has.l0 k l x (j : Int)) b ∧ (b = true ↔ ∃ t, j ≤ t ∧ t < l.length ∧ l.getD t 0 = x) := by
 intro d
 induction d with
 | zero =>
  intro j hj
  refine ⟨false, ev_now fun k => ?_, fun h => absurd h (by decide), fun ⟨t, h1, h2, _⟩ => by omega⟩
  simp only [r5has.l0]
  rw [ji]
 | succ d ih =>
  intro j hj
  by_cases e : l.getD j 0 = x
  ·
   refine ⟨true, ev_now fun k => ?_, fun _ => ⟨j, by omega, by omega, e⟩, fun _ => rfl⟩
   simp only [r5has.l0]
   rw [jh, jh, rdI, if_pos e]
  ·
   obtain ⟨b, hb, hbi⟩ := ih (j + 1) jj
   refine ⟨b, Ev.step (fun k => ?_) hb, ?_⟩
   ·
    simp only [r5has.l0]
    rw [jh, jh, rdI, if_neg e, wr1 j jj]
   ·
    rw [hbi]
    constructor
    ·
     rintro ⟨t, h1, h2, h3⟩; exact ⟨t, by omega, h2, h3⟩
    ·
     rintro ⟨t, h1, h2, h3⟩
     by_cases e2 : t = j
     ·
      subst e2; exact absurd h3 e
     ·
      exact ⟨t, by omega, h2, h3⟩
theorem has_f (l : List Int) (hl : l.length ≤ 1000000) (x : Int) : ∃ b, Ev (fun k => r5has.f k l x) b ∧ (b = true ↔ ∃ t, t < l.length ∧ l.getD t 0 = x) := by
 obtain ⟨b, hb, hbi⟩ := has_l0 l hl x l.length 0 jj
 exact ⟨b, hb, hbi.trans ⟨fun ⟨t, _, h⟩ => ⟨t, h⟩, fun ⟨t, h⟩ => ⟨t, by omega, h⟩⟩⟩
section
def Goes (n : Nat) (a : Nat → Nat → Int) (w : List Nat) (i : Nat) (c : List Int) : Prop := ∃ y, c = up (w ++ y) ∧ Cy n a (w ++ y) ∧ i ≤ nxt w (w ++ y)
end
theorem cyclesFrom_l0 {n : Nat} {A : List (List Int)} (hA : Arg n A) (w : List Nat) (hw : Pre n (ent A) w) (B : Nat) (hB : 1 ≤ B) (hB2 : B ≤ 100000)
  (hrec : ∀ x, x < n → Pre n (ent A) (w ++ [x]) → ∃ R, Ev (fun k => r5cyclesFrom.f k A (up (w ++ [x]))) R ∧ (∀ c, c ∈ R ↔ ∃ y, c = up ((w ++ [x]) ++ y) ∧ Cy n (ent A) ((w ++ [x]) ++ y)) ∧ R.length ≤ B) :
  ∀ d i, i + d = n → w.getD 0 0 ≤ i → ∀ acc : List (List Int), acc.length + d * B ≤ 1000000 → ∃ r, Ev (fun k => r5cyclesFrom.l0 k A (up w) acc ((w.getD (w.length - 1) 0 : Nat) : Int) (i : Int)) r ∧ (∀ c, c ∈ r ↔ c ∈ acc ∨ Goes n (ent A) w i c) ∧ r.length ≤ acc.length + d * B := by
 have h6 := hA.six
 have hl := hA.is.1
 have hwl := Pre.len hw
 have hw0 := hw.ne
 have hlast : w.getD (w.length - 1) 0 < n := hw.lt _ jj
 have ul := up_length w
 intro d
 induction d with
 | zero =>
  intro i hi hf acc hacc
  refine ⟨acc, ev_now fun k => ?_, fun c => ⟨fun h => .inl h, fun h => h.elim id fun ⟨y, _, hy, h2⟩ => ?_⟩, by omega⟩
  ·
   rw [r5cyclesFrom.l0]
   rw [ji]
  ·
   exfalso
   cases y with
   | nil => rw [nxt_nil] at h2; have := hw.lt 0 hw0; omega
   | cons x y =>
    have := hy.pre.lt w.length (by simp)
    rw [nxt_cons] at h2
    rw [getD_append_at] at this
    omega
 | succ d ih =>
  intro i hi hf acc hacc
  have hi' : i < n := by omega
  have e2 := hA.is.2 i hi'
  rw [Nat.add_mul, Nat.one_mul] at hacc
  have same : (∀ y, Cy n (ent A) (w ++ y) → nxt w (w ++ y) ≠ i) → ∀ c, Goes n (ent A) w (i + 1) c ↔ Goes n (ent A) w i c := by
   intro h c
   constructor
   ·
    rintro ⟨y, h1, h2, h3⟩; exact ⟨y, h1, h2, by omega⟩
   ·
    rintro ⟨y, h1, h2, h3⟩; exact ⟨y, h1, h2, by have := h y h2; omega⟩
  have skip : (∀ y, Cy n (ent A) (w ++ y) → nxt w (w ++ y) ≠ i) → ∀ {g : Nat → Option (List (List Int))}, (∀ k, g (k + 1) = r5cyclesFrom.l0 k A (up w) acc ((w.getD (w.length - 1) 0 : Nat) : Int) ((i + 1 : Nat) : Int)) → ∃ r, Ev g r ∧ (∀ c, c ∈ r ↔ c ∈ acc ∨ Goes n (ent A) w i c) ∧ r.length ≤ acc.length + (d + 1) * B := by
   intro hn g hg
   obtain ⟨r, hr, hm, hlr⟩ := ih (i + 1) jj jj acc jj
   refine ⟨r, Ev.step hg hr, fun c => ?_, by rw [Nat.add_mul, Nat.one_mul]; omega⟩
   rw [hm, same hn]
  have rw1 : (A.getD i []).getD (w.getD (w.length - 1) 0) 0 = ent A i (w.getD (w.length - 1) 0) := rfl
  by_cases c1 : ent A i (w.getD (w.length - 1) 0) = NEV
  ·
   refine skip (fun y hy e => ?_) (fun k => ?_)
   ·
    have := hy.nxt_arc hw0
    rw [e] at this
    exact this c1
   ·
    rw [r5cyclesFrom.l0]
    rw [jh, jh, jh, rdL, jh, rdI, rw1, if_pos (show ent A i (w.getD (w.length - 1) 0) = -1152921504606846976 from c1), wr1 i jj]
  have pre : ∀ k, r5cyclesFrom.l0 (k + 1) A (up w) acc ((w.getD (w.length - 1) 0 : Nat) : Int) (i : Int) = if (i : Int) = ((w.getD 0 0 : Nat) : Int) then r5cyclesFrom.l0 k A (up w) (acc ++ [up w]) ((w.getD (w.length - 1) 0 : Nat) : Int) ((i + 1 : Nat) : Int) else ((r5has.f k (up w) (i : Int)).bind fun t => if t = true then r5cyclesFrom.l0 k A (up w) acc ((w.getD (w.length - 1) 0 : Nat) : Int) ((i + 1 : Nat) : Int) else ((r5cyclesFrom.f k A (up (w ++ [i]))).bind fun t => if acc.length + t.length < 5864062014805 then r5cyclesFrom.l0 k A (up w) (acc ++ t) ((w.getD (w.length - 1) 0 : Nat) : Int) ((i + 1 : Nat) : Int) else none)) := fun k => by
   rw [r5cyclesFrom.l0]
   rw [jh, jh, jh, rdL, jh, rdI, rw1, if_neg (show ¬ ent A i (w.getD (w.length - 1) 0) = -1152921504606846976 from c1), if_pos (by simp only [List.length_nil]; omega)]
   simp only [Option.bind_some, List.nil_append]
   rw [jh, show rd (up w) 0 = ((w.getD 0 0 : Nat) : Int) from up_get w 0, if_pos (show acc.length < 5864062014805 by omega), if_pos (show (up w).length < 17592186044416 by omega), wr1 i jj, up_append]
  by_cases c2 : i = w.getD 0 0
  ·
   obtain ⟨r, hr, hm, hlr⟩ := ih (i + 1) jj jj (acc ++ [up w]) (by simp; omega)
   refine ⟨r, Ev.step (fun k => (pre k).trans (if_pos jj)) hr, fun c => ?_, by rw [Nat.add_mul, Nat.one_mul]; simp at hlr; omega⟩
   rw [hm, List.mem_append, List.mem_singleton]
   constructor
   ·
    rintro ((h | h) | ⟨y, h1, h2, h3⟩)
    ·
     exact .inl h
    ·
     exact .inr ⟨[], by rw [List.append_nil]; exact h, by rw [List.append_nil]; exact ⟨hw, by rw [← c2]; exact c1⟩, by rw [nxt_nil]; omega⟩
    ·
     exact .inr ⟨y, h1, h2, by omega⟩
   ·
    rintro (h | ⟨y, h1, h2, h3⟩)
    ·
     exact .inl (.inl h)
    ·
     by_cases e : y = []
     ·
      subst e
      rw [List.append_nil] at h1
      exact .inl (.inr h1)
     ·
      have := h2.nxt_new hw0 e 0 hw0
      exact .inr ⟨y, h1, h2, by omega⟩
  ·
   have c2' : ¬ (i : Int) = ((w.getD 0 0 : Nat) : Int) := fun e => c2 (Int.ofNat.inj e)
   obtain ⟨b, hb, hbi⟩ := has_f (up w) jj (i : Int)
   have hbi' : b = true ↔ ∃ t, t < w.length ∧ w.getD t 0 = i := by
    rw [hbi]
    constructor
    ·
     rintro ⟨t, h1, h2⟩
     rw [up_get] at h2
     exact ⟨t, by omega, by omega⟩
    ·
     rintro ⟨t, h1, h2⟩
     exact ⟨t, by omega, by rw [up_get, h2]⟩
   by_cases c3 : b = true
   ·
    obtain ⟨t, ht, hti⟩ := hbi'.1 c3
    obtain ⟨r, hr, hm, hlr⟩ := ih (i + 1) jj jj acc jj
    refine ⟨r, Ev.step (fun k => (pre k).trans (if_neg c2')) (Ev.bind hb (Ev.congr (fun k => if_pos c3) hr)), fun c => ?_, by rw [Nat.add_mul, Nat.one_mul]; omega⟩
    rw [hm, same fun y hy e => ?_]
    by_cases e2 : y = []
    ·
     subst e2; rw [nxt_nil] at e; exact c2 e.symm
    ·
     exact hy.nxt_new hw0 e2 t ht (by rw [hti, e])
   ·
    have hnew : ∀ t, t < w.length → w.getD t 0 ≠ i := fun t ht e => c3 (hbi'.2 ⟨t, ht, e⟩)
    have hpre := hw.snoc hi' hf hnew c1
    obtain ⟨R, eR, hR, lR⟩ := hrec i hi' hpre
    obtain ⟨r, hr, hm, hlr⟩ := ih (i + 1) jj jj (acc ++ R) (by simp; omega)
    refine ⟨r, Ev.step (fun k => (pre k).trans (if_neg c2')) (Ev.bind hb (Ev.congr (fun k => if_neg c3) (Ev.bind eR (Ev.congr (fun k => jh) hr)))), fun c => ?_, by rw [Nat.add_mul, Nat.one_mul]; simp at hlr; omega⟩
    rw [hm, List.mem_append, hR]
    constructor
    ·
     rintro ((h | ⟨y, h1, h2⟩) | ⟨y, h1, h2, h3⟩)
     ·
      exact .inl h
     ·
      rw [List.append_assoc] at h1 h2
      exact .inr ⟨[i] ++ y, h1, h2, by show i ≤ nxt w (w ++ i :: y); rw [nxt_cons]; exact Nat.le_refl _⟩
     ·
      exact .inr ⟨y, h1, h2, by omega⟩
    ·
     rintro (h | ⟨y, h1, h2, h3⟩)
     ·
      exact .inl (.inl h)
     ·
      by_cases e : nxt w (w ++ y) = i
      ·
       cases y with
       | nil => rw [nxt_nil] at e; exact absurd e.symm c2
       | cons x y =>
        rw [nxt_cons] at e
        subst e
        exact .inl (.inr ⟨y, by rw [List.append_assoc]; exact h1, by rw [List.append_assoc]; exact h2⟩)
      ·
       exact .inr ⟨y, h1, h2, by omega⟩
theorem cyclesFrom_f {n : Nat} {A : List (List Int)} (hA : Arg n A) : ∀ d w, d ≤ 5 → Pre n (ent A) w → n ≤ w.length + d → ∃ R, Ev (fun k => r5cyclesFrom.f k A (up w)) R ∧ (∀ c, c ∈ R ↔ ∃ y, c = up (w ++ y) ∧ Cy n (ent A) (w ++ y)) ∧ R.length ≤ 6 ^ (d + 1) := by
 have h6 := hA.six
 intro d
 induction d with
 | zero =>
  intro w _ hw hn
  have hwl := Pre.len hw
  have hw0 := hw.ne
  have ul := up_length w
  have f0 : w.getD 0 0 < n := hw.lt 0 hw0
  obtain ⟨r, hr, hm, hlr⟩ := cyclesFrom_l0 hA w hw 1 jj jj (fun x _ hp => by have := Pre.len hp; simp at this; omega) (n - w.getD 0 0) (w.getD 0 0) jj jj [] (by simp only [List.length_nil]; omega)
  refine ⟨r, Ev.step (fun k => ?_) hr, fun c => ?_, by simp at hlr ⊢; omega⟩
  ·
   rw [r5cyclesFrom.f]
   have e : wrap64 (((up w).length : Int) - 1) = ((w.length - 1 : Nat) : Int) := by rw [wr jj jj]; omega
   rw [e, jh, jh, jh, rdI, up_get, show rd (up w) 0 = ((w.getD 0 0 : Nat) : Int) from up_get w 0]
  ·
   rw [hm]
   constructor
   ·
    rintro (h | ⟨y, h1, h2, _⟩)
    ·
     cases h
    ·
     exact ⟨y, h1, h2⟩
   ·
    rintro ⟨y, h1, h2⟩; exact .inr ⟨y, h1, h2, h2.nxt_low hw0⟩
 | succ d ih =>
  intro w hd hw hn
  have hwl := Pre.len hw
  have hw0 := hw.ne
  have ul := up_length w
  have f0 : w.getD 0 0 < n := hw.lt 0 hw0
  have hb1 : 1 ≤ 6 ^ (d + 1) := Nat.pow_pos jj
  have hb2 : 6 ^ (d + 1) ≤ 6 ^ 5 := Nat.pow_le_pow_right jj jj
  have e5 : (6 : Nat) ^ 5 = 7776 := by decide
  have hb3 : (n - w.getD 0 0) * 6 ^ (d + 1) ≤ 6 * 6 ^ (d + 1) := Nat.mul_le_mul_right _ jj
  obtain ⟨r, hr, hm, hlr⟩ := cyclesFrom_l0 hA w hw (6 ^ (d + 1)) hb1 jj (fun x _ hp => ih (w ++ [x]) jj hp (by simp; omega)) (n - w.getD 0 0) (w.getD 0 0) jj jj [] (by simp only [List.length_nil]; omega)
  refine ⟨r, Ev.step (fun k => ?_) hr, fun c => ?_, by rw [Nat.pow_succ]; simp only [List.length_nil] at hlr; omega⟩
  ·
   rw [r5cyclesFrom.f]
   have e : wrap64 (((up w).length : Int) - 1) = ((w.length - 1 : Nat) : Int) := by rw [wr jj jj]; omega
   rw [e, jh, jh, jh, rdI, up_get, show rd (up w) 0 = ((w.getD 0 0 : Nat) : Int) from up_get w 0]
  ·
   rw [hm]
   constructor
   ·
    rintro (h | ⟨y, h1, h2, _⟩)
    ·
     cases h
    ·
     exact ⟨y, h1, h2⟩
   ·
    rintro ⟨y, h1, h2⟩; exact .inr ⟨y, h1, h2, h2.nxt_low hw0⟩
theorem Cycles_l0 {n : Nat} {A : List (List Int)} (hA : Arg n A) : ∀ d i, i + d = n → ∀ acc : List (List Int), acc.length + d * 46656 ≤ 1000000 → ∃ r, Ev (fun k => r5Cycles.l0 k A acc (i : Int)) r ∧ (∀ c, c ∈ r ↔ c ∈ acc ∨ ∃ z, c = up z ∧ Cy n (ent A) z ∧ i ≤ z.getD 0 0) ∧ r.length ≤ 1000000 := by
 have h6 := hA.six
 have hl := hA.is.1
 intro d
 induction d with
 | zero =>
  intro i hi acc hacc
  refine ⟨acc, ev_now fun k => ?_, fun c => ⟨fun h => .inl h, fun h => h.elim id fun ⟨z, _, hz, h2⟩ => by have := hz.pre.lt 0 hz.pre.ne; omega⟩, by omega⟩
  simp only [r5Cycles.l0]
  rw [ji]
 | succ d ih =>
  intro i hi acc hacc
  rw [Nat.add_mul, Nat.one_mul] at hacc
  have hp : Pre n (ent A) [i] := by
   refine ⟨by simp, fun t ht => ?_, fun s t hs ht _ => by simp at hs ht; omega, fun t ht => ?_, fun t ht => by simp at ht⟩
   ·
    simp at ht; subst ht; show i < n; omega
   ·
    simp at ht; subst ht; exact Nat.le_refl _
  obtain ⟨R, eR, hR, lR⟩ := cyclesFrom_f hA 5 [i] jj hp (by simp; omega)
  have e6 : (6 : Nat) ^ (5 + 1) = 46656 := by decide
  obtain ⟨r, hr, hm, hlr⟩ := ih (i + 1) jj (acc ++ R) (by simp; omega)
  refine ⟨r, Ev.step (f := fun k => (r5cyclesFrom.f k A (up [i])).bind fun t => if acc.length + t.length < 5864062014805 then r5Cycles.l0 k A (acc ++ t) ((i + 1 : Nat) : Int) else none) (fun k => ?_) (Ev.bind eR (Ev.congr (fun k => jh) hr)), fun c => ?_, hlr⟩
  ·
   simp only [r5Cycles.l0]
   rw [jh, wr1 i jj]
   rfl
  ·
   rw [hm, List.mem_append, hR]
   constructor
   ·
    rintro ((h | ⟨y, h1, h2⟩) | ⟨z, h1, h2, h3⟩)
    ·
     exact .inl h
    ·
     exact .inr ⟨[i] ++ y, h1, h2, by show i ≤ i; exact Nat.le_refl _⟩
    ·
     exact .inr ⟨z, h1, h2, by omega⟩
   ·
    rintro (h | ⟨z, h1, h2, h3⟩)
    ·
     exact .inl (.inl h)
    ·
     by_cases e : z.getD 0 0 = i
     ·
      cases z with
      | nil => have := h2.pre.ne; simp at this
      | cons x y =>
       have : x = i := e
       subst this
       exact .inl (.inr ⟨y, h1, h2⟩)
     ·
      exact .inr ⟨z, h1, h2, by omega⟩
theorem Cycles_f {n : Nat} {A : List (List Int)} (hA : Arg n A) : ∃ R, Ev (fun k => r5Cycles.f k A) R ∧ (∀ c, c ∈ R ↔ ∃ z, c = up z ∧ Cy n (ent A) z) ∧ R.length ≤ 1000000 := by
 have h6 := hA.six
 obtain ⟨r, hr, hm, hlr⟩ := Cycles_l0 hA n 0 jj [] (by simp; omega)
 refine ⟨r, hr, fun c => ?_, hlr⟩
 rw [hm]
 constructor
 ·
  rintro (h | ⟨z, h1, h2, _⟩)
  ·
   cases h
  ·
   exact ⟨z, h1, h2⟩
 ·
  rintro ⟨z, h1, h2⟩; exact .inr ⟨z, h1, h2, Nat.zero_le _⟩
end Go.Proofs.Ythjmfbmffchicaa.Pure
end
section
namespace Go.Proofs.Ythjmfbmffchicaa.Pure
open Go.RowKit Go.Proofs.Ythjmfbmffchicaa.V Go.Proofs.YthjmfbmffchicaaW.PrintWords Go.Proofs.YthjmfbmffchicaaW.PrintLast Go.Proofs.YthjmfbmffchicaaW.PrintMore Go.Proofs.Ythjmfbmffchicaa.Mp
def cw (a : Nat → Nat → Int) (z : List Nat) : Int := wt a (cyc z) z.length
theorem add_ok (x y : Int) (i : Nat) (hi : i ≤ 6) (h1 : -(1000 * (i : Int)) ≤ x) (h2 : x ≤ 1000 * (i : Int)) (h3 : -1000 ≤ y) (h4 : y ≤ 1000) : wrap64 (x + y) = x + y := wr jj jj
section
variable {n : Nat} {A : List (List Int)}
theorem cw_bd (hA : Arg n A) {z : List Nat} (h : Cy n (ent A) z) : -6000 ≤ cw (ent A) z ∧ cw (ent A) z ≤ 6000 ∧ 1 ≤ z.length ∧ z.length ≤ 6 := by
 have := wt_bd hA.bd h.wk
 have := h.len
 have := hA.six
 have := h.pre.ne
 unfold cw
 omega
theorem weight_l0 (hA : Arg n A) {z : List Nat} (h : Cy n (ent A) z) : ∀ d i, i + d = z.length → Ev (fun k => r5weight.l0 k A (up z) (wt (ent A) (cyc z) i) (i : Int)) (cw (ent A) z) := by
 have hl := hA.is.1
 have uz := up_length z
 have b := cw_bd hA h
 have hwk := h.wk
 intro d
 induction d with
 | zero =>
  intro i hi
  obtain rfl : i = z.length := by omega
  refine ev_now fun k => ?_
  simp only [r5weight.l0]
  rw [ji]
  rfl
 | succ d ih =>
  intro i hi
  have hi' : i < z.length := by omega
  have i6 : i ≤ 6 := by omega
  obtain ⟨r, hm, c1, em⟩ : ∃ r, r < z.length ∧ z.getD r 0 = cyc z (i + 1) ∧ Int.tmod (wrap64 ((i : Int) + 1)) ((up z).length : Int) = (r : Int) := ⟨(i + 1) % z.length, Nat.mod_lt _ jj, rfl, by rw [wr1 i jj, uz]; rfl⟩
  have c2 : z.getD i 0 = cyc z i := (cyc_lt hi').symm
  have l1 := hwk.lt (i + 1) jj
  have l2 := hwk.lt i jj
  have e2 := hA.is.2 _ l1
  have g1 : rd (up z) (r : Int) = ((cyc z (i + 1) : Nat) : Int) := by rw [← c1]; exact up_get z r
  have g2 : rd (up z) (i : Int) = ((cyc z i : Nat) : Int) := by rw [← c2]; exact up_get z i
  have w1 := wt_bd hA.bd (hwk.left (p := i) jj)
  have w2 := (hA.bd _ _ l1 l2).resolve_left (hwk.arc i hi')
  refine Ev.step (fun k => ?_) (ih (i + 1) jj)
  simp only [r5weight.l0]
  rw [em, g1, g2]
  clear em g1 g2 c1 c2
  rw [jh, ji, jh, jh, jh, jh, jh, jh, rdL, jh, rdI, wr1 i jj]
  show r5weight.l0 k A (up z) (wrap64 (wt (ent A) (cyc z) i + ent A (cyc z (i + 1)) (cyc z i))) _ = _
  rw [add_ok _ _ i i6 w1.1 w1.2 w2.1 w2.2]
  rfl
theorem weight_f (hA : Arg n A) {z : List Nat} (h : Cy n (ent A) z) : Ev (fun k => r5weight.f k A (up z)) (cw (ent A) z) := weight_l0 hA h z.length 0 jj
end
theorem drop_cons {x : List Nat} {j : Nat} (h : j < x.length) : x.drop j = x.getD j 0 :: x.drop (j + 1) := by
 rw [List.drop_eq_getElem_cons h, List.getD_eq_getElem?_getD, List.getElem?_eq_getElem h]
 rfl
theorem less_l0 (x y : List Nat) (_hx : x.length ≤ 1000000) (hy : y.length ≤ 1000000) : ∀ d j, j + d = x.length → j ≤ y.length → ∃ b, Ev (fun k => r5less.l0 k (up x) (up y) (j : Int)) b ∧ (b = true ↔ x.drop j < y.drop j) := by
 have ux := up_length x
 have uy := up_length y
 intro d
 have short : ∀ j, j ≤ x.length → j ≤ y.length → (j = x.length ∨ j = y.length) → (decide (((up x).length : Int) < ((up y).length : Int)) = true ↔ x.drop j < y.drop j) := by
  intro j h1 h2 h3
  rw [decide_eq_true_iff]
  by_cases e1 : j = x.length
  ·
   by_cases e2 : j = y.length
   ·
    rw [List.drop_eq_nil_of_le jj, List.drop_eq_nil_of_le jj]
    exact ⟨fun h => by omega, fun h => absurd h (List.not_lt_nil _)⟩
   ·
    rw [List.drop_eq_nil_of_le (by omega : x.length ≤ j), drop_cons (by omega : j < y.length)]
    exact ⟨fun _ => List.nil_lt_cons _ _, fun _ => by omega⟩
  ·
   have e2 : j = y.length := by omega
   rw [List.drop_eq_nil_of_le (by omega : y.length ≤ j)]
   exact ⟨fun h => by omega, fun h => absurd h (List.not_lt_nil _)⟩
 induction d with
 | zero =>
  intro j hj hjy
  refine ⟨_, ?_, short j jj hjy (.inl jj)⟩
  refine Ev.step (f := fun k => r5less.j1 k (up x) (up y) (j : Int) false) (fun k => ?_) (ev_now fun k => ?_)
  ·
   simp only [r5less.l0]
   rw [ji]
  ·
   simp only [r5less.j1]
   rw [if_neg (by decide)]
 | succ d ih =>
  intro j hj hjy
  have step1 : ∀ k, r5less.l0 (k + 1) (up x) (up y) (j : Int) = r5less.j1 k (up x) (up y) (j : Int) (decide ((j : Int) < ((up y).length : Int))) := fun k => by
   simp only [r5less.l0]
   rw [jh]
  by_cases e1 : j < y.length
  ·
   have st : ∀ k, r5less.j1 (k + 1) (up x) (up y) (j : Int) (decide ((j : Int) < ((up y).length : Int))) = if ((x.getD j 0 : Nat) : Int) = ((y.getD j 0 : Nat) : Int) then r5less.l0 k (up x) (up y) ((j + 1 : Nat) : Int) else some (decide (((x.getD j 0 : Nat) : Int) < ((y.getD j 0 : Nat) : Int))) := fun k => by
    simp only [r5less.j1]
    rw [if_pos (by rw [decide_eq_true_iff]; omega), jh, jh, jh, rdI, rdI, up_get, up_get, wr1 j jj]
   rw [drop_cons (by omega : j < x.length), drop_cons e1]
   by_cases e2 : x.getD j 0 = y.getD j 0
   ·
    obtain ⟨b, hb, hbi⟩ := ih (j + 1) jj jj
    refine ⟨b, Ev.step step1 (Ev.step (fun k => (st k).trans (if_pos jj)) hb), ?_⟩
    rw [hbi, List.cons_lt_cons_iff, e2]
    exact ⟨fun h => .inr ⟨rfl, h⟩, fun h => h.elim (fun h => absurd h (Nat.lt_irrefl _)) (fun h => h.2)⟩
   ·
    refine ⟨_, Ev.step step1 (ev_now fun k => (st k).trans (if_neg (fun e => e2 (Int.ofNat.inj e)))), ?_⟩
    rw [decide_eq_true_iff, List.cons_lt_cons_iff]
    exact ⟨fun h => .inl jj, fun h => h.elim (fun h => by omega) (fun h => absurd h.1 e2)⟩
  ·
   refine ⟨_, ?_, short j jj hjy (.inr jj)⟩
   refine Ev.step step1 (ev_now fun k => ?_)
   simp only [r5less.j1]
   rw [if_neg (by rw [decide_eq_true_iff]; omega)]
theorem less_f (x y : List Nat) (hx : x.length ≤ 1000000) (hy : y.length ≤ 1000000) : ∃ b, Ev (fun k => r5less.f k (up x) (up y)) b ∧ (b = true ↔ x < y) := by
 obtain ⟨b, hb, hbi⟩ := less_l0 x y hx hy x.length 0 jj jj
 exact ⟨b, hb, hbi⟩
theorem rgcd_eq : ∀ k a b, r5gcd.l0 k a b = line_gcd.l0 k a b
 | 0, _, _ => rfl
 | k + 1, a, b => by
  simp only [r5gcd.l0, line_gcd.l0]
  by_cases h : b = 0
  ·
   rw [if_pos h, if_pos h]
  ·
   rw [if_neg h, if_neg h, rgcd_eq k]
def AsGood (a : Nat → Nat → Int) (b c : List Nat) : Prop :=
 cw a c * (b.length : Nat) < cw a b * (c.length : Nat) ∨ (cw a c * (b.length : Nat) = cw a b * (c.length : Nat) ∧ (b.length < c.length ∨ (b.length = c.length ∧ ¬ c < b)))
theorem AsGood.mean {a : Nat → Nat → Int} {b c : List Nat} (h : AsGood a b c) : cw a c * (b.length : Nat) ≤ cw a b * (c.length : Nat) := by
 rcases h with h | h
 ·
  omega
 ·
  omega
theorem frac_lt {p q r : Int} {x y z : Nat} (hx : 0 < x) (hy : 0 < y) (hz : 0 < z) (h1 : p * (y : Nat) ≤ q * (x : Nat)) (h2 : q * (z : Nat) ≤ r * (y : Nat)) : p * (z : Nat) ≤ r * (x : Nat) ∧ (p * (z : Nat) = r * (x : Nat) → p * (y : Nat) = q * (x : Nat) ∧ q * (z : Nat) = r * (y : Nat)) := by
 have a1 := Int.mul_le_mul_of_nonneg_right h1 (by omega : (0 : Int) ≤ (z : Nat))
 have a2 := Int.mul_le_mul_of_nonneg_right h2 (by omega : (0 : Int) ≤ (x : Nat))
 have e1 : p * (y : Nat) * (z : Nat) = p * (z : Nat) * (y : Nat) := by rw [Int.mul_assoc, Int.mul_comm (y : Int), ← Int.mul_assoc]
 have e2 : q * (x : Nat) * (z : Nat) = q * (z : Nat) * (x : Nat) := by rw [Int.mul_assoc, Int.mul_comm (x : Int), ← Int.mul_assoc]
 have e3 : r * (y : Nat) * (x : Nat) = r * (x : Nat) * (y : Nat) := by rw [Int.mul_assoc, Int.mul_comm (y : Int), ← Int.mul_assoc]
 refine ⟨Int.le_of_mul_le_mul_right (a := (y : Int)) jj jj, fun h => ?_⟩
 have e4 : p * (z : Nat) * (y : Nat) = r * (x : Nat) * (y : Nat) := by rw [h]
 have b1 : p * (y : Nat) * (z : Nat) = q * (x : Nat) * (z : Nat) := by omega
 have b2 : q * (z : Nat) * (x : Nat) = r * (y : Nat) * (x : Nat) := by omega
 exact ⟨Int.eq_of_mul_eq_mul_right jj b1, Int.eq_of_mul_eq_mul_right jj b2⟩
theorem AsGood.refl {a : Nat → Nat → Int} (b : List Nat) : AsGood a b b := .inr ⟨rfl, .inr ⟨rfl, List.lt_irrefl b⟩⟩
theorem AsGood.trans {a : Nat → Nat → Int} {b c d : List Nat} (hb : 0 < b.length) (hc : 0 < c.length) (hd : 0 < d.length) (h1 : AsGood a b c) (h2 : AsGood a c d) : AsGood a b d := by
 have f := frac_lt hd hc hb h2.mean h1.mean
 by_cases e : cw a d * (b.length : Nat) = cw a b * (d.length : Nat)
 ·
  have f2 := f.2 e
  refine .inr ⟨e, ?_⟩
  rcases h1 with h1 | ⟨_, h1⟩
  ·
   omega
  rcases h2 with h2 | ⟨_, h2⟩
  ·
   omega
  rcases h1 with h1 | ⟨l1, h1⟩
  ·
   rcases h2 with h2 | ⟨l2, h2⟩ <;> exact .inl jj
  ·
   rcases h2 with h2 | ⟨l2, h2⟩
   ·
    exact .inl jj
   ·
    refine .inr ⟨by omega, fun h3 => ?_⟩
    by_cases h4 : d < c
    ·
     exact h2 h4
    ·
     exact h1 (List.lt_of_le_of_lt (List.not_lt.1 h4) h3)
 ·
  exact .inl jj
section
variable {n : Nat} {A : List (List Int)}
theorem best_l0 (hA : Arg n A) (R : List (List Int)) (hR : ∀ c, c ∈ R → ∃ z, c = up z ∧ Cy n (ent A) z) (hl : R.length ≤ 1000000) : ∀ d j, j + d = R.length → ∀ b, Cy n (ent A) b → (∀ t z, t < j → R.getD t [] = up z → AsGood (ent A) b z) →
  ∃ b', Cy n (ent A) b' ∧ Ev (fun k => r5best.l0 k A (up b) R (j : Int)) (up b') ∧ ∀ z, up z ∈ R → AsGood (ent A) b' z := by
 intro d
 induction d with
 | zero =>
  intro j hj b hb hg
  refine ⟨b, hb, ev_now fun k => ?_, fun z hz => ?_⟩
  ·
   simp only [r5best.l0]
   rw [ji]
  ·
   obtain ⟨t, ht, e⟩ := List.getElem_of_mem hz
   exact hg t z jj (by rw [List.getD_eq_getElem?_getD, List.getElem?_eq_getElem ht]; exact e)
 | succ d ih =>
  intro j hj b hb hg
  have hj' : j < R.length := by omega
  have gj : R.getD j [] = R[j] := by rw [List.getD_eq_getElem?_getD, List.getElem?_eq_getElem hj']; rfl
  obtain ⟨c, hc, hcy⟩ := hR R[j] (List.getElem_mem hj')
  rw [hc] at gj
  have bb := cw_bd hA hb
  have bc := cw_bd hA hcy
  have ub := up_length b
  have uc := up_length c
  have m1 : -36000 ≤ cw (ent A) c * (b.length : Nat) ∧ cw (ent A) c * (b.length : Nat) ≤ 36000 := by
   have k1 := Int.mul_le_mul_of_nonneg_right bc.1 (by omega : (0 : Int) ≤ (b.length : Nat))
   have k2 := Int.mul_le_mul_of_nonneg_right bc.2.1 (by omega : (0 : Int) ≤ (b.length : Nat))
   omega
  have m2 : -36000 ≤ cw (ent A) b * (c.length : Nat) ∧ cw (ent A) b * (c.length : Nat) ≤ 36000 := by
   have k1 := Int.mul_le_mul_of_nonneg_right bb.1 (by omega : (0 : Int) ≤ (c.length : Nat))
   have k2 := Int.mul_le_mul_of_nonneg_right bb.2.1 (by omega : (0 : Int) ≤ (c.length : Nat))
   omega
  have w1 : wrap64 (cw (ent A) c * ((up b).length : Int)) = cw (ent A) c * (b.length : Nat) := by rw [ub, wr jj jj]
  have w2 : wrap64 (cw (ent A) b * ((up c).length : Int)) = cw (ent A) b * (c.length : Nat) := by rw [uc, wr jj jj]
  have step : ∀ k, r5best.l0 (k + 1) A (up b) R (j : Int) = (r5weight.f k A (up c)).bind fun t => (r5weight.f k A (up b)).bind fun u => if wrap64 (t * ((up b).length : Int)) > wrap64 (u * ((up c).length : Int)) then r5best.l0 k A (up c) R ((j + 1 : Nat) : Int) else if wrap64 (t * ((up b).length : Int)) = wrap64 (u * ((up c).length : Int)) then (if ((up c).length : Int) < ((up b).length : Int) then r5best.l0 k A (up c) R ((j + 1 : Nat) : Int) else if ((up c).length : Int) = ((up b).length : Int) then ((r5less.f k (up c) (up b)).bind fun t => if t = true then r5best.l0 k A (up c) R ((j + 1 : Nat) : Int) else r5best.l0 k A (up b) R ((j + 1 : Nat) : Int)) else r5best.l0 k A (up b) R ((j + 1 : Nat) : Int)) else r5best.l0 k A (up b) R ((j + 1 : Nat) : Int) := fun k => by
   simp only [r5best.l0]
   rw [jh, jh, ji, rdL, gj, wr1 j jj]
  have take : AsGood (ent A) c b → ∃ b', Cy n (ent A) b' ∧ Ev (fun k => r5best.l0 k A (up c) R ((j + 1 : Nat) : Int)) (up b') ∧ ∀ z, up z ∈ R → AsGood (ent A) b' z := fun hcb => ih (j + 1) jj c hcy fun t z ht hz => by
   by_cases e : t = j
   ·
    subst e
    rw [gj] at hz
    rw [← up_inj hz]
    exact AsGood.refl c
   ·
    have hbz := hg t z jj hz
    have hzR : up z ∈ R := by rw [← hz, List.getD_eq_getElem?_getD, List.getElem?_eq_getElem (by omega : t < R.length)]; exact List.getElem_mem _
    obtain ⟨z', hz', hcz⟩ := hR _ hzR
    rw [up_inj hz'] at hbz ⊢
    exact AsGood.trans jj jj hcz.pre.ne hcb hbz
  have keep : AsGood (ent A) b c → ∃ b', Cy n (ent A) b' ∧ Ev (fun k => r5best.l0 k A (up b) R ((j + 1 : Nat) : Int)) (up b') ∧ ∀ z, up z ∈ R → AsGood (ent A) b' z := fun hbc => ih (j + 1) jj b hb fun t z ht hz => by
   by_cases e : t = j
   ·
    subst e
    rw [gj] at hz
    rw [← up_inj hz]
    exact hbc
   ·
    exact hg t z jj hz
  have ec := weight_f hA hcy
  have eb := weight_f hA hb
  by_cases c1 : cw (ent A) c * (b.length : Nat) > cw (ent A) b * (c.length : Nat)
  ·
   obtain ⟨b', h1, h2, h3⟩ := take (.inl c1)
   exact ⟨b', h1, Ev.step step (Ev.bind ec (Ev.bind eb (Ev.congr (fun k => if_pos (by rw [w1, w2]; exact c1)) h2))), h3⟩
  ·
   by_cases c2 : cw (ent A) c * (b.length : Nat) = cw (ent A) b * (c.length : Nat)
   ·
    by_cases c3 : c.length < b.length
    ·
     obtain ⟨b', h1, h2, h3⟩ := take (.inr ⟨c2.symm, .inl c3⟩)
     exact ⟨b', h1, Ev.step step (Ev.bind ec (Ev.bind eb (Ev.congr (fun k => if_neg (by rw [w1, w2]; exact c1)) (Ev.congr (fun k => if_pos (by rw [w1, w2]; exact c2)) (Ev.congr (fun k => jh) h2))))), h3⟩
    ·
     by_cases c4 : c.length = b.length
     ·
      obtain ⟨t, et, hti⟩ := less_f c b jj jj
      by_cases c5 : t = true
      ·
       obtain ⟨b', h1, h2, h3⟩ := take (.inr ⟨c2.symm, .inr ⟨c4, fun h => List.lt_asymm h (hti.1 c5)⟩⟩)
       exact ⟨b', h1, Ev.step step (Ev.bind ec (Ev.bind eb (Ev.congr (fun k => if_neg (by rw [w1, w2]; exact c1)) (Ev.congr (fun k => if_pos (by rw [w1, w2]; exact c2)) (Ev.congr (fun k => ji) (Ev.congr (fun k => jh) (Ev.bind et (Ev.congr (fun k => if_pos c5) h2)))))))), h3⟩
      ·
       obtain ⟨b', h1, h2, h3⟩ := keep (.inr ⟨c2, .inr ⟨c4.symm, fun h => c5 (hti.2 h)⟩⟩)
       exact ⟨b', h1, Ev.step step (Ev.bind ec (Ev.bind eb (Ev.congr (fun k => if_neg (by rw [w1, w2]; exact c1)) (Ev.congr (fun k => if_pos (by rw [w1, w2]; exact c2)) (Ev.congr (fun k => ji) (Ev.congr (fun k => jh) (Ev.bind et (Ev.congr (fun k => if_neg c5) h2)))))))), h3⟩
     ·
      obtain ⟨b', h1, h2, h3⟩ := keep (.inr ⟨c2, .inl jj⟩)
      exact ⟨b', h1, Ev.step step (Ev.bind ec (Ev.bind eb (Ev.congr (fun k => if_neg (by rw [w1, w2]; exact c1)) (Ev.congr (fun k => if_pos (by rw [w1, w2]; exact c2)) (Ev.congr (fun k => ji) (Ev.congr (fun k => ji) h2)))))), h3⟩
   ·
    obtain ⟨b', h1, h2, h3⟩ := keep (.inl jj)
    exact ⟨b', h1, Ev.step step (Ev.bind ec (Ev.bind eb (Ev.congr (fun k => if_neg (by rw [w1, w2]; exact c1)) (Ev.congr (fun k => if_neg (by rw [w1, w2]; exact c2)) h2)))), h3⟩
theorem best_f (hA : Arg n A) : ((∀ z, ¬ Cy n (ent A) z) ∧ Ev (fun k => r5best.f k A) []) ∨ ∃ b, Cy n (ent A) b ∧ Ev (fun k => r5best.f k A) (up b) ∧ ∀ z, Cy n (ent A) z → AsGood (ent A) b z := by
 obtain ⟨R, eR, hR, lR⟩ := Cycles_f hA
 by_cases h0 : R = []
 ·
  subst h0
  refine .inl ⟨fun z hz => (by have := (hR (up z)).2 ⟨z, rfl, hz⟩; cases this), ?_⟩
  unfold r5best.f
  refine Ev.bind eR (ev_now fun k => ?_)
  simp only [r5best.l0]
  rw [if_neg (by simp)]
 ·
  have h1 : 0 < R.length := List.length_pos_iff.2 h0
  obtain ⟨c, hc, hcy⟩ := (hR R[0]).1 (List.getElem_mem h1)
  have g0 : R.getD 0 [] = up c := by rw [List.getD_eq_getElem?_getD, List.getElem?_eq_getElem h1]; exact hc
  obtain ⟨b, hb, eb, hg⟩ := best_l0 hA R (fun c hc => (hR c).1 hc) lR (R.length - 1) 1 jj c hcy (fun t z ht hz => by
   obtain rfl : t = 0 := by omega
   rw [g0] at hz
   rw [← up_inj hz]
   exact AsGood.refl c)
  refine .inr ⟨b, hb, ?_, fun z hz => hg z ((hR (up z)).2 ⟨z, rfl, hz⟩)⟩
  unfold r5best.f
  refine Ev.bind eR (Ev.step (fun k => ?_) eb)
  simp only [r5best.l0]
  rw [jh, jh, if_pos (by simp)]
  show r5best.l0 k A (R.getD 0 []) R _ = _
  rw [g0, show wrap64 ((0 : Int) + 1) = ((1 : Nat) : Int) from wr1 0 jj]
theorem RSpeed_f (hA : Arg n A) : ((∀ z, ¬ Cy n (ent A) z) ∧ (∀ k i, Seen n (n + 1) 0 k i → powf n (ent A) k i i = NEV) ∧ Ev (fun k => r5best.f k A) [] ∧ Ev (fun k => r5Speed.f k A) (0, 0, 10)) ∨
  ∃ b num den, Cy n (ent A) b ∧ Ev (fun k => r5best.f k A) (up b) ∧ (∀ z, Cy n (ent A) z → AsGood (ent A) b z) ∧ Top n (ent A) (Seen n (n + 1) 0) num den ∧ cw (ent A) b * den = num * (b.length : Nat) ∧ Ev (fun k => r5Speed.f k A) (num, den, 0) := by
 have h6 := hA.six
 have eM : Ev (fun k => r5Matrix.f k A) true := by
  rcases Matrix_f A with ⟨_, h⟩ | ⟨h, _⟩
  ·
   exact h
  ·
   exact absurd ⟨n, hA⟩ h
 rcases best_f hA with ⟨hno, eb⟩ | ⟨b, hb, eb, hg⟩
 ·
  refine .inl ⟨hno, fun k i hS => ?_, eb, ?_⟩
  ·
   by_cases e : powf n (ent A) k i i = NEV
   ·
    exact e
   ·
    exfalso
    obtain ⟨v, hv, v0, vL, vw⟩ := pow_att k i i hS.2.1 hS.2.1 e
    have hm := mean_le (num := -1000000) (den := 1) (fun c hc => absurd hc (hno c)) k v hv (by rw [v0, vL])
    have := (wt_bd hA.bd hv).1
    have := hS.1
    omega
  ·
   unfold r5Speed.f
   exact Ev.bind eM (Ev.congr (fun k => if_pos rfl) (Ev.bind eb (ev_some fun k => if_pos rfl)))
 ·
  have bb := cw_bd hA hb
  have ub := up_length b
  have hmean : ∀ (L : Nat) (v : Nat → Nat), Wk n (ent A) v L → v 0 = v L → wt (ent A) v L * ((b.length : Nat) : Int) ≤ cw (ent A) b * (L : Nat) := mean_le (fun c hc => (hg c hc).mean)
  have hwk := hb.wk
  have e0 : cyc b 0 = cyc b b.length := by rw [cyc_zero, cyc_len]
  have hi := hwk.lt 0 jj
  have hge := pow_ge hA.bd jj b.length (cyc b) jj hwk
  rw [← e0] at hge
  have n1 : (NEV : Int) = -1152921504606846976 := rfl
  have hne : powf n (ent A) b.length (cyc b 0) (cyc b 0) ≠ NEV := fun e => by
   rw [e] at hge
   have := bb.1
   unfold cw at this
   omega
  have hx : powf n (ent A) b.length (cyc b 0) (cyc b 0) = cw (ent A) b := by
   obtain ⟨v, hv, v0, vL, vw⟩ := pow_att b.length _ _ hi hi hne
   have := hmean b.length v hv (by rw [v0, vL])
   rw [vw] at this
   have := Int.le_of_mul_le_mul_right this jj
   unfold cw at this ⊢
   omega
  obtain ⟨g, eg, hgc⟩ := gcd_f (cw (ent A) b) (b.length : Int) jj jj jj jj
  have gp := hgc.pos (.inr jj)
  have hT := Top.make (B := Seen n (n + 1) 0) hx jj bb.1 bb.2.1 bb.2.2.1 bb.2.2.2 hgc ⟨bb.2.2.1, hi, .inl (by have := hb.len; omega)⟩ (fun k' i' hS hn => by
   obtain ⟨v, hv, v0, vL, vw⟩ := pow_att k' i' i' hS.2.1 hS.2.1 hn
   rw [← vw]
   exact hmean k' v hv (by rw [v0, vL]))
  have eg' : Ev (fun k => r5gcd.f k (cw (ent A) b) ((up b).length : Int)) g := by
   rw [ub]
   refine Ev.congr (fun k => ?_) eg
   exact rgcd_eq k _ _
  have hval : cw (ent A) b * Int.tdiv (b.length : Int) g = Int.tdiv (cw (ent A) b) g * (b.length : Nat) := by
   obtain ⟨u, hu⟩ := hgc.left
   obtain ⟨v, hv⟩ := hgc.right
   have e1 : Int.tdiv (cw (ent A) b) g = u := by rw [hu]; exact Int.mul_tdiv_cancel_left _ jj
   have e2 : Int.tdiv (b.length : Int) g = v := by rw [hv]; exact Int.mul_tdiv_cancel_left _ jj
   rw [e1, e2, hu, hv, Int.mul_comm g u, Int.mul_assoc]
  refine .inr ⟨b, _, _, hb, eb, hg, hT, hval, ?_⟩
  have dd := hT.den0
  have d6 := hT.den6
  have l1 := hT.lo
  have l2 := hT.hi
  have epace : Ev (fun k => r5pace.f k A (up b)) (Int.tdiv (cw (ent A) b) g, Int.tdiv (b.length : Int) g) := by
   unfold r5pace.f
   refine Ev.bind (weight_f hA hb) (Ev.bind eg' (ev_some fun k => ?_))
   rw [ji, wr (x := Int.tdiv (cw (ent A) b) g) jj jj, ub, ← Int.tdiv_eq_ediv_of_nonneg (by omega : (0 : Int) ≤ (b.length : Int)), wr jj jj]
  unfold r5Speed.f
  exact Ev.bind eM (Ev.congr (fun k => if_pos rfl) (Ev.bind eb (Ev.congr (fun k => ji) (Ev.bind epace (Ev.now _)))))
end
theorem copr' {p q : Int} {m : Nat} (hp : ∀ d : Int, d ∣ p → d ∣ q → d ∣ 1) (h : q ∣ p * (m : Nat)) : q ∣ (m : Int) := by
 have hc : Nat.Coprime q.natAbs p.natAbs := by
  have h1 := hp ((Nat.gcd q.natAbs p.natAbs : Nat) : Int) (Int.ofNat_dvd_left.2 (Nat.gcd_dvd_right _ _)) (Int.ofNat_dvd_left.2 (Nat.gcd_dvd_left _ _))
  exact Nat.dvd_one.1 (Int.natCast_dvd_natCast.1 h1)
 have h2 : q.natAbs ∣ p.natAbs * m := by
  have := Int.natAbs_dvd_natAbs.2 h
  rwa [Int.natAbs_mul, Int.natAbs_natCast] at this
 exact Int.natAbs_dvd.1 (Int.natCast_dvd_natCast.2 (hc.dvd_of_dvd_mul_left h2))
theorem Top.uniq {n : Nat} {a : Nat → Nat → Int} {num den num' den' : Int} (h : Top n a (Seen n (n + 1) 0) num den) (h' : Top n a (Seen n (n + 1) 0) num' den') : num = num' ∧ den = den' := by
 have d0 := h.den0
 have d0' := h'.den0
 have cross1 : ∀ {p q p' q' : Int}, Top n a (Seen n (n + 1) 0) p q → Top n a (Seen n (n + 1) 0) p' q' → p * q' ≤ p' * q := by
  intro p q p' q' t t'
  obtain ⟨k, i, hB, hne, he⟩ := t.att
  have h2 := t'.top k i hB hne
  have q0 := t.den0
  have hk := hB.1
  have hk0 : (0 : Int) < (k : Nat) := by omega
  refine Int.le_of_mul_le_mul_right (a := ((k : Nat) : Int)) ?_ hk0
  have e1 : p * q' * (k : Nat) = p * (k : Nat) * q' := by rw [Int.mul_assoc, Int.mul_comm q', ← Int.mul_assoc]
  have e2 : p' * q * (k : Nat) = p' * (k : Nat) * q := by rw [Int.mul_assoc, Int.mul_comm q, ← Int.mul_assoc]
  rw [e1, e2, ← he]
  have := Int.mul_le_mul_of_nonneg_right h2 (Int.le_of_lt q0)
  have e3 : powf n a k i i * q * q' = powf n a k i i * q' * q := by rw [Int.mul_assoc, Int.mul_comm q, ← Int.mul_assoc]
  rw [e3]
  exact this
 have eq : num * den' = num' * den := Int.le_antisymm (cross1 h h') (cross1 h' h)
 obtain ⟨m, rfl⟩ : ∃ m : Nat, den = (m : Int) := ⟨den.toNat, by omega⟩
 obtain ⟨m', rfl⟩ : ∃ m : Nat, den' = (m : Int) := ⟨den'.toNat, by omega⟩
 have a1 : (m : Int) ∣ (m' : Int) := copr' h.low ⟨num', by rw [eq, Int.mul_comm]⟩
 have a2 : (m' : Int) ∣ (m : Int) := copr' h'.low ⟨num, by rw [← eq, Int.mul_comm]⟩
 have e := Nat.dvd_antisymm (Int.natCast_dvd_natCast.1 a1) (Int.natCast_dvd_natCast.1 a2)
 subst e
 exact ⟨Int.eq_of_mul_eq_mul_right jj eq, rfl⟩
theorem vec_next (f : Nat → Int) (j : Nat) : vec j f ++ [f j] = vec (j + 1) f := by simp [vec, List.range_succ]
theorem rows_next (n : Nat) (f : Nat → Nat → Int) (i : Nat) : ((List.range i).map fun a => vec n (f a)) ++ [vec n (f i)] = (List.range (i + 1)).map fun a => vec n (f a) := by simp [List.range_succ]
section
variable {n : Nat} {A : List (List Int)} {num den : Int}
theorem scaled_l1 (hA : Arg n A) (h1 : -6000 ≤ num) (h2 : num ≤ 6000) (h3 : 0 ≤ den) (h4 : den ≤ 6) (i : Nat) (hi : i < n) (r : List (List Int))
  (hr : Ev (fun k => r5scaled.l0 k A ((List.range (i + 1)).map fun p => vec n (slackf num den (ent A) p)) ((i + 1 : Nat) : Int) num den) r) : ∀ d j, j + d = n →
  Ev (fun k => r5scaled.l1 k A ((List.range i).map fun p => vec n (slackf num den (ent A) p)) (i : Int) (vec j (slackf num den (ent A) i)) (j : Int) num den) r := by
 have h6 := hA.six
 have hl := hA.is.1
 intro d
 induction d with
 | zero =>
  intro j hj
  obtain rfl : j = n := by omega
  refine Ev.step (fun k => ?_) hr
  simp only [r5scaled.l1]
  rw [ji, List.length_map, List.length_range, jh, wr1 i jj, rows_next]
 | succ d ih =>
  intro j hj
  have hj' : j < n := by omega
  have e2 := hA.is.2 i hi
  refine Ev.step (fun k => ?_) (ih (j + 1) jj)
  simp only [r5scaled.l1]
  rw [jh, jh, jh, jh, rdL, jh, rdI, yB, wr1 j jj, ← vec_next]
  show (if ent A i j = -1152921504606846976 then _ else _) = _
  by_cases e : ent A i j = NEV
  ·
   rw [if_pos (show ent A i j = -1152921504606846976 from e), jh, show slackf num den (ent A) i j = -1152921504606846976 from if_pos e]
  ·
   have b := (hA.bd i j hi hj').resolve_left e
   have m : -6000 ≤ den * ent A i j ∧ den * ent A i j ≤ 6000 := by
    have : den = 0 ∨ den = 1 ∨ den = 2 ∨ den = 3 ∨ den = 4 ∨ den = 5 ∨ den = 6 := by omega
    rcases this with rfl | rfl | rfl | rfl | rfl | rfl | rfl <;> omega
   rw [if_neg (show ¬ ent A i j = -1152921504606846976 from e), jh, show slackf num den (ent A) i j = den * ent A i j - num from if_neg e]
   show r5scaled.l1 k A _ _ (_ ++ [wrap64 (wrap64 (den * ent A i j) - num)]) _ num den = _
   rw [wr (x := den * ent A i j) jj jj, wr jj jj]
theorem scaled_f (hA : Arg n A) (h1 : -6000 ≤ num) (h2 : num ≤ 6000) (h3 : 0 ≤ den) (h4 : den ≤ 6) : Ev (fun k => r5scaled.f k A num den) (mat n (slackf num den (ent A))) := by
 have h6 := hA.six
 have hl := hA.is.1
 have key : ∀ d i, i + d = n → Ev (fun k => r5scaled.l0 k A ((List.range i).map fun p => vec n (slackf num den (ent A) p)) (i : Int) num den) (mat n (slackf num den (ent A))) := by
  intro d
  induction d with
  | zero =>
   intro i hi
   obtain rfl : i = n := by omega
   refine ev_now fun k => ?_
   simp only [r5scaled.l0]
   rw [ji]
   rfl
  | succ d ih =>
   intro i hi
   refine Ev.step (fun k => ?_) (scaled_l1 hA h1 h2 h3 h4 i jj _ (ih (i + 1) jj) n 0 jj)
   simp only [r5scaled.l0]
   rw [jh]
   rfl
 exact key n 0 jj
end
def wsup (n : Nat) (s : Nat → Nat → Int) (k i j : Nat) : Int := sup (fun t => powf n s t i j) k
theorem wsup_star {n : Nat} {M : Int} {s : Nat → Nat → Int} (ha : BdM n n M s) (hM : 0 ≤ M) (hs : M * (n : Nat) < 1152921504606846976) (hp : NoPos n s) (h2 : M * (2 ^ n : Nat) < 100000000000000000) (hM2 : M < 100000000000000000) (i j : Nat) (hi : i < n) (hj : j < n) : wsup n s n i j = fwk s n i j := by
 have B := star_bd ha hM h2
 have h0 := (B i j hi hj).ge jj
 refine Int.le_antisymm (sup_le h0 fun t ht => ?_) ?_
 ·
  by_cases e : powf n s t i j = NEV
  ·
   rw [e]; exact h0
  ·
   obtain ⟨v, hv, v0, vL, vw⟩ := pow_att t i j hi hj e
   have := (walk_star ha hM hs hp h2 hM2 t hv).2
   rwa [v0, vL, vw] at this
 ·
  rcases fwk_att (a := s) n jj i j hi hj with e | ⟨L, v, hv, v0, vL, vw⟩
  ·
   rw [e]; exact sup_nev _ _
  ·
   obtain ⟨K, y, g, hlt, hxy, _, _⟩ := Go.red ha hM hs hp 1 jj L ⟨v, hv, v0, vL, vw⟩
   rw [Nat.mul_one] at hlt
   have h1 := g.le_pow ha hM (Int.lt_of_le_of_lt (Int.mul_le_mul_of_nonneg_left jj hM) hs)
   exact Int.le_trans (Int.le_trans hxy h1.2) (le_sup (h := fun t => powf n s t i j) hlt)
section
variable {n : Nat} {M : Int} {s : Nat → Nat → Int}
theorem walks_l2 (hn : n ≤ 6) (k i : Nat) (_hk : k ≤ 6) (hi : i < n) (r : List (List Int))
  (hr : Ev (fun q => r5walks.l1 q (mat n s) (mat n (upd (wsup n s k) (wsup n s (k + 1)) (i + 1) 0)) (mat n (powf n s k)) (k : Int) ((i + 1 : Nat) : Int)) r) : ∀ d j, j + d = n →
  Ev (fun q => r5walks.l2 q (mat n s) (mat n (upd (wsup n s k) (wsup n s (k + 1)) i j)) (mat n (powf n s k)) (k : Int) (i : Int) (j : Int)) r := by
 have l0 : (mat n s).length = n := yE _ _
 intro d
 induction d with
 | zero =>
  intro j hj
  obtain rfl : j = n := by omega
  refine Ev.step (fun q => ?_) hr
  simp only [r5walks.l2]
  rw [ji, wr1 i jj, upd_next]
 | succ d ih =>
  intro j hj
  have hj' : j < n := by omega
  have l1 : (mat n (upd (wsup n s k) (wsup n s (k + 1)) i j)).length = n := yE _ _
  have l2 : ((mat n (upd (wsup n s k) (wsup n s (k + 1)) i j)).getD i []).length = n := by rw [mat_get _ hi, yB]
  have l3 : (mat n (powf n s k)).length = n := yE _ _
  have l4 : ((mat n (powf n s k)).getD i []).length = n := by rw [mat_get _ hi, yB]
  have v1 : ((mat n (upd (wsup n s k) (wsup n s (k + 1)) i j)).getD i []).getD j 0 = wsup n s k i j := (upd_ent _ _ i j hi hj').trans (upd_old _ _ i j)
  have v2 : ((mat n (powf n s k)).getD i []).getD j 0 = powf n s k i j := ent_mat _ hi hj'
  refine Ev.step (fun q => ?_) (ih (j + 1) jj)
  simp only [r5walks.l2]
  rw [jh, jh, jh, jh, rdL, jh, jh, rdL, jh, rdI, rdI, v1, v2, toN, toN, wr1 j jj, mx_max]
  have := upd_set (n := n) (wsup n s k) (wsup n s (k + 1)) i j hi
  rw [show wsup n s (k + 1) i j = max (wsup n s k i j) (powf n s k i j) from rfl] at this
  rw [this]
theorem walks_l1 (hn : n ≤ 6) (k : Nat) (hk : k ≤ 6) (r : List (List Int))
  (hr : Ev (fun q => r5walks.l0 q (mat n s) (mat n (wsup n s (k + 1))) (mat n (powf n s k)) ((k + 1 : Nat) : Int)) r) : ∀ d i, i + d = n →
  Ev (fun q => r5walks.l1 q (mat n s) (mat n (upd (wsup n s k) (wsup n s (k + 1)) i 0)) (mat n (powf n s k)) (k : Int) (i : Int)) r := by
 have l0 : (mat n s).length = n := yE _ _
 intro d
 induction d with
 | zero =>
  intro i hi
  obtain rfl : i = n := by omega
  refine Ev.step (fun q => ?_) hr
  simp only [r5walks.l1]
  rw [ji, wr1 k jj, upd_all]
 | succ d ih =>
  intro i hi
  refine Ev.step (fun q => ?_) (walks_l2 hn k i hk jj r (ih (i + 1) jj) n 0 jj)
  simp only [r5walks.l1]
  rw [jh]
  rfl
theorem prod_left (hn : n ≤ 6) (ha : BdM n n M s) (hM : 0 ≤ M) (hs : M * (10 : Nat) < 1152921504606846976) (k : Nat) (hk : k ≤ 6) : Ev (fun q => r5Product.f q (mat n s) (mat n (powf n s k))) (mat n (powf n s (k + 1))) := by
 have hk2 : M * ((k : Nat) : Int) ≤ M * (6 : Nat) := Int.mul_le_mul_of_nonneg_left jj hM
 have hsum : M + M * ((k : Nat) : Int) < 1152921504606846976 := by omega
 have h := Product_mat (n := n) jj ha (BdM.pow ha k) hsum hM (Int.mul_nonneg hM jj)
 have e : mat n (mulf n s (powf n s k)) = mat n (powf n s (k + 1)) := mat_congr fun i j hi hj => by
  have := pow_add (n := n) ha hM 1 k (by rw [show ((1 + k : Nat) : Int) = 1 + (k : Int) by omega, Int.mul_add]; omega) hi hj
  rw [Nat.add_comm k 1, this]
  exact mul_congr (fun q hq => (one_mul ha jj hi hq).symm) (fun _ _ => rfl)
 rwa [e] at h
theorem walks_l0 (hn : n ≤ 6) (ha : BdM n n M s) (hM : 0 ≤ M) (hs : M * (10 : Nat) < 1152921504606846976) : ∀ d k, (k + 1) + d = n →
  Ev (fun q => r5walks.l0 q (mat n s) (mat n (wsup n s (k + 1))) (mat n (powf n s k)) ((k + 1 : Nat) : Int)) (mat n (wsup n s n)) := by
 have l0 : (mat n s).length = n := yE _ _
 intro d
 induction d with
 | zero =>
  intro k hk
  obtain rfl : n = k + 1 := by omega
  refine ev_now fun q => ?_
  simp only [r5walks.l0]
  rw [ji]
 | succ d ih =>
  intro k hk
  have h1 := walks_l1 (s := s) hn (k + 1) jj _ (ih (k + 1) jj) n 0 jj
  rw [← upd_zero] at h1
  refine Ev.step (f := fun q => (r5Product.f q (mat n s) (mat n (powf n s k))).bind fun t => r5walks.l1 q (mat n s) (mat n (wsup n s (k + 1))) t ((k + 1 : Nat) : Int) ((0 : Nat) : Int)) (fun q => ?_) (Ev.bind (prod_left hn ha hM hs k jj) h1)
  simp only [r5walks.l0]
  rw [jh]
  rfl
theorem walks_f (hn1 : 1 ≤ n) (hn : n ≤ 6) (ha : BdM n n M s) (hM : 0 ≤ M) (hM2 : M ≤ 100000) (hp : NoPos n s) : Ev (fun q => r5walks.f q (mat n s)) (mat n (fwk s n)) := by
 have t6 := pow6 hn
 have m2 : M * ((2 ^ n : Nat) : Int) ≤ 100000 * ((2 ^ n : Nat) : Int) := Int.mul_le_mul_of_nonneg_right hM2 (Int.natCast_nonneg _)
 have mn : M * ((n : Nat) : Int) ≤ 100000 * ((n : Nat) : Int) := Int.mul_le_mul_of_nonneg_right hM2 jj
 have h := walks_l0 hn ha hM jj (n - 1) 0 jj
 have e1 : mat n (wsup n s (0 + 1)) = mat n onef := mat_congr fun i j _ _ => by
  show max NEV (onef i j) = onef i j
  refine Int.max_eq_right ?_
  unfold onef
  split <;> decide
 rw [e1, mat_congr (fun i j hi hj => wsup_star ha hM jj hp jj jj i j hi hj)] at h
 unfold r5walks.f
 rw [yE]
 exact Ev.bind (One_f n jj) (Ev.bind (One_f n jj) h)
end
section
variable {n : Nat} {A : List (List Int)}
theorem rconn_l0 {n : Nat} (hn : n ≤ 6) (d : Nat → Nat → Int) : ∀ e i, i + e = n → ∃ b, Ev (fun k => r5connected.l0 k (mat n d) (i : Int)) b ∧ (b = true ↔ ∀ p q, i ≤ p → p < n → q < n → d p q ≠ NEV) := by
 have l0 : (mat n d).length = n := yE _ _
 intro e
 induction e with
 | zero =>
  intro i hi
  refine ⟨true, ev_now fun k => ?_, fun _ p q h1 h2 => by omega, fun _ => rfl⟩
  simp only [r5connected.l0]
  rw [ji]
 | succ e ih =>
  intro i hi
  have hi' : i < n := by omega
  have l1 : ((mat n d).getD i []).length = n := by rw [mat_get _ hi', yB]
  obtain ⟨t, et, hti⟩ := has_f ((mat n d).getD i []) jj (-1152921504606846976)
  have hti' : t = true ↔ ∃ q, q < n ∧ d i q = NEV := by
   rw [hti]
   constructor
   ·
    rintro ⟨q, h1, h2⟩
    rw [l1] at h1
    exact ⟨q, h1, by have : ((mat n d).getD i []).getD q 0 = d i q := ent_mat _ hi' h1; rw [← this]; exact h2⟩
   ·
    rintro ⟨q, h1, h2⟩
    exact ⟨q, by omega, by have : ((mat n d).getD i []).getD q 0 = d i q := ent_mat _ hi' h1; rw [this]; exact h2⟩
  have step : ∀ k, r5connected.l0 (k + 1) (mat n d) (i : Int) = (r5has.f k ((mat n d).getD i []) (-1152921504606846976)).bind fun t => if t = true then some false else r5connected.l0 k (mat n d) ((i + 1 : Nat) : Int) := fun k => by
   simp only [r5connected.l0]
   rw [jh, jh, rdL, wr1 i jj]
  by_cases h : t = true
  ·
   obtain ⟨q, h1, h2⟩ := hti'.1 h
   exact ⟨false, Ev.step step (Ev.bind et (ev_some fun k => if_pos h)), fun h => absurd h (by decide), fun hh => absurd h2 (hh i q jj hi' h1)⟩
  ·
   obtain ⟨b, hb, hbi⟩ := ih (i + 1) jj
   refine ⟨b, Ev.step step (Ev.bind et (Ev.congr (fun k => if_neg h) hb)), ?_⟩
   rw [hbi]
   constructor
   ·
    intro hh p q h1 h2 h3
    by_cases e2 : p = i
    ·
     subst e2; exact fun e3 => h (hti'.2 ⟨q, h3, e3⟩)
    ·
     exact hh p q jj h2 h3
   ·
    intro hh p q h1 h2 h3; exact hh p q jj h2 h3
theorem rconnected_f (hA : Arg n A) : ∃ b, Ev (fun k => r5connected.f k A) b ∧ (b = true ↔ Conn n (ent A)) := by
 have h6 := hA.six
 have e1 := scaled_f (num := 0) (den := 0) hA jj jj jj jj
 have e0 : mat n (slackf 0 0 (ent A)) = mat n (zerof (ent A)) := mat_congr fun i j _ _ => by
  unfold slackf zerof mapf
  split
  ·
   rfl
  ·
   show 0 * ent A i j - 0 = 0
   omega
 rw [e0] at e1
 have e2 := walks_f (n := n) (M := 0) hA.one h6 (zero_bd n (ent A)) jj jj (zero_nopos n (ent A))
 obtain ⟨b, hb, hbi⟩ := rconn_l0 h6 (fwk (zerof (ent A)) n) n 0 jj
 refine ⟨b, ?_, ?_⟩
 ·
  unfold r5connected.f
  exact Ev.bind e1 (Ev.bind e2 hb)
 ·
  rw [hbi, ← conn_iff h6]
  exact ⟨fun h i j hi hj => h i j jj hi hj, fun h p q _ hp hq => h p q hp hq⟩
theorem matrix_yes (hA : Arg n A) : Ev (fun k => r5Matrix.f k A) true := by
 rcases Matrix_f A with ⟨_, h⟩ | ⟨h, _⟩
 ·
  exact h
 ·
  exact absurd ⟨n, hA⟩ h
theorem matrix_no {A : List (List Int)} (h : ¬ ∃ n, Arg n A) : Ev (fun k => r5Matrix.f k A) false := by
 rcases Matrix_f A with ⟨h', _⟩ | ⟨_, h'⟩
 ·
  exact absurd h' h
 ·
  exact h'
end
def bvec (n : Nat) (p : Nat → Bool) : List Bool := (List.range n).map p
theorem bvec_length (n : Nat) (p : Nat → Bool) : (bvec n p).length = n := by simp [bvec]
theorem bvec_get {n : Nat} (p : Nat → Bool) {i : Nat} (hi : i < n) : (bvec n p).getD i false = p i := by
 simp [bvec, List.getD_eq_getElem?_getD, List.getElem?_range hi]
theorem bvec_set (n : Nat) (p : Nat → Bool) (v : Nat) : (bvec n p).set v true = bvec n (fun q => if q = v then true else p q) := by
 refine range_map_set n _ _ v _ (fun _ => if_pos rfl) (fun b _ hb => if_neg hb)
section
variable {n : Nat} {A : List (List Int)} {num den : Int}
theorem cy_mean (hA : Arg n A) (ht : Top n (ent A) (Seen n (n + 1) 0) num den) (c : List Nat) (hc : Cy n (ent A) c) : cw (ent A) c * den ≤ num * (c.length : Nat) := by
 have b := cw_bd hA hc
 have hw := hc.wk
 have hl := hc.len
 have e0 : cyc c 0 = cyc c c.length := by rw [cyc_zero, cyc_len]
 have g := Go.le_pow (n := n) (a := ent A) hA.bd jj jj ⟨cyc c, hw, rfl, e0.symm, rfl⟩
 have h1 := ht.top c.length (cyc c 0) ⟨b.2.2.1, hw.lt 0 jj, .inl jj⟩ g.1
 exact Int.le_trans (Int.mul_le_mul_of_nonneg_right g.2 (Int.le_of_lt ht.den0)) h1
def Base (a : Nat → Nat → Int) (num den : Int) (R : List (List Int)) (j q : Nat) : Prop := ∃ t z, t < j ∧ R.getD t [] = up z ∧ cw a z * den = num * (z.length : Nat) ∧ ∃ s, s < z.length ∧ z.getD s 0 = q
theorem crit_l2 (hn : n ≤ 6) (p : Nat → Bool) : ∀ d i, i + d = n → Ev (fun k => r5critical.l2 k (bvec n p) (((List.range i).filter p).map Int.ofNat) (i : Int)) (((List.range n).filter p).map Int.ofNat) := by
 have hl := bvec_length n p
 intro d
 induction d with
 | zero =>
  intro i hi
  obtain rfl : i = n := by omega
  refine ev_now fun k => ?_
  simp only [r5critical.l2]
  rw [ji]
 | succ d ih =>
  intro i hi
  have hi' : i < n := by omega
  have hlen : (((List.range i).filter p).map Int.ofNat).length ≤ 6 := by
   rw [List.length_map]
   have := List.length_filter_le p (List.range i)
   rw [List.length_range] at this
   omega
  have e : rdOf false (bvec n p) (i : Int) = p i := bvec_get p hi'
  refine Ev.step (fun k => ?_) (ih (i + 1) jj)
  simp only [r5critical.l2]
  rw [jh, jh, e, wr1 i jj]
  by_cases h : p i = true
  ·
   rw [if_pos h, jh]
   have : (((List.range (i + 1)).filter p).map Int.ofNat) = (((List.range i).filter p).map Int.ofNat) ++ [(i : Int)] := by
    rw [List.range_succ, List.filter_append, List.map_append]
    simp [h]
   rw [this]
  ·
   rw [if_neg h]
   have : (((List.range (i + 1)).filter p).map Int.ofNat) = (((List.range i).filter p).map Int.ofNat) := by
    rw [List.range_succ, List.filter_append, List.map_append]
    simp [h]
   rw [this]
theorem crit_l1 (hn : n ≤ 6) (R : List (List Int)) (j : Nat) (hj : j < R.length) (hjl : R.length ≤ 1000000) (z : List Nat) (hz : R.getD j [] = up z) (hcy : Cy n (ent A) z) (hm : cw (ent A) z * den = num * (z.length : Nat)) (r : List Int)
  (hr : ∀ p, (∀ q, q < n → (p q = true ↔ Base (ent A) num den R (j + 1) q)) → Ev (fun k => r5critical.l0 k A (bvec n p) R ((j + 1 : Nat) : Int) num den) r) : ∀ d t, t + d = z.length → ∀ p, (∀ q, q < n → (p q = true ↔ Base (ent A) num den R j q ∨ ∃ s, s < t ∧ z.getD s 0 = q)) →
  Ev (fun k => r5critical.l1 k A (bvec n p) R (j : Int) (t : Int) num den) r := by
 have uz := up_length z
 intro d
 induction d with
 | zero =>
  intro t ht p hp
  refine Ev.step (fun k => ?_) (hr p fun q hq => ?_)
  ·
   simp only [r5critical.l1]
   rw [jh, jh, rdL, hz, ji, wr1 j jj]
  ·
   rw [hp q hq]
   constructor
   ·
    rintro (⟨t', z', h1, h2⟩ | ⟨s, h1, h2⟩)
    ·
     exact ⟨t', z', by omega, h2⟩
    ·
     exact ⟨j, z, by omega, hz, hm, s, by omega, h2⟩
   ·
    rintro ⟨t', z', h1, h2, h3, s, h4, h5⟩
    by_cases e : t' = j
    ·
     subst e
     rw [hz] at h2
     have := up_inj h2
     subst this
     exact .inr ⟨s, by omega, h5⟩
    ·
     exact .inl ⟨t', z', by omega, h2, h3, s, h4, h5⟩
 | succ d ih =>
  intro t ht p hp
  have ht' : t < z.length := by omega
  have hl := hcy.len
  have hv := hcy.pre.lt t ht'
  have lb := bvec_length n p
  refine Ev.step (fun k => ?_) (ih (t + 1) jj (fun q => if q = z.getD t 0 then true else p q) fun q hq => ?_)
  ·
   simp only [r5critical.l1]
   rw [jh, jh, rdL, hz, jh, jh, rdI, up_get, jh, jh, wr1 t jj, toN, bvec_set]
  ·
   show (if q = z.getD t 0 then true else p q) = true ↔ _
   by_cases e : q = z.getD t 0
   ·
    rw [if_pos e]
    exact ⟨fun _ => .inr ⟨t, by omega, e.symm⟩, fun _ => rfl⟩
   ·
    rw [if_neg e, hp q hq]
    constructor
    ·
     rintro (h | ⟨s, h1, h2⟩)
     ·
      exact .inl h
     ·
      exact .inr ⟨s, by omega, h2⟩
    ·
     rintro (h | ⟨s, h1, h2⟩)
     ·
      exact .inl h
     ·
      by_cases e2 : s = t
      ·
       subst e2; exact absurd h2.symm e
      ·
       exact .inr ⟨s, by omega, h2⟩
theorem crit_l0 (hA : Arg n A) (ht : Top n (ent A) (Seen n (n + 1) 0) num den) (R : List (List Int)) (hR : ∀ c, c ∈ R ↔ ∃ z, c = up z ∧ Cy n (ent A) z) (hl : R.length ≤ 1000000) (r : List Int)
  (hr : ∀ p, (∀ q, q < n → (p q = true ↔ Base (ent A) num den R R.length q)) → Ev (fun k => r5critical.l2 k (bvec n p) [] ((0 : Nat) : Int)) r) : ∀ d j, j + d = R.length → ∀ p, (∀ q, q < n → (p q = true ↔ Base (ent A) num den R j q)) →
  Ev (fun k => r5critical.l0 k A (bvec n p) R (j : Int) num den) r := by
 have h6 := hA.six
 intro d
 induction d with
 | zero =>
  intro j hj p hp
  obtain rfl : j = R.length := by omega
  refine Ev.step (fun k => ?_) (hr p hp)
  simp only [r5critical.l0]
  rw [ji]
  rfl
 | succ d ih =>
  intro j hj p hp
  have hj' : j < R.length := by omega
  have gj : R.getD j [] = R[j] := by rw [List.getD_eq_getElem?_getD, List.getElem?_eq_getElem hj']; rfl
  obtain ⟨z, hz, hcy⟩ := (hR R[j]).1 (List.getElem_mem hj')
  rw [hz] at gj
  have b := cw_bd hA hcy
  have uz := up_length z
  have d0 := ht.den0
  have d6 := ht.den6
  have m1 : -36000 ≤ cw (ent A) z * den ∧ cw (ent A) z * den ≤ 36000 := by
   have : den = 1 ∨ den = 2 ∨ den = 3 ∨ den = 4 ∨ den = 5 ∨ den = 6 := by omega
   rcases this with rfl | rfl | rfl | rfl | rfl | rfl <;> omega
  have m2 : -36000 ≤ num * (z.length : Nat) ∧ num * (z.length : Nat) ≤ 36000 := by
   have k1 := Int.mul_le_mul_of_nonneg_right ht.lo (by omega : (0 : Int) ≤ (z.length : Nat))
   have k2 := Int.mul_le_mul_of_nonneg_right ht.hi (by omega : (0 : Int) ≤ (z.length : Nat))
   omega
  have step : ∀ k, r5critical.l0 (k + 1) A (bvec n p) R (j : Int) num den = (r5weight.f k A (up z)).bind fun t => if wrap64 (t * den) = wrap64 (num * ((up z).length : Int)) then r5critical.l1 k A (bvec n p) R (j : Int) ((0 : Nat) : Int) num den else r5critical.l0 k A (bvec n p) R ((j + 1 : Nat) : Int) num den := fun k => by
   simp only [r5critical.l0]
   rw [jh, jh, rdL, gj, wr1 j jj]
   rfl
  have ew := weight_f hA hcy
  have e1 : wrap64 (cw (ent A) z * den) = cw (ent A) z * den := wr jj jj
  have e2 : wrap64 (num * ((up z).length : Int)) = num * (z.length : Nat) := by rw [uz, wr jj jj]
  by_cases c : cw (ent A) z * den = num * (z.length : Nat)
  ·
   refine Ev.step step (Ev.bind ew (Ev.congr (fun k => if_pos (by rw [e1, e2]; exact c)) (crit_l1 h6 R j hj' hl z gj hcy c r (fun p hp => ih (j + 1) jj p hp) z.length 0 jj p fun q hq => ?_)))
   rw [hp q hq]
   exact ⟨fun h => .inl h, fun h => h.elim id fun ⟨s, h1, _⟩ => by omega⟩
  ·
   refine Ev.step step (Ev.bind ew (Ev.congr (fun k => if_neg (by rw [e1, e2]; exact c)) (ih (j + 1) jj p fun q hq => ?_)))
   rw [hp q hq]
   constructor
   ·
    rintro ⟨t, z', h1, h2⟩; exact ⟨t, z', by omega, h2⟩
   ·
    rintro ⟨t, z', h1, h2, h3, h4⟩
    by_cases e : t = j
    ·
     subst e
     rw [gj] at h2
     have := up_inj h2
     subst this
     exact absurd h3 c
    ·
     exact ⟨t, z', by omega, h2, h3, h4⟩
theorem base_iff (hA : Arg n A) (ht : Top n (ent A) (Seen n (n + 1) 0) num den) (R : List (List Int)) (hR : ∀ c, c ∈ R ↔ ∃ z, c = up z ∧ Cy n (ent A) z) (q : Nat) (hq : q < n) :
  Base (ent A) num den R R.length q ↔ critV n (slackf num den (ent A)) (fwk (slackf num den (ent A)) n) q = true := by
 have ok : Ok n (slackf num den (ent A)) := ⟨hA.one, hA.six, slack_bd hA.bd ht, slack_nopos hA.six hA.bd ht⟩
 have toV : ∀ j, j < n → arcf (slackf num den (ent A)) (fwk (slackf num den (ent A)) n) q j ≠ NEV → critV n (slackf num den (ent A)) (fwk (slackf num den (ent A)) n) q = true := fun j hj h => by
  unfold critV
  rw [List.any_eq_true]
  refine ⟨j, List.mem_range.2 hj, ?_⟩
  unfold crit
  rw [beq_iff_eq]
  exact arc_crit.1 h
 constructor
 ·
  rintro ⟨t, z, h1, h2, h3, s, h4, h5⟩
  have hcy : Cy n (ent A) z := by
   have : up z ∈ R := by rw [← h2, List.getD_eq_getElem?_getD, List.getElem?_eq_getElem h1]; exact List.getElem_mem _
   obtain ⟨z', e, hz'⟩ := (hR _).1 this
   rw [up_inj e]; exact hz'
  have hw := hcy.wk
  have e0 : cyc z 0 = cyc z z.length := by rw [cyc_zero, cyc_len]
  have hz0 : wt (slackf num den (ent A)) (cyc z) z.length = 0 := by
   rw [slack_wt hw]
   unfold cw at h3
   rw [Int.mul_comm den, h3]
   omega
  have hcr := ok.crit (slack_wk' hA.bd ht hw) e0 hz0
  by_cases e : s = 0
  ·
   subst e
   have := hcr.arc (z.length - 1) jj
   rw [show z.length - 1 + 1 = z.length by omega, ← e0, cyc_zero, h5] at this
   exact toV _ (hw.lt _ jj) this
  ·
   have := hcr.arc (s - 1) jj
   rw [show s - 1 + 1 = s by omega, cyc_lt h4, h5] at this
   exact toV _ (hw.lt _ jj) this
 ·
  intro h
  unfold critV at h
  rw [List.any_eq_true] at h
  obtain ⟨j, hj, hc⟩ := h
  have hj := List.mem_range.1 hj
  have harc : arcf (slackf num den (ent A)) (fwk (slackf num den (ent A)) n) q j ≠ NEV := arc_crit.2 (beq_iff_eq.1 hc)
  obtain ⟨hne, K, hK⟩ := ok.back hq hj harc
  obtain ⟨v, hv, v0, vL, vw⟩ := hK
  have hva := slack_wk hA.bd ht hv
  have hcl : Wk n (ent A) (fun t => if t ≤ K then v t else q) (K + 1) := by
   refine ⟨fun t _ => ?_, fun t ht' => ?_⟩
   ·
    by_cases e : t ≤ K
    ·
     simp only [e, if_true]; exact hva.lt t e
    ·
     simp only [e, if_false]; exact hq
   ·
    by_cases e : t + 1 ≤ K
    ·
     simp only [e, if_true]; rw [jh]; exact hva.arc t jj
    ·
     obtain rfl : t = K := by omega
     simp only [e, if_false]; rw [jh, vL]
     exact fun e2 => hne ((slack_nev (hA.bd q j hq hj) ht).2 e2)
  have hwt : wt (slackf num den (ent A)) (fun t => if t ≤ K then v t else q) (K + 1) = 0 := by
   have e1 : wt (slackf num den (ent A)) (fun t => if t ≤ K then v t else q) K = wt (slackf num den (ent A)) v K := wt_congr fun t ht => if_pos ht
   show wt (slackf num den (ent A)) (fun t => if t ≤ K then v t else q) K + slackf num den (ent A) (if K + 1 ≤ K then v (K + 1) else q) (if K ≤ K then v K else q) = 0
   rw [e1, ji, jh, vL, vw]
   omega
  have hmean : wt (ent A) (fun t => if t ≤ K then v t else q) (K + 1) * den = num * ((K + 1 : Nat) : Int) := by
   rw [slack_wt hcl, Int.mul_comm den] at hwt
   omega
  obtain ⟨c, hcy, hcm, _, s, hs, hsq⟩ := mean_at (fun c hc => cy_mean hA ht c hc) (K + 1) _ hcl (by show (if 0 ≤ K then v 0 else q) = if K + 1 ≤ K then v (K + 1) else q; rw [jh, ji, v0]) hmean 0 jj
  have hsq : c.getD s 0 = q := by rw [hsq]; show (if 0 ≤ K then v 0 else q) = q; rw [jh, v0]
  obtain ⟨t, ht', e⟩ := List.getElem_of_mem ((hR (up c)).2 ⟨c, rfl, hcy⟩)
  exact ⟨t, c, ht', by rw [List.getD_eq_getElem?_getD, List.getElem?_eq_getElem ht']; exact e, hcm, s, hs, hsq⟩
theorem critical_list (hA : Arg n A) (ht : Top n (ent A) (Seen n (n + 1) 0) num den) : Ev (fun k => r5critical.f k A num den) (critL n (slackf num den (ent A)) (fwk (slackf num den (ent A)) n) n) := by
 have h6 := hA.six
 have hl := hA.is.1
 obtain ⟨R, eR, hR, lR⟩ := Cycles_f hA
 have h0 := crit_l0 hA ht R hR lR (critL n (slackf num den (ent A)) (fwk (slackf num den (ent A)) n) n) (fun p hp => by
  have h := crit_l2 h6 p n 0 jj
  have e : ((List.range n).filter p).map Int.ofNat = critL n (slackf num den (ent A)) (fwk (slackf num den (ent A)) n) n := by
   unfold critL
   congr 1
   refine List.filter_congr fun q hq => ?_
   have h1 := hp q (List.mem_range.1 hq)
   rw [base_iff hA ht R hR q (List.mem_range.1 hq)] at h1
   cases hb : p q <;> cases hc : critV n (slackf num den (ent A)) (fwk (slackf num den (ent A)) n) q <;> simp_all
  rw [e] at h
  exact h) R.length 0 jj (fun _ => false) (fun q _ => ⟨fun h => absurd h (by decide), fun ⟨t, z, h1, _⟩ => by omega⟩)
 unfold r5critical.f
 refine Ev.congr (f := fun k => (r5Cycles.f k A).bind fun t => r5critical.l0 k A (bvec n fun _ => false) t ((0 : Nat) : Int) num den) (fun k => ?_) (Ev.bind eR h0)
 rw [jh, toN, jh, hl]
 have : List.replicate n false = bvec n fun _ => false := by
  apply List.ext_getElem
  ·
   rw [List.length_replicate, bvec_length]
  ·
   intro i h1 h2; simp [bvec]
 rw [this]
 rfl
theorem REigen_l1 (hA : Arg n A) (d : Nat → Nat → Int) (c : Nat) (hc : c < n) (m : Int) (hm : ∀ i, i < n → -9223372036854775808 ≤ d i c - m ∧ d i c - m ≤ 9223372036854775807) : ∀ e i, i + e = n → Ev (fun k => r5Eigen.l1 k A (c : Int) (mat n d) m (vec i (fun q => d q c - m)) (i : Int)) (vec n (fun q => d q c - m), 0) := by
 have h6 := hA.six
 have hl := hA.is.1
 have l0 : (mat n d).length = n := yE _ _
 intro e
 induction e with
 | zero =>
  intro i hi
  obtain rfl : i = n := by omega
  refine ev_now fun k => ?_
  simp only [r5Eigen.l1]
  rw [ji]
 | succ e ih =>
  intro i hi
  have hi' : i < n := by omega
  have l1 : ((mat n d).getD i []).length = n := by rw [mat_get _ hi', yB]
  have v : ((mat n d).getD i []).getD c 0 = d i c := ent_mat _ hi' hc
  have hb := hm i hi'
  refine Ev.step (fun k => ?_) (ih (i + 1) jj)
  simp only [r5Eigen.l1]
  rw [jh, jh, jh, jh, rdL, jh, yB, jh, rdI, v, wr hb.1 hb.2, vec_next (fun q => d q c - m), wr1 i jj]
theorem REigen_l0 (hA : Arg n A) (d : Nat → Nat → Int) (c : Nat) (hc : c < n) (m : Int) (hle : ∀ i, i < n → m ≤ d i c) (hmem : ∃ i, i < n ∧ m = d i c) (r : List Int × Int) (hr : Ev (fun k => r5Eigen.l1 k A (c : Int) (mat n d) m [] ((0 : Nat) : Int)) r) : ∀ e i, i + e = n → ∀ lo, m ≤ lo → (∀ q, q < i → lo ≤ d q c) →
  Ev (fun k => r5Eigen.l0 k A (c : Int) (mat n d) lo (i : Int)) r := by
 have h6 := hA.six
 have hl := hA.is.1
 have l0 : (mat n d).length = n := yE _ _
 intro e
 induction e with
 | zero =>
  intro i hi lo h1 h2
  obtain rfl : i = n := by omega
  obtain ⟨q, hq, hq2⟩ := hmem
  have := h2 q hq
  obtain rfl : lo = m := by omega
  refine Ev.step (fun k => ?_) hr
  simp only [r5Eigen.l0]
  rw [ji]
  rfl
 | succ e ih =>
  intro i hi lo h1 h2
  have hi' : i < n := by omega
  have l1 : ((mat n d).getD i []).length = n := by rw [mat_get _ hi', yB]
  have v : ((mat n d).getD i []).getD c 0 = d i c := ent_mat _ hi' hc
  have h3 := hle i hi'
  refine Ev.step (fun k => ?_) (ih (i + 1) jj (mn lo (d i c)) (by unfold mn; split <;> omega) (fun q hq => ?_))
  ·
   simp only [r5Eigen.l0]
   rw [jh, jh, jh, jh, rdL, jh, rdI, v, wr1 i jj]
  ·
   unfold mn
   by_cases e2 : q = i
   ·
    subst e2; split <;> omega
   ·
    have := h2 q jj
    split <;> omega
theorem REigen_f (hA : Arg n A) {c : Nat} {m : Int} (h : EigIs n (ent A) num den c m) (es : Ev (fun k => r5Speed.f k A) (num, den, 0)) : Ev (fun k => r5Eigen.f k A) (vec n (eigv n (ent A) num den c m), 0) := by
 have h6 := hA.six
 have h1 := hA.one
 have ht := h.top
 have d0 := ht.den0
 obtain ⟨b, eb, hbi⟩ := rconnected_f hA
 have hb : b = true := hbi.2 h.conn
 subst hb
 have hB := eig_bd h6 hA.bd ht
 have fin : ∀ i, i < n → -768000 ≤ fwk (slackf num den (ent A)) n i c ∧ fwk (slackf num den (ent A)) n i c ≤ 768000 := fun i hi => (hB i c hi h.lt).resolve_left (h.conn.star h6 hA.bd ht i c hi h.lt)
 have hm : -768000 ≤ m ∧ m ≤ 768000 := by obtain ⟨q, hq, e⟩ := h.mem; have := fin q hq; omega
 have r1 := REigen_l1 hA (fwk (slackf num den (ent A)) n) c h.lt m (fun i hi => by have := fin i hi; omega) n 0 jj
 have r0 := REigen_l0 hA (fwk (slackf num den (ent A)) n) c h.lt m h.le h.mem _ r1 (n - 1) 1 jj (fwk (slackf num den (ent A)) n 0 c) (h.le 0 jj) (fun q hq => by rw [show q = 0 by omega]; exact Int.le_refl _)
 have ec := critical_list hA ht
 have hl0 : 0 < (critL n (slackf num den (ent A)) (fwk (slackf num den (ent A)) n) n).length := by
  obtain ⟨_, _, _, h3, _⟩ := critL_head (crit_ex h6 hA.bd ht)
  exact h3
 have hv : ((mat n (fwk (slackf num den (ent A)) n)).getD 0 []).getD c 0 = fwk (slackf num den (ent A)) n 0 c := ent_mat _ jj h.lt
 have l1 : (mat n (fwk (slackf num den (ent A)) n)).length = n := yE _ _
 have l2 : ((mat n (fwk (slackf num den (ent A)) n)).getD 0 []).length = n := by rw [mat_get _ jj, yB]
 have hcn := h.lt
 unfold r5Eigen.f
 refine Ev.bind (matrix_yes hA) (Ev.congr (fun k => if_pos rfl) (Ev.bind es (Ev.congr (fun k => if_pos rfl) (Ev.bind eb ?_))))
 refine Ev.step (f := fun k => (r5critical.f k A num den).bind fun t => if 0 < (t.length : Int) then ((r5scaled.f k A num den).bind fun s => (r5walks.f k s).bind fun u => if 0 < (u.length : Int) then (if 0 ≤ rd t 0 then (if rd t 0 < ((rd_L1 u 0).length : Int) then r5Eigen.l0 k A (rd t 0) u (rd (rd_L1 u 0) (rd t 0)) 1 else none) else none) else none) else none) (fun k => ?_) (Ev.bind ec (Ev.congr (fun k => jh) (Ev.bind (scaled_f hA ht.lo ht.hi jj ht.den6) (Ev.bind (walks_f h1 h6 (slack_bd hA.bd ht) jj jj (slack_nopos h6 hA.bd ht)) (Ev.congr (fun k => ?_) r0)))))
 ·
  simp only [r5Eigen.j0]
  rw [if_neg (by decide)]
 ·
  rw [jh, h.head, jh]
  show (if (c : Int) < (((mat n (fwk (slackf num den (ent A)) n)).getD 0 []).length : Int) then r5Eigen.l0 k A (c : Int) _ (rd ((mat n (fwk (slackf num den (ent A)) n)).getD 0 []) (c : Int)) 1 else none) = _
  rw [jh, rdI, hv]
  rfl
end
section
variable {n : Nat} {s : Nat → Nat → Int}
theorem Ok.simple (h : Ok n s) {u : Nat} (hu : OnZ n s u) : ∃ q v, 1 ≤ q ∧ q ≤ n ∧ Wk n s v q ∧ v 0 = u ∧ v q = u ∧ wt s v q = 0 ∧ ∀ x y, x < q → y < q → v x = v y → x = y := by
 obtain ⟨q, ⟨hq, hz⟩, hmin⟩ := least_nat (P := fun r => 1 ≤ r ∧ Z n s u r) hu
 obtain ⟨v, hv, v0, vL, vw⟩ := hz
 have key : ∀ p d r, q = p + d + r → 1 ≤ d → 1 ≤ p + r → v p ≠ v (p + d) := by
  intro p d r e hd hpr ev
  subst e
  have hm : Wk n s (fun t => v (t + p)) d := Wk.shift (hv.left jj)
  have hc := closed_le h.bd jj h.hs h.no d (fun t => v (t + p)) hm (by show v (0 + p) = v (d + p); rw [Nat.zero_add, Nat.add_comm d p]; exact ev)
  have hw := cutw_wt (a := s) (r := r) ev
  have hk := cutw_wk hv ev
  have e0 : cutw v p d 0 = u := by rw [cutw_zero, v0]
  have eL : cutw v p d (p + r) = u := by rw [cutw_end ev, vL]
  have hc2 := closed_le h.bd jj h.hs h.no (p + r) (cutw v p d) hk (by rw [e0, eL])
  exact hmin (p + r) jj ⟨hpr, cutw v p d, hk, e0, eL, by omega⟩
 have dist : ∀ x y, x < q → y < q → v x = v y → x = y := by
  intro x y hx hy e
  by_cases h1 : x < y
  ·
   exact absurd (by rw [show x + (y - x) = y by omega]; exact e) (key x (y - x) (q - y) jj jj jj)
  ·
   by_cases h2 : y < x
   ·
    exact absurd (by rw [show y + (x - y) = x by omega]; exact e.symm) (key y (x - y) (q - x) jj jj jj)
   ·
    omega
 refine ⟨q, v, hq, ?_, hv, v0, vL, vw, dist⟩
 by_cases e : q ≤ n
 ·
  exact e
 ·
  obtain ⟨p, p', hpp, hp', ev⟩ := php n v (fun t ht => hv.lt t jj)
  have := dist p p' jj jj ev
  omega
theorem same_on {v : Nat → Nat} {q u : Nat} (hv : Wk n s v q) (v0 : v 0 = u) (vL : v q = u) (vw : wt s v q = 0) {t : Nat} (ht : t ≤ q) : Same n s u (v t) := by
 obtain ⟨x, y, a, b, e⟩ := Go.split hv ht
 rw [v0] at a
 rw [vL] at b
 exact ⟨t, _, x, a, by rw [show -x = y by omega]; exact b⟩
theorem Same.symm {i j : Nat} (h : Same n s i j) : Same n s j i := by
 obtain ⟨K, L, x, a, b⟩ := h
 exact ⟨L, K, -x, b, by rw [Int.neg_neg]; exact a⟩
theorem Same.dvd {i j d : Nat} (h : Same n s i j) (hd : ∀ L, Z n s i L → d ∣ L) (L : Nat) (hz : Z n s j L) : d ∣ L := by
 obtain ⟨K, z1, z2⟩ := h.conj hz
 exact (Nat.dvd_add_right (hd _ z1)).1 (hd _ z2)
theorem Ok.apart (h : Ok n s) {u w q q' : Nat} {v v' : Nat → Nat} (hv : Wk n s v q) (v0 : v 0 = u) (vL : v q = u) (vw : wt s v q = 0) (hd : ∀ x y, x < q → y < q → v x = v y → x = y)
  (hv' : Wk n s v' q') (v0' : v' 0 = w) (vL' : v' q' = w) (vw' : wt s v' q' = 0) (hd' : ∀ x y, x < q' → y < q' → v' x = v' y → x = y) (hns : ¬ Same n s u w) : q + q' ≤ n := by
 have h6 := h.six
 by_cases e : q + q' ≤ n
 ·
  exact e
 ·
  exfalso
  obtain ⟨x, y, hxy, hy, ev⟩ := php n (fun t => if t < q then v t else v' (t - q)) (fun t ht => by
   show (if t < q then v t else v' (t - q)) < n
   split
   ·
    exact hv.lt t jj
   ·
    exact hv'.lt (t - q) jj)
  replace ev : (if x < q then v x else v' (x - q)) = (if y < q then v y else v' (y - q)) := ev
  by_cases h1 : x < q
  ·
   by_cases h2 : y < q
   ·
    rw [if_pos h1, if_pos h2] at ev
    have := hd x y h1 h2 ev
    omega
   ·
    rw [if_pos h1, if_neg h2] at ev
    have s1 := same_on hv v0 vL vw (t := x) jj
    have s2 := same_on hv' v0' vL' vw' (t := y - q) jj
    rw [ev] at s1
    exact hns (s1.trans s2.symm)
  ·
   rw [if_neg h1, ji] at ev
   have := hd' (x - q) (y - q) jj jj ev
   omega
theorem Ok.per_le (h : Ok n s) {c : Nat} (hc : IsPer n s c) : c ≤ 6 := by
 have h6 := h.six
 by_cases e6 : c ∣ 6
 ·
  exact Nat.le_of_dvd jj e6
 have : ∃ u d, OnZ n s u ∧ (∀ L, Z n s u L → d ∣ L) ∧ ¬ d ∣ 6 := by
  by_cases e : ∃ u d, OnZ n s u ∧ (∀ L, Z n s u L → d ∣ L) ∧ ¬ d ∣ 6
  ·
   exact e
  ·
   exfalso
   refine e6 ((hc.iff 6).2 fun u hu d hd => ?_)
   by_cases h1 : d ∣ 6
   ·
    exact h1
   ·
    exact absurd ⟨u, d, hu, hd, h1⟩ e
 obtain ⟨u, d, hu, hd, hd6⟩ := this
 obtain ⟨q, v, hq, hqn, hv, v0, vL, vw, dist⟩ := h.simple hu
 have hdq : d ∣ q := hd q ⟨v, hv, v0, vL, vw⟩
 have hdle := Nat.le_of_dvd jj hdq
 have hd45 : (d = 4 ∧ q = 4) ∨ (d = 5 ∧ q = 5) := by
  have c1 : q = 1 ∨ q = 2 ∨ q = 3 ∨ q = 4 ∨ q = 5 ∨ q = 6 := by omega
  have c2 : d = 0 ∨ d = 1 ∨ d = 2 ∨ d = 3 ∨ d = 4 ∨ d = 5 ∨ d = 6 := by omega
  rcases c2 with rfl | rfl | rfl | rfl | rfl | rfl | rfl
  ·
   have := Nat.eq_zero_of_zero_dvd hdq; omega
  ·
   exact absurd (by decide) hd6
  ·
   exact absurd (by decide) hd6
  ·
   exact absurd (by decide) hd6
  ·
   left; refine ⟨rfl, ?_⟩; omega
  ·
   right; refine ⟨rfl, ?_⟩; omega
  ·
   exact absurd (by decide) hd6
 have all : c ∣ q := (hc.iff q).2 fun w hw e he => by
  by_cases hs : Same n s u w
  ·
   exact Same.dvd hs.symm he q ⟨v, hv, v0, vL, vw⟩
  ·
   obtain ⟨q', v', hq', _, hv', v0', vL', vw', dist'⟩ := h.simple hw
   have hap := h.apart hv v0 vL vw dist hv' v0' vL' vw' dist' hs
   have heq : e ∣ q' := he q' ⟨v', hv', v0', vL', vw'⟩
   rcases hd45 with ⟨_, rfl⟩ | ⟨_, rfl⟩
   ·
    have c1 : q' = 1 ∨ q' = 2 := by omega
    rcases c1 with rfl | rfl
    ·
     exact Nat.dvd_trans heq (by decide)
    ·
     exact Nat.dvd_trans heq (by decide)
   ·
    have c1 : q' = 1 := by omega
    subst c1
    exact Nat.dvd_trans heq (by decide)
 have := Nat.le_of_dvd jj all
 omega
end
theorem rplus_f {M N a b : Int} (ha : Bd M a) (hb : Bd N b) (h : M + N < 1152921504606846976) (hM : 0 ≤ M) (hN : 0 ≤ N) : r5plus.f a b = some (pl a b) := by
 unfold r5plus.f pl NEV
 by_cases h1 : a = -1152921504606846976
 ·
  rw [if_pos h1, if_pos h1]
 ·
  rw [if_neg h1, if_neg h1]
  by_cases h2 : b = -1152921504606846976
  ·
   rw [if_pos h2, if_pos h2]
  ·
   rw [if_neg h2, if_neg h2]
   unfold Bd NEV at ha hb
   rw [wr jj jj]
section
variable {n : Nat} {A : List (List Int)} {num den : Int}
theorem ahead_l1 (hn : n ≤ 6) {f g : Nat → Nat → Int} {M : Int} (hg : BdM n n M g) (hM : 0 ≤ M) (hM2 : M ≤ 1000000000000000) (x2 add : Int) (h0 : den ≠ 0) (hadd : wrap64 (Int.tdiv x2 den) = add) (ab : -360000 ≤ add ∧ add ≤ 360000) (i : Nat) (hi : i < n)
  (hr : ∃ b, Ev (fun k => r5ahead.l0 k (mat n f) (mat n g) x2 den ((i + 1 : Nat) : Int)) b ∧ (b = true ↔ ∀ p q, i + 1 ≤ p → p < n → q < n → f p q = addf add (g p q))) : ∀ d j, j + d = n →
  ∃ b, Ev (fun k => r5ahead.l1 k (mat n f) (mat n g) x2 den (i : Int) (j : Int)) b ∧ (b = true ↔ (∀ q, j ≤ q → q < n → f i q = addf add (g i q)) ∧ ∀ p q, i + 1 ≤ p → p < n → q < n → f p q = addf add (g p q)) := by
 intro d
 have l1 : (mat n f).length = n := yE _ _
 have l2 : (mat n g).length = n := yE _ _
 have l3 : ((mat n f).getD i []).length = n := by rw [mat_get _ hi, yB]
 have l4 : ((mat n g).getD i []).length = n := by rw [mat_get _ hi, yB]
 induction d with
 | zero =>
  intro j hj
  obtain ⟨b, hb, hbi⟩ := hr
  refine ⟨b, Ev.step (fun k => ?_) hb, ?_⟩
  ·
   simp only [r5ahead.l1]
   rw [ji, wr1 i jj]
  ·
   rw [hbi]
   exact ⟨fun h => ⟨fun q h1 h2 => by omega, h⟩, fun h => h.2⟩
 | succ d ih =>
  intro j hj
  have hj' : j < n := by omega
  have v1 : ((mat n f).getD i []).getD j 0 = f i j := ent_mat _ hi hj'
  have v2 : ((mat n g).getD i []).getD j 0 = g i j := ent_mat _ hi hj'
  have ep : r5plus.f (g i j) add = some (addf add (g i j)) := by
   rw [rplus_f (M := M) (N := 360000) (hg i j hi hj') (.inr ab) jj hM jj]
   unfold addf pl NEV
   by_cases e : g i j = -1152921504606846976
   ·
    rw [if_pos e, if_pos e]
   ·
    rw [if_neg e, if_neg e, ji]
  obtain ⟨b, hb, hbi⟩ := ih (j + 1) jj
  have step : ∀ k, r5ahead.l1 (k + 1) (mat n f) (mat n g) x2 den (i : Int) (j : Int) = if f i j = addf add (g i j) then r5ahead.l1 k (mat n f) (mat n g) x2 den (i : Int) ((j + 1 : Nat) : Int) else some false := fun k => by
   simp only [r5ahead.l1]
   rw [jh, jh, jh, jh, rdL, jh, jh, rdL, jh, if_neg h0, rdI, rdI, v1, v2, hadd, ep, wr1 j jj]
   rfl
  by_cases e : f i j = addf add (g i j)
  ·
   refine ⟨b, Ev.step (fun k => (step k).trans (if_pos e)) hb, ?_⟩
   rw [hbi]
   constructor
   ·
    rintro ⟨h1, h2⟩
    refine ⟨fun q h3 h4 => ?_, h2⟩
    by_cases e2 : q = j
    ·
     subst e2; exact e
    ·
     exact h1 q jj h4
   ·
    rintro ⟨h1, h2⟩
    exact ⟨fun q h3 h4 => h1 q jj h4, h2⟩
  ·
   exact ⟨false, ev_now fun k => (step k).trans (if_neg e), fun h => absurd h (by decide), fun h => absurd (h.1 j jj hj') e⟩
theorem ahead_l0 (hn : n ≤ 6) {f g : Nat → Nat → Int} {M : Int} (hg : BdM n n M g) (hM : 0 ≤ M) (hM2 : M ≤ 1000000000000000) (x2 add : Int) (h0 : den ≠ 0) (hadd : wrap64 (Int.tdiv x2 den) = add) (ab : -360000 ≤ add ∧ add ≤ 360000) : ∀ d i, i + d = n →
  ∃ b, Ev (fun k => r5ahead.l0 k (mat n f) (mat n g) x2 den (i : Int)) b ∧ (b = true ↔ ∀ p q, i ≤ p → p < n → q < n → f p q = addf add (g p q)) := by
 have l2 : (mat n f).length = n := yE _ _
 intro d
 induction d with
 | zero =>
  intro i hi
  refine ⟨true, ev_now fun k => ?_, fun _ p q h1 h2 => by omega, fun _ => rfl⟩
  simp only [r5ahead.l0]
  rw [ji]
 | succ d ih =>
  intro i hi
  obtain ⟨b, hb, hbi⟩ := ahead_l1 hn hg hM hM2 x2 add h0 hadd ab i jj (ih (i + 1) jj) n 0 jj
  refine ⟨b, Ev.step (fun k => ?_) hb, ?_⟩
  ·
   simp only [r5ahead.l0]
   rw [jh]
   rfl
  ·
   rw [hbi]
   constructor
   ·
    rintro ⟨h1, h2⟩ p q h3 h4 h5
    by_cases e : p = i
    ·
     subst e; exact h1 q jj h5
    ·
     exact h2 p q jj h4 h5
   ·
    intro h
    exact ⟨fun q _ h2 => h i q jj jj h2, fun p q h1 h2 h3 => h p q jj h2 h3⟩
theorem ahead_f (hA : Arg n A) {B : Nat → Nat → Prop} (ht : Top n (ent A) B num den) (m x : Nat) (hm : m ≤ 1000000) (hx : x ≤ 12) :
  ∃ b, Ev (fun k => r5ahead.f k (mat n (powf n (ent A) (m + x))) (mat n (powf n (ent A) m)) (wrap64 ((x : Int) * num)) den) b ∧ (b = true ↔ den ∣ num * (x : Nat) ∧ Rep n (slackf num den (ent A)) m x) := by
 have h6 := hA.six
 have d0 := ht.den0
 have nb : -360000 ≤ num * (x : Nat) ∧ num * (x : Nat) ≤ 360000 := by
  have m1 := Int.mul_le_mul_of_nonneg_right ht.lo (by omega : (0 : Int) ≤ (x : Nat))
  have m2 := Int.mul_le_mul_of_nonneg_right ht.hi (by omega : (0 : Int) ≤ (x : Nat))
  omega
 have ew : wrap64 ((x : Int) * num) = num * (x : Nat) := by rw [Int.mul_comm, wr jj jj]
 rw [ew]
 by_cases hd : den ∣ num * (x : Nat)
 ·
  obtain ⟨w, hw⟩ := hd
  have nw : -360000 ≤ w ∧ w ≤ 360000 := by
   have d6 := ht.den6
   have : den = 1 ∨ den = 2 ∨ den = 3 ∨ den = 4 ∨ den = 5 ∨ den = 6 := by omega
   rcases this with rfl | rfl | rfl | rfl | rfl | rfl <;> omega
  have eadd : wrap64 (Int.tdiv (num * (x : Nat)) den) = w := by
   rw [hw, Int.mul_tdiv_cancel_left _ (by omega : den ≠ 0), wr jj jj]
  obtain ⟨b, hb, hbi⟩ := ahead_l0 (f := powf n (ent A) (m + x)) h6 (BdM.pow hA.bd m) jj jj (num * (x : Nat)) w jj eadd nw n 0 jj
  refine ⟨b, ?_, ?_⟩
  ·
   unfold r5ahead.f
   refine Ev.congr (fun k => ?_) hb
   rw [ji, if_pos (by rw [hw, Int.mul_tmod_right])]
   rfl
  ·
   rw [hbi, rep_iff hA.bd ht jj hw.symm]
   exact ⟨fun h => ⟨⟨w, hw⟩, fun i j hi hj => h i j jj hi hj⟩, fun h p q _ hp hq => h.2 p q hp hq⟩
 ·
  refine ⟨false, ?_, fun h => absurd h (by decide), fun h => absurd h.1 hd⟩
  unfold r5ahead.f
  refine ev_some fun k => ?_
  rw [ji, if_neg (fun h => hd (Int.dvd_of_tmod_eq_zero h))]
def thir (n : Nat) (a : Nat → Nat → Int) (k : Nat) (m : Nat) : List (List (List Int)) := (List.range m).map fun x => mat n (powf n a (k + x))
theorem thir_length (n : Nat) (a : Nat → Nat → Int) (k m : Nat) : (thir n a k m).length = m := by simp [thir]
theorem thir_get {n : Nat} {a : Nat → Nat → Int} {k m x : Nat} (hx : x < m) : rd_L3 (thir n a k m) (x : Int) = mat n (powf n a (k + x)) := by
 show (thir n a k m).getD x [] = _
 unfold thir
 rw [List.getD_eq_getElem?_getD, List.getElem?_map, List.getElem?_range hx]
 rfl
def mov (n : Nat) (a : Nat → Nat → Int) (k j : Nat) : List (List (List Int)) := (List.range 13).map fun x => if x < j then mat n (powf n a (k + x + 1)) else mat n (powf n a (k + x))
theorem mov_length (n : Nat) (a : Nat → Nat → Int) (k j : Nat) : (mov n a k j).length = 13 := by simp [mov]
theorem mov_get {n : Nat} {a : Nat → Nat → Int} {k j x : Nat} (hx : x < 13) (hj : j ≤ x) : rd_L3 (mov n a k j) (x : Int) = mat n (powf n a (k + x)) := by
 show (mov n a k j).getD x [] = _
 unfold mov
 rw [List.getD_eq_getElem?_getD, List.getElem?_map, List.getElem?_range hx]
 exact ji
theorem mov_zero (n : Nat) (a : Nat → Nat → Int) (k : Nat) : mov n a k 0 = thir n a k 13 := List.map_congr_left fun x _ => ji
theorem mov_set (n : Nat) (a : Nat → Nat → Int) (k j : Nat) : (mov n a k j).set j (mat n (powf n a (k + j + 1))) = mov n a k (j + 1) := by
 refine range_map_set 13 _ _ j _ (fun _ => jh) (fun b _ hb => ?_)
 by_cases h : b < j
 ·
  rw [if_pos h, jh]
 ·
  rw [if_neg h, ji]
theorem mov_all (n : Nat) (a : Nat → Nat → Int) (k : Nat) : mov n a k 13 = thir n a (k + 1) 13 := List.map_congr_left fun x hx => by
 rw [if_pos (by simpa using hx), show k + x + 1 = k + 1 + x by omega]
theorem left_big (hA : Arg n A) (k : Nat) (hk : k ≤ 1000000) : Ev (fun q => r5Product.f q A (mat n (powf n (ent A) k))) (mat n (powf n (ent A) (k + 1))) := by
 have h6 := hA.six
 have h := Product_mat (n := n) jj hA.bd (BdM.pow hA.bd k) jj jj jj
 rw [mat_ext hA.is] at h
 have e : mat n (mulf n (ent A) (powf n (ent A) k)) = mat n (powf n (ent A) (k + 1)) := mat_congr fun i j hi hj => by
  have := pow_add (n := n) hA.bd jj 1 k jj hi hj
  rw [Nat.add_comm k 1, this]
  exact mul_congr (fun q hq => (one_mul hA.bd jj hi hq).symm) (fun _ _ => rfl)
 rwa [e] at h
theorem RRegime_l3 (_hA : Arg n A) (k : Nat) (hk : k ≤ 200000) (r : Int × Int × Int) (hr : Ev (fun q => r5Regime.l1 q A (thir n (ent A) (k + 1) 13) 0 ((k + 1 : Nat) : Int) num den) r) : ∀ d j, j + d = 12 →
  Ev (fun q => r5Regime.l3 q A (mov n (ent A) k j) 0 (k : Int) (mat n (powf n (ent A) (k + 13))) (j : Int) num den) r := by
 intro d
 induction d with
 | zero =>
  intro j hj
  obtain rfl : j = 12 := by omega
  have hl := mov_length n (ent A) k 12
  refine Ev.step (fun q => ?_) hr
  simp only [r5Regime.l3]
  rw [ji, jh, wr1 k jj]
  have := mov_set n (ent A) k 12
  rw [show ((12 : Int)).toNat = 12 from rfl, show k + 13 = k + 12 + 1 by omega, this, mov_all]
 | succ d ih =>
  intro j hj
  have hl := mov_length n (ent A) k j
  refine Ev.step (fun q => ?_) (ih (j + 1) jj)
  simp only [r5Regime.l3]
  rw [jh, wr1 j jj, jh, jh, jh, jh, mov_get jj jj, toN]
  have := mov_set n (ent A) k j
  rw [show k + (j + 1) = k + j + 1 by omega, this]
theorem RRegime_l2 (hA : Arg n A) {c k0 : Nat} (h : RegIs n (ent A) num den c k0) (k : Nat) (hk : k ≤ 200000) (hkk : k ≤ k0)
  (hr : k < k0 → Ev (fun q => r5Regime.l1 q A (thir n (ent A) (k + 1) 13) 0 ((k + 1 : Nat) : Int) num den) (if k0 < 200000 then ((c : Int), (k0 : Int), (0 : Int)) else (0, 0, 0))) (hk2 : k < 200000) : ∀ d x, x + d = 13 → 1 ≤ x → (k = k0 → x ≤ c) →
  Ev (fun q => r5Regime.l2 q A (thir n (ent A) k 13) 0 (k : Int) (x : Int) num den) (if k0 < 200000 then ((c : Int), (k0 : Int), (0 : Int)) else (0, 0, 0)) := by
 have h6 := hA.six
 have h1 := hA.one
 have ht := h.top
 have ok := slack_ok h1 h6 hA.bd ht
 have hl := thir_length n (ent A) k 13
 have c6 := ok.per_le h.per
 have c1 := h.per.pos
 obtain ⟨u0, hu0⟩ := slack_onz hA.bd ht
 have hcon := slack_con hA.bd ht h.conn
 intro d
 induction d with
 | zero =>
  intro x hx h1 hxc
  obtain rfl : x = 13 := by omega
  have hlt : k < k0 := by
   by_cases e : k = k0
   ·
    have := hxc e; omega
   ·
    omega
  refine Ev.step (f := fun q => r5Regime.j5 q A (thir n (ent A) k 13) 0 (k : Int) ((13 : Nat) : Int) false num den) (fun q => ?_) ?_
  ·
   simp only [r5Regime.l2]
   rw [ji]
  ·
   have h3 := RRegime_l3 hA k hk _ (hr hlt) 12 0 jj
   rw [mov_zero] at h3
   refine Ev.step (f := fun q => (r5Product.f q A (mat n (powf n (ent A) (k + 12)))).bind fun t => r5Regime.l3 q A (thir n (ent A) k 13) 0 (k : Int) t ((0 : Nat) : Int) num den) (fun q => ?_) (Ev.bind (left_big hA (k + 12) jj) h3)
   simp only [r5Regime.j5]
   rw [if_neg (by decide), ji, jh]
   have := thir_get (n := n) (a := ent A) (k := k) (m := 13) (x := 12) jj
   rw [show ((12 : Nat) : Int) = 12 from rfl] at this
   rw [this]
   rfl
 | succ d ih =>
  intro x hx hx1 hxc
  obtain ⟨b, hb, hbi⟩ := ahead_f hA ht k x jj jj
  have g0 := thir_get (n := n) (a := ent A) (k := k) (m := 13) (x := 0) jj
  have gx := thir_get (n := n) (a := ent A) (k := k) (m := 13) (x := x) jj
  rw [Nat.add_zero] at g0
  have step : ∀ q, r5Regime.j5 (q + 1) A (thir n (ent A) k 13) 0 (k : Int) (x : Int) true num den = (r5ahead.f q (mat n (powf n (ent A) (k + x))) (mat n (powf n (ent A) k)) (wrap64 ((x : Int) * num)) den).bind fun t => if t = true then r5Regime.l2 q A (thir n (ent A) k 13) (x : Int) (k : Int) ((x + 1 : Nat) : Int) num den else r5Regime.l2 q A (thir n (ent A) k 13) 0 (k : Int) ((x + 1 : Nat) : Int) num den := fun q => by
   simp only [r5Regime.j5]
   rw [if_pos trivial, jh, jh, jh, gx, wr1 x jj]
   show (r5ahead.f q _ (rd_L3 (thir n (ent A) k 13) ((0 : Nat) : Int)) _ den).bind _ = _
   rw [g0]
  have step0 : ∀ q, r5Regime.l2 (q + 1) A (thir n (ent A) k 13) 0 (k : Int) (x : Int) num den = r5Regime.j5 q A (thir n (ent A) k 13) 0 (k : Int) (x : Int) true num den := fun q => by
   simp only [r5Regime.l2]
   rw [jh]
   rfl
  by_cases hbt : b = true
  ·
   have hrep := (hbi.1 hbt).2
   have hrc := rep_per h1 h6 ok.bd ok.no hcon hu0 h.per jj hx1 jj hrep
   have hk0 : k = k0 := by
    by_cases e : k < k0
    ·
     exact absurd hrc (h.min k e)
    ·
     omega
   have hcx := Nat.le_of_dvd jj (rep_div h6 ok.bd ok.no h.per jj jj hrep)
   have hx0 : x = c := by have := hxc hk0; omega
   subst hk0
   subst hx0
   rw [if_pos hk2]
   refine Ev.step step0 (Ev.step step (Ev.bind hb (Ev.congr (fun q => if_pos hbt) ?_)))
   have fin : Ev (fun q => r5Regime.j5 q A (thir n (ent A) k 13) (x : Int) (k : Int) ((x + 1 : Nat) : Int) false num den) ((x : Int), (k : Int), (0 : Int)) := by
    refine ev_now fun q => ?_
    simp only [r5Regime.j5]
    rw [if_neg (by decide), jh]
   refine Ev.step (fun q => ?_) fin
   simp only [r5Regime.l2]
   rw [jh, show ((x : Int) == 0) = false from beq_eq_false_iff_ne.2 jj]
  ·
   refine Ev.step step0 (Ev.step step (Ev.bind hb (Ev.congr (fun q => if_neg hbt) (ih (x + 1) jj jj fun e => ?_))))
   have := hxc e
   by_cases e2 : x = c
   ·
    exfalso
    subst e2
    subst e
    obtain ⟨w, hw⟩ := per_den hA.bd ht h.per
    exact hbt (hbi.2 ⟨⟨num * w, by rw [hw, Int.mul_left_comm]⟩, h.rep⟩)
   ·
    omega
theorem RRegime_l1 (hA : Arg n A) {c k0 : Nat} (h : RegIs n (ent A) num den c k0) : ∀ d k, k + d = 200000 → k ≤ k0 →
  Ev (fun q => r5Regime.l1 q A (thir n (ent A) k 13) 0 (k : Int) num den) (if k0 < 200000 then ((c : Int), (k0 : Int), (0 : Int)) else (0, 0, 0)) := by
 intro d
 induction d with
 | zero =>
  intro k hk hkk
  rw [ji]
  refine Ev.step (f := fun q => r5Regime.j3 q A (thir n (ent A) k 13) 0 (k : Int) false num den) (fun q => ?_) (ev_now fun q => ?_)
  ·
   simp only [r5Regime.l1]
   rw [ji]
  ·
   simp only [r5Regime.j3]
   rw [if_neg (by decide)]
 | succ d ih =>
  intro k hk hkk
  have h2 := RRegime_l2 hA h k jj hkk (fun hlt => ih (k + 1) jj jj) jj 12 1 jj jj (fun _ => h.per.pos)
  refine Ev.step (f := fun q => r5Regime.j3 q A (thir n (ent A) k 13) 0 (k : Int) true num den) (fun q => ?_) (Ev.step (fun q => ?_) h2)
  ·
   simp only [r5Regime.l1]
   rw [jh]
   rfl
  ·
   simp only [r5Regime.j3]
   rw [if_pos trivial]
   rfl
theorem RRegime_l0 (hA : Arg n A) (r : Int × Int × Int) (hr : Ev (fun q => r5Regime.l1 q A (thir n (ent A) 0 13) 0 ((0 : Nat) : Int) num den) r) : ∀ d x, x + d = 12 → Ev (fun q => r5Regime.l0 q A (thir n (ent A) 0 (x + 1)) (x : Int) num den) r := by
 intro d
 induction d with
 | zero =>
  intro x hx
  obtain rfl : x = 12 := by omega
  refine Ev.step (fun q => ?_) hr
  simp only [r5Regime.l0]
  rw [ji]
  rfl
 | succ d ih =>
  intro x hx
  have hl := thir_length n (ent A) 0 (x + 1)
  have g := thir_get (n := n) (a := ent A) (k := 0) (m := x + 1) (x := x) jj
  rw [Nat.zero_add] at g
  refine Ev.step (f := fun q => (r5Product.f q A (mat n (powf n (ent A) x))).bind fun t => r5Regime.l0 q A (thir n (ent A) 0 (x + 1) ++ [t]) ((x + 1 : Nat) : Int) num den) (fun q => ?_) (Ev.bind (left_big hA x jj) (Ev.congr (fun q => ?_) (ih (x + 1) jj)))
  ·
   simp only [r5Regime.l0]
   rw [jh, jh, jh, g, wr1 x jj]
   simp only [if_pos (show (thir n (ent A) 0 (x + 1)).length < 5864062014805 by omega)]
  ·
   have : thir n (ent A) 0 (x + 1) ++ [mat n (powf n (ent A) (x + 1))] = thir n (ent A) 0 (x + 1 + 1) := by
    unfold thir
    rw [List.range_succ (n := x + 1), List.map_append]
    simp
   rw [this]
theorem RRegime_f (hA : Arg n A) {c k0 : Nat} (h : RegIs n (ent A) num den c k0) (es : Ev (fun k => r5Speed.f k A) (num, den, 0)) : Ev (fun q => r5Regime.f q A) (if k0 < 200000 then ((c : Int), (k0 : Int), (0 : Int)) else (0, 0, 0)) := by
 have h6 := hA.six
 have hl := hA.is.1
 obtain ⟨b, eb, hbi⟩ := rconnected_f hA
 have hb : b = true := hbi.2 h.conn
 subst hb
 have h0 := RRegime_l0 hA _ (RRegime_l1 hA h 200000 0 jj jj) 12 0 jj
 unfold r5Regime.f
 refine Ev.bind (matrix_yes hA) (Ev.congr (fun k => if_pos rfl) (Ev.bind es (Ev.congr (fun k => if_pos rfl) (Ev.bind eb ?_))))
 refine Ev.step (f := fun q => (r5One.f q (n : Int)).bind fun t => r5Regime.l0 q A [t] ((0 : Nat) : Int) num den) (fun q => ?_) (Ev.bind (One_f n jj) h0)
 simp only [r5Regime.j0]
 rw [if_neg (by decide), hl]
 rfl
end
def Few (p : List (List Int)) : Prop := p.length ≤ 20 ∧ ∀ j, j < p.length → (p.getD j []).length ≤ 20
theorem Few.rows {p : List (List Int)} (h : Few p) : Rows p := fun i hi => by have := h.2 i hi; omega
theorem copy_l0 (A : List (List Int)) (h : Few A) : ∀ d i, i + d = A.length → Ev (fun k => l5copied.l0 k A (A.take i) (i : Int)) A := by
 intro d
 induction d with
 | zero =>
  intro i hi
  refine ev_now (fun k => ?_)
  simp only [l5copied.l0]
  rw [ji, List.take_of_length_le jj]
 | succ d ih =>
  intro i hi
  refine Ev.step (fun k => ?_) (ih (i + 1) jj)
  simp only [l5copied.l0, Option.bind_some]
  have h2 := h.2 i jj
  have h1 := h.1
  have hl : (A.take i).length = i := by rw [List.length_take]; omega
  rw [jh, jh, rdL, if_pos (by simp only [List.length_nil]; omega), jh, wr1 i jj, List.nil_append]
  have e : A.take i ++ [A.getD i []] = A.take (i + 1) := by
   rw [List.take_succ_eq_append_getElem (by omega : i < A.length), List.getD_eq_getElem?_getD, List.getElem?_eq_getElem (by omega : i < A.length)]
   rfl
  rw [e]
theorem copy_f (A : List (List Int)) (h : Few A) : Ev (fun k => l5copied.f k A) A := copy_l0 A h A.length 0 jj
set_option maxRecDepth 100000 in
theorem alive_ev : Ev (fun k => l5alive.f k) true :=
 Ev.of l5alive.mono (k := 100) (by decide +kernel)
theorem alive_regimes : Ev (fun k => (l5alive.f k).bind fun t => some t) true := Ev.bind alive_ev (Ev.now true)
section
variable {n : Nat} {A : List (List Int)}
theorem REigen_err {A : List (List Int)} (hno : ¬ ∃ n, Arg n A) : Ev (fun k => r5Eigen.f k A) ([], 2) ∧ Ev (fun k => r5Regime.f k A) (0, 0, 2) := by
 constructor
 ·
  unfold r5Eigen.f
  exact Ev.bind (matrix_no hno) (ev_some fun k => if_neg (by decide))
 ·
  unfold r5Regime.f
  exact Ev.bind (matrix_no hno) (ev_some fun k => if_neg (by decide))
theorem RPlan (hA : Arg n A) (h : Ev (fun k => r5Speed.f k A) (0, 0, 10) ∨ ∃ num den, Ev (fun k => r5Speed.f k A) (num, den, 0) ∧ ¬ Conn n (ent A)) : Ev (fun k => r5Eigen.f k A) ([], 10) ∧ Ev (fun k => r5Regime.f k A) (0, 0, 10) := by
 have eM := matrix_yes hA
 have e1 : ∀ x y, Ev (fun k => r5Eigen.j0 k A true x y) ([], 10) := fun x y => ev_now fun k => by
  simp only [r5Eigen.j0]
  rw [if_pos trivial]
 have e2 : ∀ x y, Ev (fun k => r5Regime.j0 k A true x y) (0, 0, 10) := fun x y => ev_now fun k => by
  simp only [r5Regime.j0]
  rw [if_pos trivial]
 rcases h with es | ⟨num, den, es, hc⟩
 ·
  constructor
  ·
   unfold r5Eigen.f
   exact Ev.bind eM (Ev.congr (fun k => if_pos rfl) (Ev.bind es (Ev.congr (fun k => if_neg (show ¬ (10 : Int) = 0 by decide)) (e1 _ _))))
  ·
   unfold r5Regime.f
   exact Ev.bind eM (Ev.congr (fun k => if_pos rfl) (Ev.bind es (Ev.congr (fun k => if_neg (show ¬ (10 : Int) = 0 by decide)) (e2 _ _))))
 ·
  obtain ⟨b, eb, hbi⟩ := rconnected_f hA
  have hb : b = false := Bool.eq_false_iff.2 fun e => hc (hbi.1 e)
  subst hb
  constructor
  ·
   unfold r5Eigen.f
   exact Ev.bind eM (Ev.congr (fun k => if_pos rfl) (Ev.bind es (Ev.congr (fun k => if_pos rfl) (Ev.bind eb (e1 _ _)))))
  ·
   unfold r5Regime.f
   exact Ev.bind eM (Ev.congr (fun k => if_pos rfl) (Ev.bind es (Ev.congr (fun k => if_pos rfl) (Ev.bind eb (e2 _ _)))))
theorem Regimes_eq (hA : Arg n A) (ra : Rows A) : ∃ u e c k e2 d m, Ev (fun q => line_Eigen.f q A) (u, e) ∧ Ev (fun q => r5Eigen.f q A) (u, e) ∧ u.length ≤ 6 ∧ Ev (fun q => line_Regime.f q A) (c, k, e2) ∧ Ev (fun q => r5Regime.f q A) (d, m, e2) ∧ ((c = d ∧ k = m) ∨ (e2 = 0 ∧ d = 0)) := by
 have h6 := hA.six
 rcases RSpeed_f hA with ⟨_, hno, _, es⟩ | ⟨b, num, den, hb, _, _, ht, _, es⟩
 ·
  have r := RPlan hA (.inl es)
  have e1 : Ev (fun q => line_Eigen.f q A) ([], 10) := by
   rcases Eigen_f hA ra with ⟨_, e, _⟩ | ⟨num, den, ht, _⟩
   ·
    exact e
   ·
    obtain ⟨k, i, hS, hne, _⟩ := ht.att
    exact absurd (hno k i hS) hne
  have e2 : Ev (fun q => line_Regime.f q A) (0, 0, 10) := by
   rcases Regime_f hA ra with ⟨_, e⟩ | ⟨num, den, ht, _⟩
   ·
    exact e
   ·
    obtain ⟨k, i, hS, hne, _⟩ := ht.att
    exact absurd (hno k i hS) hne
  exact ⟨[], 10, 0, 0, 10, 0, 0, e1, r.1, by simp, e2, r.2, .inl ⟨rfl, rfl⟩⟩
 ·
  have att := ht.att
  obtain ⟨k1, i1, hS1, hne1, _⟩ := att
  rcases Eigen_f hA ra with ⟨hno, _, _⟩ | ⟨num', den', ht', _, hE⟩
  ·
   exact absurd (hno k1 i1 hS1) hne1
  rcases Regime_f hA ra with ⟨hno, _⟩ | ⟨num2, den2, ht2, _, hR⟩
  ·
   exact absurd (hno k1 i1 hS1) hne1
  obtain ⟨x1, x2⟩ := Top.uniq ht ht'
  obtain ⟨y1, y2⟩ := Top.uniq ht ht2
  subst x1
  subst x2
  subst y1
  subst y2
  by_cases hc : Conn n (ent A)
  ·
   obtain ⟨c, m, hI, eE⟩ := hE.resolve_left (fun h => h.1 hc)
   obtain ⟨p, k0, hG, eR⟩ := hR.resolve_left (fun h => h.1 hc)
   have rE := REigen_f hA hI es
   have rR := RRegime_f hA hG es
   by_cases hk : k0 < 200000
   ·
    rw [if_pos hk] at rR
    exact ⟨_, 0, _, _, 0, _, _, eE, rE, by rw [yB]; exact h6, eR, rR, .inl ⟨rfl, rfl⟩⟩
   ·
    rw [if_neg hk] at rR
    exact ⟨_, 0, _, _, 0, _, _, eE, rE, by rw [yB]; exact h6, eR, rR, .inr ⟨rfl, rfl⟩⟩
  ·
   have r := RPlan hA (.inr ⟨num, den, es, hc⟩)
   have e1 : Ev (fun q => line_Eigen.f q A) ([], 10) := by
    rcases hE with h | ⟨c, m, hI, _⟩
    ·
     exact h.2
    ·
     exact absurd hI.conn hc
   have e2 : Ev (fun q => line_Regime.f q A) (0, 0, 10) := by
    rcases hR with h | ⟨c, m, hI, _⟩
    ·
     exact h.2
    ·
     exact absurd hI.conn hc
   exact ⟨[], 10, 0, 0, 10, 0, 0, e1, r.1, by simp, e2, r.2, .inl ⟨rfl, rfl⟩⟩
end
theorem LineRegimes : ∀ (l0 : List (List Int)), l0.length ≤ 9223372036854775807 → (∀ r ∈ l0, r.length ≤ maxLen ∧ ∀ x ∈ r, (Lit.int .i64 x).wf = true) → ∃ k, l5LineRegimes.f k l0 = some true := by
 intro A _ _
 apply Ev.rounds
 unfold l5LineRegimes.f
 obtain ⟨fa, ea, hf⟩ := few_f A
 refine Ev.bind ea ?_
 cases fa with
 | false => exact Ev.congr (fun k => if_neg (by decide)) alive_regimes
 | true =>
 have few : Few A := hf rfl
 have ra := few.rows
 have hlen := few.1
 refine Ev.congr (fun k => if_pos rfl) ?_
 obtain ⟨u, e, c, k, e2, d, m, p1, p2, lu, s1, s2, hor⟩ : ∃ u e c k e2 d m, Ev (fun q => line_Eigen.f q A) (u, e) ∧ Ev (fun q => r5Eigen.f q A) (u, e) ∧ u.length ≤ 6 ∧ Ev (fun q => line_Regime.f q A) (c, k, e2) ∧ Ev (fun q => r5Regime.f q A) (d, m, e2) ∧ ((c = d ∧ k = m) ∨ (e2 = 0 ∧ d = 0)) := by
  by_cases hA : ∃ n, Arg n A
  ·
   obtain ⟨n, hA⟩ := hA; exact Regimes_eq hA ra
  ·
   exact ⟨[], 2, 0, 0, 2, 0, 0, (Eigen_no ra hA).1, (REigen_err hA).1, by simp, Regime_no ra hA, (REigen_err hA).2, .inl ⟨rfl, rfl⟩⟩
 have tail : ∀ x : Bool, Ev (fun q => if (x == false) = true then some false else if c = d then (if k = m then ((l5alive.f q).bind fun t => some t) else if e2 = 0 then (if d = 0 then ((l5alive.f q).bind fun t => some t) else some false) else some false) else if e2 = 0 then (if d = 0 then ((l5alive.f q).bind fun t => some t) else some false) else some false) true ∨ x = false := fun x => by
  cases x with
  | false => exact .inr rfl
  | true =>
   refine .inl (Ev.congr (fun q => if_neg (by decide)) ?_)
   rcases hor with ⟨h1, h2⟩ | ⟨h1, h2⟩
   ·
    exact Ev.congr (fun q => if_pos h1) (Ev.congr (fun q => if_pos h2) alive_regimes)
   ·
    by_cases h3 : c = d
    ·
     refine Ev.congr (fun q => if_pos h3) ?_
     by_cases h4 : k = m
     ·
      exact Ev.congr (fun q => if_pos h4) alive_regimes
     ·
      exact Ev.congr (fun q => if_neg h4) (Ev.congr (fun q => if_pos h1) (Ev.congr (fun q => if_pos h2) alive_regimes))
    ·
     exact Ev.congr (fun q => if_neg h3) (Ev.congr (fun q => if_pos h1) (Ev.congr (fun q => if_pos h2) alive_regimes))
 have last : Ev (fun q => l5LineRegimes.j0 q A A false) true := by
  refine Ev.step (f := fun q => (line_Regime.f q A).bind fun x => (r5Regime.f q A).bind fun y => if x.2.2 = y.2.2 then ((l5rows.f q A A).bind fun t => if (t == false) = true then some false else if x.1 = y.1 then (if x.2.1 = y.2.1 then ((l5alive.f q).bind fun t => some t) else if y.2.2 = 0 then (if y.1 = 0 then ((l5alive.f q).bind fun t => some t) else some false) else some false) else if y.2.2 = 0 then (if y.1 = 0 then ((l5alive.f q).bind fun t => some t) else some false) else some false) else some false) (fun q => ?_) (Ev.bind s1 (Ev.bind s2 (Ev.congr (fun q => if_pos rfl) (Ev.bind (rows_f A jj ra) ((tail true).resolve_right (by decide))))))
  simp only [l5LineRegimes.j0]
  rw [if_neg (by decide)]
 exact Ev.bind (copy_f A few) (Ev.bind p1 (Ev.bind p2 (Ev.congr (fun q => if_pos rfl) (Ev.bind (same_f u jj) last))))
end Go.Proofs.Ythjmfbmffchicaa.Pure
end
section
namespace Go.Proofs.YthjmfbmffchicaaW.PrintWords
open Go.RowKit Go.Deep
section
variable {H : Type} {enc : TypeId × Value → H} {P : Program} {W : World} {base : Nat} {held : Bool}
theorem reads_int_rows {t e q : TypeId} (ht : P.underlying t = some (.slice e)) (he : P.underlying e = some (.slice q)) (hq : P.underlying q = some (.int .i64))
  (ce : P.cellsOf e = 1) (cq : P.cellsOf q = 1) {a : Option Addr} {len cap : Nat} {d : DataW H} {ps : List MemPlace}
  (h : DataW.Trod enc P W base (fun _ => true) held t (.slice a len cap) d ps) :
  ∃ l : List (List Int), len = l.length ∧ Kd.C (Kd.slice q (Kd.int .i64)) W a l.length l ∧ l.length ≤ cap ∧ ∀ r ∈ l, r.length ≤ maxLen ∧ ∀ x ∈ r, (Lit.int .i64 x).wf = true := by
 obtain ⟨fuel, hf⟩ := h
 rcases open_int_rows ht he hq ce cq hf with ⟨hcs, _⟩ | ⟨b, n, c, A, L, C, Z, hcs, _, hl, hm, _, hr⟩
 ·
  simp [Value.cells] at hcs
  obtain ⟨rfl, rfl, rfl⟩ := hcs
  exact ⟨[], rfl, ⟨rfl, Nat.zero_le _, fun hn => absurd hn (by simp)⟩, Nat.zero_le _, fun r hr => by cases hr⟩
 ·
  simp [Value.cells] at hcs
  obtain ⟨rfl, rfl, rfl⟩ := hcs
  have hlen : ((List.range len).map fun r => (Z r).take (L r)).length = len := by simp
  refine ⟨(List.range len).map fun r => (Z r).take (L r), hlen.symm, ?_, by omega, ?_⟩
  ·
   rw [hlen]
   refine ⟨hlen, by unfold maxLen at hm; omega, fun hn => ⟨b, rfl, fun j p hj => ?_⟩⟩
   have hj2 : j < len := by
    have := (List.getElem?_eq_some_iff.1 hj).1
    simpa using this
   obtain ⟨h1, h2, h3, h4, h5, h6, h7⟩ := hr j jj
   have hp : p = (Z j).take (L j) := by
    rw [List.getElem?_map, List.getElem?_range hj2] at hj
    simpa using hj.symm
   have hpl : p.length = L j := by rw [hp, List.length_take, h4]; omega
   refine ⟨[.slice (A j) (L j) (C j)], rfl, ⟨A j, C j, by rw [hpl], by omega, ?_⟩, fun i u hu => ?_⟩
   ·
    refine ⟨rfl, by unfold maxLen at h3; omega, fun hn' => ?_⟩
    have hA : A j ≠ none := fun e => by have := h6 e; omega
    obtain ⟨a', ha'⟩ := Option.ne_none_iff_exists'.1 hA
    refine ⟨a', ha', fun i x hx => ⟨[.int .i64 x], rfl, rfl, fun i' u hu => ?_⟩⟩
    obtain ⟨hi, hx'⟩ := List.getElem?_eq_some_iff.1 hx
    cases i' with
    | zero =>
     simp at hu
     subst hu
     have hc := (h7 a' ha').2 i jj
     show W.cell? (a'.add (i * (Kd.int .i64).sz + 0)) = _
     rw [show i * (Kd.int .i64).sz + 0 = i from by show i * 1 + 0 = i; omega, hc]
     congr 2
     subst hp
     rw [List.getElem_take] at hx'
     rw [← hx', List.getD_eq_getElem?_getD, List.getElem?_eq_getElem jj]
     rfl
    | succ i' => simp at hu
   ·
    cases i with
    | zero =>
     simp at hu
     subst hu
     show W.cell? (b.add (j * (Kd.slice q (Kd.int .i64)).sz + 0)) = _
     rw [show j * (Kd.slice q (Kd.int .i64)).sz + 0 = j from by show j * 1 + 0 = j; omega]
     exact h1
    | succ i => simp at hu
  ·
   intro r hr'
   obtain ⟨j, hj, rfl⟩ := List.mem_map.1 hr'
   have hj2 : j < len := by simpa using hj
   obtain ⟨h1, h2, h3, h4, h5, h6, h7⟩ := hr j jj
   exact ⟨by rw [List.length_take, h4]; omega, fun x hx => h5 x (List.mem_of_mem_take hx)⟩
end
end Go.Proofs.YthjmfbmffchicaaW.PrintWords
end
