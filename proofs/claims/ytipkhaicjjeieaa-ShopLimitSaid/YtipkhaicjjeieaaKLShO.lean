/- Walks of the shop's functions, fifteenth text: what a look at an order is; rows of its own; the closure that recovers. -/
import Derived.Test.YtipkhaicjjeieaaKLShN
import Derived.Test.YtipkhaicjjeieaaKLf0
import Derived.Defers
import Derived.Recover
namespace Go.Proofs.Ytipkhaicjjeieaa.V
set_option linter.unusedSimpArgs false
set_option linter.unusedVariables false
open Go.RowKit Go.Proofs.YtipkhaicjjeieaaW.PrintWords Go.Proofs.YtipkhaicjjeieaaW.PrintLast Go.Proofs.YtipkhaicjjeieaaW.PrintMore
theorem wr64_in (n : Int) (h : -9223372036854775808 ≤ n ∧ n ≤ 9223372036854775807) : wrap64 n = n := by unfold wrap64; omega
theorem reverse_l0 : ∀ (k : Nat) (x : List Int) (i j : Nat), x.length ≤ 1000 → j < x.length → j + 1 ≤ i + k + k → i ≤ j + 1 →
    ∃ y, slices_Reverse_int_int.l0 (k + 1) x i j = some y ∧ y.length = x.length ∧ ∀ m, y.getD m 0 = if i ≤ m ∧ m ≤ j then x.getD (i + j - m) 0 else x.getD m 0 := by
  intro k
  induction k with
  | zero =>
    intro x i j hx hj hk hij
    refine ⟨x, ?_, rfl, fun m => ?_⟩
    · unfold slices_Reverse_int_int.l0
      rw [if_neg (by omega)]
    · rw [if_neg (by omega)]
  | succ k ih =>
    intro x i j hx hj hk hij
    by_cases h : i < j
    · have e : slices_Reverse_int_int.l0 (k + 1 + 1) x i j = slices_Reverse_int_int.l0 (k + 1) ((x.set i (rd x j)).set j (rd x i)) ((i + 1 : Nat) : Int) ((j - 1 : Nat) : Int) := by
        rw [slices_Reverse_int_int.l0, if_pos (by omega), if_pos (by omega), if_pos (by omega), if_pos (by omega), if_pos (by omega), wr64_in _ (by omega), wr64_in _ (by omega), Int.toNat_natCast, Int.toNat_natCast]
        congr 1
        omega
      obtain ⟨y, e1, e2, e3⟩ := ih ((x.set i (rd x j)).set j (rd x i)) (i + 1) (j - 1) (by simpa using hx) (by simp; omega) (by omega) (by omega)
      refine ⟨y, by rw [e, e1], by rw [e2]; simp, fun m => ?_⟩
      have hri : rd x (i : Int) = x.getD i 0 := by simp [rd]
      have hrj : rd x (j : Int) = x.getD j 0 := by simp [rd]
      have hg : ∀ m : Nat, ((x.set i (rd x j)).set j (rd x i)).getD m 0 = if m = j then x.getD i 0 else if m = i then x.getD j 0 else x.getD m 0 := by
        intro m
        rw [getD_set, getD_set, hri, hrj]
        by_cases a : m = j
        · rw [if_pos a, if_pos ⟨a.symm, by rw [List.length_set]; omega⟩]
        · rw [if_neg a, if_neg (fun q => a q.1.symm)]
          by_cases b : m = i
          · rw [if_pos b, if_pos ⟨b.symm, by omega⟩]
          · rw [if_neg b, if_neg (fun q => b q.1.symm)]
      rw [e3 m, hg, hg]
      by_cases c1 : m = j
      · rw [if_neg (by omega), if_pos c1, if_pos (by omega)]
        congr 1
        omega
      · by_cases c2 : m = i
        · rw [if_neg (by omega), if_neg c1, if_pos c2, if_pos (by omega)]
          congr 1
          omega
        · by_cases c3 : i ≤ m ∧ m ≤ j
          · rw [if_pos (by omega), if_neg (by omega), if_neg (by omega), if_pos c3]
            congr 1
            omega
          · rw [if_neg (by omega), if_neg c1, if_neg c2, if_neg c3]
    · refine ⟨x, ?_, rfl, fun m => ?_⟩
      · rw [slices_Reverse_int_int.l0, if_neg (by omega)]
      · split
        · congr 1
          omega
        · rfl
theorem reverse_f (x : List Int) (hx : x.length ≤ 1000) : slices_Reverse_int_int.f (x.length + 1) x = some x.reverse := by
  unfold slices_Reverse_int_int.f
  rw [wr64_in _ (by omega)]
  by_cases h : x = []
  · subst h
    rfl
  · have hp : 0 < x.length := List.length_pos_iff.2 h
    obtain ⟨y, e1, e2, e3⟩ := reverse_l0 x.length x 0 (x.length - 1) hx (by omega) (by omega) (by omega)
    rw [show ((x.length : Int) - 1) = ((x.length - 1 : Nat) : Int) by omega]
    refine e1.trans (congrArg some ?_)
    refine List.ext_getElem (by rw [e2, List.length_reverse]) fun m h1 h2 => ?_
    have h3 := e3 m
    rw [List.getElem_reverse]
    simp only [List.getD_eq_getElem?_getD] at h3
    rw [List.getElem?_eq_getElem h1, if_pos (by omega), List.getElem?_eq_getElem (by omega)] at h3
    simp only [Option.getD_some] at h3
    rw [h3]
    congr 1
    omega
def chainF (fr : List Int) : Nat → Int → Option (List Int)
  | 0, _ => none
  | f + 1, p => if p < 0 then some [] else if p < (fr.length : Int) then (chainF fr f (fr.getD p.toNat 0)).map (p :: ·) else none
def pickF (su fr : List Int) : Nat → Option (Int × List Int)
  | 0 => some (0, [])
  | t + 1 => match pickF su fr t with
    | none => none
    | some (s, c) => if su.getD t 0 > s then (chainF fr 90 t).map (fun l => (su.getD t 0, l.reverse)) else some (s, c)
theorem pickF_none {su fr : List Int} {t : Nat} (h : pickF su fr t = none) : ∀ d, pickF su fr (t + d) = none
  | 0 => h
  | d + 1 => by
    have := pickF_none h d
    show pickF su fr (t + d + 1) = none
    rw [pickF, this]
def subF (su : List Int) (tm : Nat → Int) : Nat → List Int
  | 0 => []
  | k + 1 => subF su tm k ++ [wrap64 (su.getD k 0 - tm k)]
theorem subF_len (su : List Int) (tm : Nat → Int) : ∀ k, (subF su tm k).length = k
  | 0 => rfl
  | k + 1 => by simp [subF, subF_len su tm k]
inductive Lre where
  | ok (h t c : List Int) (s : Int)
  | cyc (l : List Int)
def lookF (nx : Nat → Nat → Bool) (tm : Nat → Int) (n : Nat) : Option Lre :=
  match allF nx tm n 90 n with
  | none => none
  | some (.cyc l) => some (.cyc l.reverse)
  | some (.ok S) => match allF (backN nx n n 0) tm n 90 n with
    | none => none
    | some (.cyc l) => some (.cyc l.reverse)
    | some (.ok S2) => match pickF S.su S.fr n with
      | none => none
      | some (s, c) => some (.ok (subF S.su tm n) (subF S2.su tm n) c s)
structure Lk (w0 : World) (o : Array Value) (gu gf gb : Nat) (su fr sb : List Int) (vh vt vc : Value) (h t c : List Int) (W : World) : Prop where
  below : Below w0.heap.size w0 W
  gs : w0.heap.size + 2 ≤ gu ∧ w0.heap.size + 2 ≤ gf ∧ w0.heap.size + 2 ≤ gb
  bo : W.heap[w0.heap.size]? = some (.cells o 77 (0, 0))
  ru : W.heap[gu]? = some (.cells (rowI su) 3 (0, 0))
  rf : W.heap[gf]? = some (.cells (rowI fr) 3 (0, 0))
  rb : W.heap[gb]? = some (.cells (rowI sb) 3 (0, 0))
  rh : Kd.R (Kd.int .i64) 3 W w0.heap.size (fun k => some k = vh.ownBlock) vh h
  rt : Kd.R (Kd.int .i64) 3 W w0.heap.size (fun k => some k = vt.ownBlock) vt t
  rc : Kd.R (Kd.int .i64) 3 W w0.heap.size (fun k => some k = vc.ownBlock) vc c
  fh : ∀ k, vh.ownBlock = some k → w0.heap.size + 2 ≤ k ∧ k ≠ gu ∧ k ≠ gf ∧ k ≠ gb
  ft : ∀ k, vt.ownBlock = some k → w0.heap.size + 2 ≤ k ∧ k ≠ gu ∧ k ≠ gf ∧ k ≠ gb
  fc : ∀ k, vc.ownBlock = some k → w0.heap.size + 2 ≤ k ∧ k ≠ gu ∧ k ≠ gf ∧ k ≠ gb
  ht : ∀ k, vh.ownBlock = some k → vt.ownBlock ≠ some k
  hc : ∀ k, vh.ownBlock = some k → vc.ownBlock ≠ some k
  tc : ∀ k, vt.ownBlock = some k → vc.ownBlock ≠ some k
section
variable {w0 W : World} {o : Array Value} {gu gf gb : Nat} {su fr sb : List Int} {vh vt vc : Value} {h t c : List Int}
theorem Lk.below_ {w1 : World} (L : Lk w0 o gu gf gb su fr sb vh vt vc h t c W) (hb : Below W.heap.size W w1) : Lk w0 o gu gf gb su fr sb vh vt vc h t c w1 :=
  ⟨below_step L.below hb, L.gs, blk_below L.bo hb, blk_below L.ru hb, blk_below L.rf hb, blk_below L.rb hb, Kd.R_below L.rh hb, Kd.R_below L.rt hb, Kd.R_below L.rc hb, L.fh, L.ft, L.fc, L.ht, L.hc, L.tc⟩
theorem Lk.alloc (L : Lk w0 o gu gf gb su fr sb vh vt vc h t c W) (ob : Obj) : Lk w0 o gu gf gb su fr sb vh vt vc h t c (W.alloc ob) := L.below_ (below_alloc (Below.refl _ _) ob)
theorem Lk.drew (L : Lk w0 o gu gf gb su fr sb vh vt vc h t c W) : Lk w0 o gu gf gb su fr sb vh vt vc h t c W.drew := L.below_ (below_drew1 (Below.refl _ _))
theorem Lk.out (L : Lk w0 o gu gf gb su fr sb vh vt vc h t c W) (i : Nat) (u : Value) : Lk w0 o gu gf gb su fr sb vh vt vc h t c (W.setCell ⟨w0.heap.size + 1, i, none⟩ u) :=
  ⟨L.below.setCell (by simp) _, L.gs, blk_far L.bo (by simp) _, blk_far L.ru (by have := L.gs; simp; omega) _, blk_far L.rf (by have := L.gs; simp; omega) _, blk_far L.rb (by have := L.gs; simp; omega) _,
    Kd.R_far L.rh (fun k hk => by have := L.fh k hk.symm; simp; omega) _, Kd.R_far L.rt (fun k hk => by have := L.ft k hk.symm; simp; omega) _, Kd.R_far L.rc (fun k hk => by have := L.fc k hk.symm; simp; omega) _, L.fh, L.ft, L.fc, L.ht, L.hc, L.tc⟩
theorem Lk.newOwn (L : Lk w0 o gu gf gb su fr sb vh vt vc h t c W) {v v1 : Value} (f : ∀ k, v.ownBlock = some k → w0.heap.size + 2 ≤ k ∧ k ≠ gu ∧ k ≠ gf ∧ k ≠ gb) (hat : v1.ownBlock = v.ownBlock ∨ ∃ b, v1.ownBlock = some b ∧ W.heap.size ≤ b) : ∀ k, v1.ownBlock = some k → w0.heap.size + 2 ≤ k ∧ k ≠ gu ∧ k ≠ gf ∧ k ≠ gb := by
  intro k hk
  rcases hat with e | ⟨b, e, hb⟩
  · exact f k (by rw [← e]; exact hk)
  · have h1 := blk_lt L.ru
    have h2 := blk_lt L.rf
    have h3 := blk_lt L.rb
    have h4 := L.gs
    obtain rfl : b = k := by rw [e] at hk; exact Option.some.inj hk
    omega
theorem own_lt {d : Kd Int} {e B : Nat} {ok : Nat → Prop} {v : Value} {l : List Int} (h : d.R e W B ok v l) (k : Nat) (hk : v.ownBlock = some k) : k < W.heap.size := ((Kd.R_bound h).1 k hk).2.2.1
theorem newApart {d : Kd Int} {e B : Nat} {ok : Nat → Prop} {u v v1 : Value} {l : List Int} (hu : d.R e W B ok u l) (hap : ∀ k, v.ownBlock = some k → u.ownBlock ≠ some k) (hat : v1.ownBlock = v.ownBlock ∨ ∃ b, v1.ownBlock = some b ∧ W.heap.size ≤ b) : ∀ k, v1.ownBlock = some k → u.ownBlock ≠ some k := by
  intro k hk hq
  rcases hat with e1 | ⟨b, e1, hb⟩
  · exact hap k (by rw [← e1]; exact hk) hq
  · have := own_lt hu k hq
    obtain rfl : b = k := by rw [e1] at hk; exact Option.some.inj hk
    omega
theorem R_apart {d : Kd Int} {e B : Nat} {u v : Value} {l : List Int} {w1 : World} (hu : d.R e W B (fun k => some k = u.ownBlock) u l) (hap : ∀ k, u.ownBlock = some k → v.ownBlock ≠ some k) (hg : W.grownBy w1 v.ownBlock) : d.R e w1 B (fun k => some k = u.ownBlock) u l :=
  Kd.R_grown hu hg (fun k hk he => hap k hk.symm he.symm)
theorem Lk.growH (L : Lk w0 o gu gf gb su fr sb vh vt vc h t c W) {v1 : Value} {w1 : World} {ok : Nat → Prop} {h1 : List Int} (hr : Kd.R (Kd.int .i64) 3 w1 w0.heap.size ok v1 h1) (hb : Below w0.heap.size w0 w1) (hg : W.grownBy w1 vh.ownBlock) (hat : v1.ownBlock = vh.ownBlock ∨ ∃ b, v1.ownBlock = some b ∧ W.heap.size ≤ b) : Lk w0 o gu gf gb su fr sb v1 vt vc h1 t c w1 := by
  have sy : ∀ {a b : Value}, (∀ k, a.ownBlock = some k → b.ownBlock ≠ some k) → ∀ k, b.ownBlock = some k → a.ownBlock ≠ some k := fun f k h1 h2 => f k h2 h1
  have gs := L.gs
  exact ⟨hb, gs, blk_grown L.bo hg (fun he => by have := L.fh _ he.symm; omega), blk_grown L.ru hg (fun he => by have := L.fh _ he.symm; omega), blk_grown L.rf hg (fun he => by have := L.fh _ he.symm; omega), blk_grown L.rb hg (fun he => by have := L.fh _ he.symm; omega),
    Kd.R_tight rfl hr, R_apart L.rt (sy L.ht) hg, R_apart L.rc (sy L.hc) hg, L.newOwn L.fh hat, L.ft, L.fc, newApart L.rt L.ht hat, newApart L.rc L.hc hat, L.tc⟩
theorem Lk.growT (L : Lk w0 o gu gf gb su fr sb vh vt vc h t c W) {v1 : Value} {w1 : World} {ok : Nat → Prop} {h1 : List Int} (hr : Kd.R (Kd.int .i64) 3 w1 w0.heap.size ok v1 h1) (hb : Below w0.heap.size w0 w1) (hg : W.grownBy w1 vt.ownBlock) (hat : v1.ownBlock = vt.ownBlock ∨ ∃ b, v1.ownBlock = some b ∧ W.heap.size ≤ b) : Lk w0 o gu gf gb su fr sb vh v1 vc h h1 c w1 := by
  have sy : ∀ {a b : Value}, (∀ k, a.ownBlock = some k → b.ownBlock ≠ some k) → ∀ k, b.ownBlock = some k → a.ownBlock ≠ some k := fun f k h1 h2 => f k h2 h1
  have gs := L.gs
  exact ⟨hb, gs, blk_grown L.bo hg (fun he => by have := L.ft _ he.symm; omega), blk_grown L.ru hg (fun he => by have := L.ft _ he.symm; omega), blk_grown L.rf hg (fun he => by have := L.ft _ he.symm; omega), blk_grown L.rb hg (fun he => by have := L.ft _ he.symm; omega),
    R_apart L.rh L.ht hg, Kd.R_tight rfl hr, R_apart L.rc (sy L.tc) hg, L.fh, L.newOwn L.ft hat, L.fc, sy (newApart L.rh (sy L.ht) hat), L.hc, newApart L.rc L.tc hat⟩
theorem Lk.growC (L : Lk w0 o gu gf gb su fr sb vh vt vc h t c W) {v1 : Value} {w1 : World} {ok : Nat → Prop} {h1 : List Int} (hr : Kd.R (Kd.int .i64) 3 w1 w0.heap.size ok v1 h1) (hb : Below w0.heap.size w0 w1) (hg : W.grownBy w1 vc.ownBlock) (hat : v1.ownBlock = vc.ownBlock ∨ ∃ b, v1.ownBlock = some b ∧ W.heap.size ≤ b) : Lk w0 o gu gf gb su fr sb vh vt v1 h t h1 w1 := by
  have sy : ∀ {a b : Value}, (∀ k, a.ownBlock = some k → b.ownBlock ≠ some k) → ∀ k, b.ownBlock = some k → a.ownBlock ≠ some k := fun f k h1 h2 => f k h2 h1
  have gs := L.gs
  exact ⟨hb, gs, blk_grown L.bo hg (fun he => by have := L.fc _ he.symm; omega), blk_grown L.ru hg (fun he => by have := L.fc _ he.symm; omega), blk_grown L.rf hg (fun he => by have := L.fc _ he.symm; omega), blk_grown L.rb hg (fun he => by have := L.fc _ he.symm; omega),
    R_apart L.rh L.hc hg, R_apart L.rt L.tc hg, Kd.R_tight rfl hr, L.fh, L.ft, L.newOwn L.fc hat, L.ht, sy (newApart L.rh (sy L.hc) hat), sy (newApart L.rt (sy L.tc) hat)⟩
theorem Lk.dropC (L : Lk w0 o gu gf gb su fr sb vh vt vc h t c W) : Lk w0 o gu gf gb su fr sb vh vt (.slice none 0 0) h t [] W :=
  ⟨L.below, L.gs, L.bo, L.ru, L.rf, L.rb, L.rh, L.rt, Kd.R_nil _ _ _ _ _, L.fh, L.ft, fun k hk => by simp [Value.ownBlock] at hk, L.ht, fun k _ => by simp [Value.ownBlock], fun k _ => by simp [Value.ownBlock]⟩
theorem Lk.turnC (L : Lk w0 o gu gf gb su fr sb vh vt vc h t c W) {w1 : World} {ok : Nat → Prop} {c1 : List Int} (hr : Kd.R (Kd.int .i64) 3 w1 w0.heap.size ok vc c1) (hb : Below w0.heap.size w0 w1) (hk : Kept W w1 (fun k => some k = vc.ownBlock)) : Lk w0 o gu gf gb su fr sb vh vt vc h t c1 w1 := by
  have gs := L.gs
  exact ⟨hb, gs, blk_kept L.bo hk (fun he => by have := L.fc _ he.symm; omega), blk_kept L.ru hk (fun he => by have := L.fc _ he.symm; omega), blk_kept L.rf hk (fun he => by have := L.fc _ he.symm; omega), blk_kept L.rb hk (fun he => by have := L.fc _ he.symm; omega),
    Kd.R_kept L.rh hk (fun k h1 h2 => L.hc k h1.symm h2.symm), Kd.R_kept L.rt hk (fun k h1 h2 => L.tc k h1.symm h2.symm), Kd.R_tight rfl hr, L.fh, L.ft, L.fc, L.ht, L.hc, L.tc⟩
end
end Go.Proofs.Ytipkhaicjjeieaa.V
