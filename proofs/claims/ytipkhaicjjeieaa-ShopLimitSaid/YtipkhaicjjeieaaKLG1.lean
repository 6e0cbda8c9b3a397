/- Walks of the shop's functions: texts behind each other, joined. Conditions stand in each theorem. -/
import Derived.Test.YtipkhaicjjeieaaKLShN
import Derived.Test.YtipkhaicjjeieaaKLf0
import Derived.Defers
import Derived.Recover
section
namespace Go.Proofs.Ytipkhaicjjeieaa.V
set_option linter.unusedSimpArgs false
set_option linter.unusedVariables false
open Go.RowKit Go.Proofs.YtipkhaicjjeieaaW.PrintWords Go.Proofs.YtipkhaicjjeieaaW.PrintLast Go.Proofs.YtipkhaicjjeieaaW.PrintMore
theorem wr64_in (n : Int) (h : -9223372036854775808 ≤ n ∧ n ≤ 9223372036854775807) : wrap64 n = n := by unfold wrap64; omega
theorem reverse_l0 : ∀ (k : Nat) (x : List Int) (i j : Nat), x.length ≤ 1000 → j < x.length → j + 1 ≤ i + k + k → i ≤ j + 1 →
    ∃ y, slices_Reverse_int_int.l0 (k + 1) x i j = some y ∧ y.length = x.length ∧ ∀ m, y.getD m 0 = if i ≤ m ∧ m ≤ j then x.getD (i + j - m) 0 else x.getD m 0 := by
  intro k
  induction k with
  | zero =>
    intro x i j hx hj hk hij
    refine ⟨x, ?_, rfl, fun m => ?_⟩
    · unfold slices_Reverse_int_int.l0
      rw [if_neg (by omega)]
    · rw [if_neg (by omega)]
  | succ k ih =>
    intro x i j hx hj hk hij
    by_cases h : i < j
    · have e : slices_Reverse_int_int.l0 (k + 1 + 1) x i j = slices_Reverse_int_int.l0 (k + 1) ((x.set i (rd x j)).set j (rd x i)) ((i + 1 : Nat) : Int) ((j - 1 : Nat) : Int) := by
        rw [slices_Reverse_int_int.l0, if_pos (by omega), if_pos (by omega), if_pos (by omega), if_pos (by omega), if_pos (by omega), wr64_in _ (by omega), wr64_in _ (by omega), Int.toNat_natCast, Int.toNat_natCast]
        congr 1
        omega
      obtain ⟨y, e1, e2, e3⟩ := ih ((x.set i (rd x j)).set j (rd x i)) (i + 1) (j - 1) (by simpa using hx) (by simp; omega) (by omega) (by omega)
      refine ⟨y, by rw [e, e1], by rw [e2]; simp, fun m => ?_⟩
      have hri : rd x (i : Int) = x.getD i 0 := by simp [rd]
      have hrj : rd x (j : Int) = x.getD j 0 := by simp [rd]
      have hg : ∀ m : Nat, ((x.set i (rd x j)).set j (rd x i)).getD m 0 = if m = j then x.getD i 0 else if m = i then x.getD j 0 else x.getD m 0 := by
        intro m
        rw [getD_set, getD_set, hri, hrj]
        by_cases a : m = j
        · rw [if_pos a, if_pos ⟨a.symm, by rw [List.length_set]; omega⟩]
        · rw [if_neg a, if_neg (fun q => a q.1.symm)]
          by_cases b : m = i
          · rw [if_pos b, if_pos ⟨b.symm, by omega⟩]
          · rw [if_neg b, if_neg (fun q => b q.1.symm)]
      rw [e3 m, hg, hg]
      by_cases c1 : m = j
      · rw [if_neg (by omega), if_pos c1, if_pos (by omega)]
        congr 1
        omega
      · by_cases c2 : m = i
        · rw [if_neg (by omega), if_neg c1, if_pos c2, if_pos (by omega)]
          congr 1
          omega
        · by_cases c3 : i ≤ m ∧ m ≤ j
          · rw [if_pos (by omega), if_neg (by omega), if_neg (by omega), if_pos c3]
            congr 1
            omega
          · rw [if_neg (by omega), if_neg c1, if_neg c2, if_neg c3]
    · refine ⟨x, ?_, rfl, fun m => ?_⟩
      · rw [slices_Reverse_int_int.l0, if_neg (by omega)]
      · split
        · congr 1
          omega
        · rfl
theorem reverse_f (x : List Int) (hx : x.length ≤ 1000) : slices_Reverse_int_int.f (x.length + 1) x = some x.reverse := by
  unfold slices_Reverse_int_int.f
  rw [wr64_in _ (by omega)]
  by_cases h : x = []
  · subst h
    rfl
  · have hp : 0 < x.length := List.length_pos_iff.2 h
    obtain ⟨y, e1, e2, e3⟩ := reverse_l0 x.length x 0 (x.length - 1) hx (by omega) (by omega) (by omega)
    rw [show ((x.length : Int) - 1) = ((x.length - 1 : Nat) : Int) by omega]
    refine e1.trans (congrArg some ?_)
    refine List.ext_getElem (by rw [e2, List.length_reverse]) fun m h1 h2 => ?_
    have h3 := e3 m
    rw [List.getElem_reverse]
    simp only [List.getD_eq_getElem?_getD] at h3
    rw [List.getElem?_eq_getElem h1, if_pos (by omega), List.getElem?_eq_getElem (by omega)] at h3
    simp only [Option.getD_some] at h3
    rw [h3]
    congr 1
    omega
def chainF (fr : List Int) : Nat → Int → Option (List Int)
  | 0, _ => none
  | f + 1, p => if p < 0 then some [] else if p < (fr.length : Int) then (chainF fr f (fr.getD p.toNat 0)).map (p :: ·) else none
def pickF (su fr : List Int) : Nat → Option (Int × List Int)
  | 0 => some (0, [])
  | t + 1 => match pickF su fr t with
    | none => none
    | some (s, c) => if su.getD t 0 > s then (chainF fr 90 t).map (fun l => (su.getD t 0, l.reverse)) else some (s, c)
theorem pickF_none {su fr : List Int} {t : Nat} (h : pickF su fr t = none) : ∀ d, pickF su fr (t + d) = none
  | 0 => h
  | d + 1 => by
    have := pickF_none h d
    show pickF su fr (t + d + 1) = none
    rw [pickF, this]
def subF (su : List Int) (tm : Nat → Int) : Nat → List Int
  | 0 => []
  | k + 1 => subF su tm k ++ [wrap64 (su.getD k 0 - tm k)]
theorem subF_len (su : List Int) (tm : Nat → Int) : ∀ k, (subF su tm k).length = k
  | 0 => rfl
  | k + 1 => by simp [subF, subF_len su tm k]
inductive Lre where
  | ok (h t c : List Int) (s : Int)
  | cyc (l : List Int)
def lookF (nx : Nat → Nat → Bool) (tm : Nat → Int) (n : Nat) : Option Lre :=
  match allF nx tm n 90 n with
  | none => none
  | some (.cyc l) => some (.cyc l.reverse)
  | some (.ok S) => match allF (backN nx n n 0) tm n 90 n with
    | none => none
    | some (.cyc l) => some (.cyc l.reverse)
    | some (.ok S2) => match pickF S.su S.fr n with
      | none => none
      | some (s, c) => some (.ok (subF S.su tm n) (subF S2.su tm n) c s)
structure Lk (w0 : World) (o : Array Value) (gu gf gb : Nat) (su fr sb : List Int) (vh vt vc : Value) (h t c : List Int) (W : World) : Prop where
  below : Below w0.heap.size w0 W
  gs : w0.heap.size + 2 ≤ gu ∧ w0.heap.size + 2 ≤ gf ∧ w0.heap.size + 2 ≤ gb
  bo : W.heap[w0.heap.size]? = some (.cells o 77 (0, 0))
  ru : W.heap[gu]? = some (.cells (rowI su) 3 (0, 0))
  rf : W.heap[gf]? = some (.cells (rowI fr) 3 (0, 0))
  rb : W.heap[gb]? = some (.cells (rowI sb) 3 (0, 0))
  rh : Kd.R (Kd.int .i64) 3 W w0.heap.size (fun k => some k = vh.ownBlock) vh h
  rt : Kd.R (Kd.int .i64) 3 W w0.heap.size (fun k => some k = vt.ownBlock) vt t
  rc : Kd.R (Kd.int .i64) 3 W w0.heap.size (fun k => some k = vc.ownBlock) vc c
  fh : ∀ k, vh.ownBlock = some k → w0.heap.size + 2 ≤ k ∧ k ≠ gu ∧ k ≠ gf ∧ k ≠ gb
  ft : ∀ k, vt.ownBlock = some k → w0.heap.size + 2 ≤ k ∧ k ≠ gu ∧ k ≠ gf ∧ k ≠ gb
  fc : ∀ k, vc.ownBlock = some k → w0.heap.size + 2 ≤ k ∧ k ≠ gu ∧ k ≠ gf ∧ k ≠ gb
  ht : ∀ k, vh.ownBlock = some k → vt.ownBlock ≠ some k
  hc : ∀ k, vh.ownBlock = some k → vc.ownBlock ≠ some k
  tc : ∀ k, vt.ownBlock = some k → vc.ownBlock ≠ some k
section
variable {w0 W : World} {o : Array Value} {gu gf gb : Nat} {su fr sb : List Int} {vh vt vc : Value} {h t c : List Int}
theorem Lk.below_ {w1 : World} (L : Lk w0 o gu gf gb su fr sb vh vt vc h t c W) (hb : Below W.heap.size W w1) : Lk w0 o gu gf gb su fr sb vh vt vc h t c w1 :=
  ⟨below_step L.below hb, L.gs, blk_below L.bo hb, blk_below L.ru hb, blk_below L.rf hb, blk_below L.rb hb, Kd.R_below L.rh hb, Kd.R_below L.rt hb, Kd.R_below L.rc hb, L.fh, L.ft, L.fc, L.ht, L.hc, L.tc⟩
theorem Lk.alloc (L : Lk w0 o gu gf gb su fr sb vh vt vc h t c W) (ob : Obj) : Lk w0 o gu gf gb su fr sb vh vt vc h t c (W.alloc ob) := L.below_ (below_alloc (Below.refl _ _) ob)
theorem Lk.drew (L : Lk w0 o gu gf gb su fr sb vh vt vc h t c W) : Lk w0 o gu gf gb su fr sb vh vt vc h t c W.drew := L.below_ (below_drew1 (Below.refl _ _))
theorem Lk.out (L : Lk w0 o gu gf gb su fr sb vh vt vc h t c W) (i : Nat) (u : Value) : Lk w0 o gu gf gb su fr sb vh vt vc h t c (W.setCell ⟨w0.heap.size + 1, i, none⟩ u) :=
  ⟨L.below.setCell (by simp) _, L.gs, blk_far L.bo (by simp) _, blk_far L.ru (by have := L.gs; simp; omega) _, blk_far L.rf (by have := L.gs; simp; omega) _, blk_far L.rb (by have := L.gs; simp; omega) _,
    Kd.R_far L.rh (fun k hk => by have := L.fh k hk.symm; simp; omega) _, Kd.R_far L.rt (fun k hk => by have := L.ft k hk.symm; simp; omega) _, Kd.R_far L.rc (fun k hk => by have := L.fc k hk.symm; simp; omega) _, L.fh, L.ft, L.fc, L.ht, L.hc, L.tc⟩
theorem Lk.newOwn (L : Lk w0 o gu gf gb su fr sb vh vt vc h t c W) {v v1 : Value} (f : ∀ k, v.ownBlock = some k → w0.heap.size + 2 ≤ k ∧ k ≠ gu ∧ k ≠ gf ∧ k ≠ gb) (hat : v1.ownBlock = v.ownBlock ∨ ∃ b, v1.ownBlock = some b ∧ W.heap.size ≤ b) : ∀ k, v1.ownBlock = some k → w0.heap.size + 2 ≤ k ∧ k ≠ gu ∧ k ≠ gf ∧ k ≠ gb := by
  intro k hk
  rcases hat with e | ⟨b, e, hb⟩
  · exact f k (by rw [← e]; exact hk)
  · have h1 := blk_lt L.ru
    have h2 := blk_lt L.rf
    have h3 := blk_lt L.rb
    have h4 := L.gs
    obtain rfl : b = k := by rw [e] at hk; exact Option.some.inj hk
    omega
theorem own_lt {d : Kd Int} {e B : Nat} {ok : Nat → Prop} {v : Value} {l : List Int} (h : d.R e W B ok v l) (k : Nat) (hk : v.ownBlock = some k) : k < W.heap.size := ((Kd.R_bound h).1 k hk).2.2.1
theorem newApart {d : Kd Int} {e B : Nat} {ok : Nat → Prop} {u v v1 : Value} {l : List Int} (hu : d.R e W B ok u l) (hap : ∀ k, v.ownBlock = some k → u.ownBlock ≠ some k) (hat : v1.ownBlock = v.ownBlock ∨ ∃ b, v1.ownBlock = some b ∧ W.heap.size ≤ b) : ∀ k, v1.ownBlock = some k → u.ownBlock ≠ some k := by
  intro k hk hq
  rcases hat with e1 | ⟨b, e1, hb⟩
  · exact hap k (by rw [← e1]; exact hk) hq
  · have := own_lt hu k hq
    obtain rfl : b = k := by rw [e1] at hk; exact Option.some.inj hk
    omega
theorem R_apart {d : Kd Int} {e B : Nat} {u v : Value} {l : List Int} {w1 : World} (hu : d.R e W B (fun k => some k = u.ownBlock) u l) (hap : ∀ k, u.ownBlock = some k → v.ownBlock ≠ some k) (hg : W.grownBy w1 v.ownBlock) : d.R e w1 B (fun k => some k = u.ownBlock) u l :=
  Kd.R_grown hu hg (fun k hk he => hap k hk.symm he.symm)
theorem Lk.growH (L : Lk w0 o gu gf gb su fr sb vh vt vc h t c W) {v1 : Value} {w1 : World} {ok : Nat → Prop} {h1 : List Int} (hr : Kd.R (Kd.int .i64) 3 w1 w0.heap.size ok v1 h1) (hb : Below w0.heap.size w0 w1) (hg : W.grownBy w1 vh.ownBlock) (hat : v1.ownBlock = vh.ownBlock ∨ ∃ b, v1.ownBlock = some b ∧ W.heap.size ≤ b) : Lk w0 o gu gf gb su fr sb v1 vt vc h1 t c w1 := by
  have sy : ∀ {a b : Value}, (∀ k, a.ownBlock = some k → b.ownBlock ≠ some k) → ∀ k, b.ownBlock = some k → a.ownBlock ≠ some k := fun f k h1 h2 => f k h2 h1
  have gs := L.gs
  exact ⟨hb, gs, blk_grown L.bo hg (fun he => by have := L.fh _ he.symm; omega), blk_grown L.ru hg (fun he => by have := L.fh _ he.symm; omega), blk_grown L.rf hg (fun he => by have := L.fh _ he.symm; omega), blk_grown L.rb hg (fun he => by have := L.fh _ he.symm; omega),
    Kd.R_tight rfl hr, R_apart L.rt (sy L.ht) hg, R_apart L.rc (sy L.hc) hg, L.newOwn L.fh hat, L.ft, L.fc, newApart L.rt L.ht hat, newApart L.rc L.hc hat, L.tc⟩
theorem Lk.growT (L : Lk w0 o gu gf gb su fr sb vh vt vc h t c W) {v1 : Value} {w1 : World} {ok : Nat → Prop} {h1 : List Int} (hr : Kd.R (Kd.int .i64) 3 w1 w0.heap.size ok v1 h1) (hb : Below w0.heap.size w0 w1) (hg : W.grownBy w1 vt.ownBlock) (hat : v1.ownBlock = vt.ownBlock ∨ ∃ b, v1.ownBlock = some b ∧ W.heap.size ≤ b) : Lk w0 o gu gf gb su fr sb vh v1 vc h h1 c w1 := by
  have sy : ∀ {a b : Value}, (∀ k, a.ownBlock = some k → b.ownBlock ≠ some k) → ∀ k, b.ownBlock = some k → a.ownBlock ≠ some k := fun f k h1 h2 => f k h2 h1
  have gs := L.gs
  exact ⟨hb, gs, blk_grown L.bo hg (fun he => by have := L.ft _ he.symm; omega), blk_grown L.ru hg (fun he => by have := L.ft _ he.symm; omega), blk_grown L.rf hg (fun he => by have := L.ft _ he.symm; omega), blk_grown L.rb hg (fun he => by have := L.ft _ he.symm; omega),
    R_apart L.rh L.ht hg, Kd.R_tight rfl hr, R_apart L.rc (sy L.tc) hg, L.fh, L.newOwn L.ft hat, L.fc, sy (newApart L.rh (sy L.ht) hat), L.hc, newApart L.rc L.tc hat⟩
theorem Lk.growC (L : Lk w0 o gu gf gb su fr sb vh vt vc h t c W) {v1 : Value} {w1 : World} {ok : Nat → Prop} {h1 : List Int} (hr : Kd.R (Kd.int .i64) 3 w1 w0.heap.size ok v1 h1) (hb : Below w0.heap.size w0 w1) (hg : W.grownBy w1 vc.ownBlock) (hat : v1.ownBlock = vc.ownBlock ∨ ∃ b, v1.ownBlock = some b ∧ W.heap.size ≤ b) : Lk w0 o gu gf gb su fr sb vh vt v1 h t h1 w1 := by
  have sy : ∀ {a b : Value}, (∀ k, a.ownBlock = some k → b.ownBlock ≠ some k) → ∀ k, b.ownBlock = some k → a.ownBlock ≠ some k := fun f k h1 h2 => f k h2 h1
  have gs := L.gs
  exact ⟨hb, gs, blk_grown L.bo hg (fun he => by have := L.fc _ he.symm; omega), blk_grown L.ru hg (fun he => by have := L.fc _ he.symm; omega), blk_grown L.rf hg (fun he => by have := L.fc _ he.symm; omega), blk_grown L.rb hg (fun he => by have := L.fc _ he.symm; omega),
    R_apart L.rh L.hc hg, R_apart L.rt L.tc hg, Kd.R_tight rfl hr, L.fh, L.ft, L.newOwn L.fc hat, L.ht, sy (newApart L.rh (sy L.hc) hat), sy (newApart L.rt (sy L.tc) hat)⟩
theorem Lk.dropC (L : Lk w0 o gu gf gb su fr sb vh vt vc h t c W) : Lk w0 o gu gf gb su fr sb vh vt (.slice none 0 0) h t [] W :=
  ⟨L.below, L.gs, L.bo, L.ru, L.rf, L.rb, L.rh, L.rt, Kd.R_nil _ _ _ _ _, L.fh, L.ft, fun k hk => by simp [Value.ownBlock] at hk, L.ht, fun k _ => by simp [Value.ownBlock], fun k _ => by simp [Value.ownBlock]⟩
theorem Lk.turnC (L : Lk w0 o gu gf gb su fr sb vh vt vc h t c W) {w1 : World} {ok : Nat → Prop} {c1 : List Int} (hr : Kd.R (Kd.int .i64) 3 w1 w0.heap.size ok vc c1) (hb : Below w0.heap.size w0 w1) (hk : Kept W w1 (fun k => some k = vc.ownBlock)) : Lk w0 o gu gf gb su fr sb vh vt vc h t c1 w1 := by
  have gs := L.gs
  exact ⟨hb, gs, blk_kept L.bo hk (fun he => by have := L.fc _ he.symm; omega), blk_kept L.ru hk (fun he => by have := L.fc _ he.symm; omega), blk_kept L.rf hk (fun he => by have := L.fc _ he.symm; omega), blk_kept L.rb hk (fun he => by have := L.fc _ he.symm; omega),
    Kd.R_kept L.rh hk (fun k h1 h2 => L.hc k h1.symm h2.symm), Kd.R_kept L.rt hk (fun k h1 h2 => L.tc k h1.symm h2.symm), Kd.R_tight rfl hr, L.fh, L.ft, L.fc, L.ht, L.hc, L.tc⟩
end
set_option linter.unusedSimpArgs false
set_option linter.unusedVariables false
open Go.RowKit Go.Proofs.YtipkhaicjjeieaaW.PrintWords Go.Proofs.YtipkhaicjjeieaaW.PrintLast Go.Proofs.YtipkhaicjjeieaaW.PrintMore
theorem catch_idle (p : Addr) (w : World) :
    CallsD Try.prog 72 #[.pointer (some p)] .returning w fun e u' w' => e = .returned (.tuple #[]) ∧ u' = .returning ∧ w' = w := by
  refine callsD_of_wpS Try.func72 rfl fun c₀ cs hu => ?_
  apply wpS_seq
  apply wpS_region
  simp [wpOpsS, go_sem, recoverD, hu, Try.ntmps72, Exit.thenS]
  refine wpS_of_wp ?_
  go_wp2
  exact ⟨rfl, .returning, by cases c₀; simp_all, .tuple #[], results_none rfl _ _ _, rfl, rfl, rfl⟩
theorem run_assert128 (w : World) (v : Value) (xt : TypeId) : (Instr.typeAssert (.iface 128 v) xt 128 true).run Try.prog w = .ok (.tuple #[v, .bool true]) w := by
  simp [Instr.typeAssert, run_underlying Try.underlying128]
attribute [local go_sem] run_assert128
set_option maxHeartbeats 1000000 in
set_option maxRecDepth 100000 in
theorem catch_round (g : Nat) (A : Option Addr) (c : Nat) (l : List Int) (older : List PanicEntry) (w0 w : World) (cs : Array Value) (hs : cs.size = 5) (hl : l.length ≤ 1000) (hg0 : w0.heap.size ≤ g) (hb : Below w0.heap.size w0 w) (hg : w.heap[g]? = some (.cells cs 118 (0, 0))) (hr : Kd.R (Kd.int .i64) 3 w w0.heap.size (fun k => k ≠ g) (.slice A l.length c) l) :
    CallsD Try.prog 72 #[.pointer (some ⟨g, 0, none⟩)] (.panicking ({ v := .iface 128 (.agg #[.slice A l.length c]), recovered := false } :: older)) w fun e u' w' => e = .returned (.tuple #[]) ∧ u' = .panicking ({ v := .iface 128 (.agg #[.slice A l.length c]), recovered := true } :: older) ∧
      w'.heap[g]? = some (.cells #[.slice none 0 0, .slice none 0 0, .slice none 0 0, .slice A l.length c, .int .i64 0] 118 (0, 0)) ∧ Below w0.heap.size w0 w' ∧ Kd.R (Kd.int .i64) 3 w' w0.heap.size (fun k => k ≠ g) (.slice A l.length c) l.reverse := by
  refine callsD_of_wpS Try.func72 rfl fun c₀ cs' hu => ?_
  apply wpS_seq
  apply wpS_region
  simp [wpOpsS, go_sem, recoverD, hu, Try.ntmps72, Exit.thenS]
  have HI := Aside0.mk (show (Try.prog.info? 118).map (·.size) = some 5 by kernel_rfl)
  have HS := Aside0.mk hs
  have hlt := blk_lt hg
  have hown : some g ≠ (Value.slice A l.length c).ownBlock := fun he => hr.1 g he.symm rfl
  have hown2 : some w.heap.size ≠ (Value.slice A l.length c).ownBlock := fun he => by have := own_lt hr _ he.symm; omega
  have hrev := slices_Reverse_int_int.calls (l.length + 1) (fun k => some k = (Value.slice A l.length c).ownBlock) (.slice A l.length c) l l.reverse w0 (w.alloc (Obj.cells #[.slice A l.length c] 128)) (below_alloc hb _) (Kd.R_below (Kd.R_tight rfl hr) (below_alloc (Below.refl _ _) _)) (reverse_f l hl)
  have HREV := Aside0.mk hrev
  have HG := Aside0.mk (blk_alloc hg (Obj.cells #[.slice A l.length c] 128))
  have HN := Aside0.mk (blk_new w (Obj.cells #[.slice A l.length c] 128))
  have HOWN := Aside0.mk (And.intro hown hown2)
  clear hg hr hb hown hown2 hrev
  have hact : (#[Value.pointer (some ⟨g, 0, none⟩)] ++ (Array.replicate 15 undef).setIfInBounds 3 (Value.iface 128 (.agg #[.slice A l.length c])) : Array Value) = #[.pointer (some ⟨g, 0, none⟩), undef, undef, undef, .iface 128 (.agg #[.slice A l.length c]), undef, undef, undef, undef, undef, undef, undef, undef, undef, undef, undef] := rfl
  rw [hact]
  clear hact
  refine wpS_of_wp ?_
  go_wp2_with (first
    | ((with_reducible refine HREV.out.mono ?_); rintro e w1 ⟨rfl, hr1, hb1, hk1⟩; have HR1 := Aside0.mk hr1; have HB1 := Aside0.mk hb1; have HG1 := Aside0.mk (blk_kept HG.out hk1 HOWN.out.1); have q1 := (blk_cell (blk_kept HN.out hk1 HOWN.out.2) 0).trans rfl; clear hr1 hb1 hk1)
    | (refine wpList_store_row rfl 118 (.tmp 0) (.tmp 15) rfl g #[.slice none 0 0, .slice none 0 0, .slice none 0 0, .slice A l.length c, .int .i64 0] rfl rfl 118 cs ?hg1 HI.out HS.out ?h6 ?_; (case hg1 => exact HG1.out); (case h6 => simp [Value.oneCell'])))
  have hne : ∀ k, some k = (Value.slice A l.length c).ownBlock → k ≠ g := fun k hk e => HOWN.out.1 (e ▸ hk)
  exact ⟨rfl, .panicking ({ v := .iface 128 (.agg #[.slice A l.length c]), recovered := true } :: older), rfl, .tuple #[], results_none rfl _ _ _, rfl, rfl, setRow_heap _ _ _ _ _ _ HG1.out, below_setRow HB1.out hg0 _, Kd.R_mono (Kd.R_move (Kd.R_tight rfl HR1.out) (fun k hk => setRow_other _ _ _ _ (hne k hk))) hne⟩
set_option linter.unusedSimpArgs false
set_option linter.unusedVariables false
open Go.RowKit Go.Proofs.YtipkhaicjjeieaaW.PrintWords Go.Proofs.YtipkhaicjjeieaaW.PrintLast Go.Proofs.YtipkhaicjjeieaaW.PrintMore
def LookPost (w : World) (r : Lre) (e : Ending) (w' : World) : Prop :=
  Below w.heap.size w w' ∧ match r with
  | .ok h t c s => ∃ vh vt vc, e = .returned (.agg #[vh, vt, vc, .slice none 0 0, .int .i64 s]) ∧ Kd.R (Kd.int .i64) 3 w' w.heap.size (fun _ => True) vh h ∧ Kd.R (Kd.int .i64) 3 w' w.heap.size (fun _ => True) vt t ∧ Kd.R (Kd.int .i64) 3 w' w.heap.size (fun _ => True) vc c
  | .cyc l => ∃ A c, e = .returned (.agg #[.slice none 0 0, .slice none 0 0, .slice none 0 0, .slice A l.length c, .int .i64 0]) ∧ Kd.R (Kd.int .i64) 3 w' w.heap.size (fun _ => True) (.slice A l.length c) l
theorem loopF_cyc {V : Nat → Dst → Option Dre} {nx : Nat → Nat → Bool} {t : Nat} {S : Dst} {l : List Int} : ∀ {k : Nat}, loopF V nx t S k = some (.cyc l) → ∃ p S1, loopF V nx t S p = some (.ok S1) ∧ V p S1 = some (.cyc l)
  | 0, h => by cases h
  | k + 1, h => by
    rw [loopF] at h
    match hk : loopF V nx t S k with
    | none => rw [hk] at h; cases h
    | some (.cyc l') =>
      rw [hk] at h
      obtain rfl : l' = l := by cases h; rfl
      exact loopF_cyc hk
    | some (.ok S1) =>
      rw [hk, stepF] at h
      split at h
      · match hv : V k S1 with
        | none => rw [hv] at h; cases h
        | some (.ok S2) => rw [hv] at h; cases h
        | some (.cyc l') =>
          rw [hv] at h
          obtain rfl : l' = l := by cases h; rfl
          exact ⟨k, S1, hk, hv⟩
      · cases h
theorem visitF_cyc {nx : Nat → Nat → Bool} {tm : Nat → Int} {n : Nat} {l : List Int} : ∀ f t S, InvF S → visitF nx tm n f t S = some (.cyc l) → l ≠ [] ∧ l.length ≤ S.pa.length + f
  | 0, _, _, _, h => by cases h
  | f + 1, t, S, hi, h => by
    rw [visitF] at h
    split at h
    · simp only [Option.some.injEq, Dre.cyc.injEq] at h
      subst h
      refine ⟨by simp, ?_⟩
      simp
      omega
    · split at h
      · cases h
      · match hl : loopF (visitF nx tm n f) nx t (openF t S) n with
        | none => rw [hl] at h; cases h
        | some (.ok S') => rw [hl] at h; cases h
        | some (.cyc l') =>
          rw [hl] at h
          obtain rfl : l' = l := by cases h; rfl
          obtain ⟨p, S1, h1, h2⟩ := loopF_cyc hl
          obtain ⟨i1, e1⟩ := loopF_keeps (fun p S S' => visitF_keeps f p S S') (hi.opened t) p S1 h1
          obtain ⟨h3, h4⟩ := visitF_cyc f p S1 i1 h2
          refine ⟨h3, ?_⟩
          rw [e1] at h4
          simp [openF] at h4
          omega
theorem allF_inv {nx : Nat → Nat → Bool} {tm : Nat → Int} {n f : Nat} : ∀ k S, allF nx tm n f k = some (.ok S) → InvF S ∧ S.pa = []
  | 0, S, h => by
    simp only [allF, Option.some.injEq, Dre.ok.injEq] at h
    subst h
    exact ⟨inv_start n, rfl⟩
  | k + 1, S, h => by
    rw [allF] at h
    match hk : allF nx tm n f k with
    | none => rw [hk] at h; cases h
    | some (.cyc l) => rw [hk] at h; cases h
    | some (.ok S1) =>
      rw [hk] at h
      obtain ⟨i1, e1⟩ := allF_inv k S1 hk
      obtain ⟨i2, e2⟩ := visitF_keeps f k S1 S i1 h
      exact ⟨i2, by rw [e2, e1]⟩
theorem allF_cyc {nx : Nat → Nat → Bool} {tm : Nat → Int} {n f : Nat} {l : List Int} : ∀ k, allF nx tm n f k = some (.cyc l) → l ≠ [] ∧ l.length ≤ f
  | 0, h => by cases h
  | k + 1, h => by
    rw [allF] at h
    match hk : allF nx tm n f k with
    | none => rw [hk] at h; cases h
    | some (.cyc l') =>
      rw [hk] at h
      obtain rfl : l' = l := by cases h; rfl
      exact allF_cyc k hk
    | some (.ok S1) =>
      rw [hk] at h
      obtain ⟨i1, e1⟩ := allF_inv k S1 hk
      obtain ⟨h3, h4⟩ := visitF_cyc f k S1 i1 h
      refine ⟨h3, ?_⟩
      rw [e1] at h4
      simpa using h4
theorem info118 : (Try.prog.info? 118).map (·.size) = some 5 := by kernel_rfl
theorem look_caught (w0 W : World) (b : Nat) (tmps : Array Value) (cs : Array Value) (A : Option Addr) (c : Nat) (l : List Int) (ht : tmps[2]? = some (.pointer (some ⟨w0.heap.size + 1, 0, none⟩))) (hs : cs.size = 5) (hl : l.length ≤ 1000) (hb : Below w0.heap.size w0 W) (hg : W.heap[w0.heap.size + 1]? = some (.cells cs 118 (0, 0)))
    (hbb : w0.heap.size + 2 ≤ b) (hr : Kd.R (Kd.int .i64) 3 W b (fun _ => True) (.slice A l.length c) l) :
    Leaves Try.prog Try.f64 tmps (LookPost w0 (.cyc l.reverse)) [{ target := .fn (.func 72) #[.pointer (some ⟨w0.heap.size + 1, 0, none⟩)], args := #[] }] (.panicking [{ v := .iface 128 (.agg #[.slice A l.length c]), recovered := false }]) W := by
  refine leaves_cons (f := 72) (args := #[.pointer (some ⟨w0.heap.size + 1, 0, none⟩)]) (by simp) (by simp [go_sem]) ?_
  refine (catch_round (w0.heap.size + 1) A c l [] w0 W cs hs hl (by omega) hb hg (Kd.R_lower (Kd.R_mono (Kd.R_bound hr) (fun k hk => by have := hk.2.1; omega)) (by omega))).mono ?_
  rintro e u' w1 ⟨rfl, rfl, h1, h2, h3⟩
  refine ⟨.agg #[.slice none 0 0, .slice none 0 0, .slice none 0 0, .slice A l.length c, .int .i64 0], ?_, h2, A, c, by rw [List.length_reverse], ?_⟩
  · exact results_cell_row rfl _ _ (w0.heap.size + 1) 118 _ (0, 0) _ (by simp [ht]) h1 Try.underlying118 rfl info118
  · rw [List.length_reverse]
    exact Kd.R_mono h3 (fun _ _ => trivial)
theorem look_done (w0 W : World) (tmps : Array Value) (v1 v2 v3 : Value) (s : Int) (l1 l2 l3 : List Int) (cs : Array Value) (ce : cs = #[v1, v2, v3, .slice none 0 0, .int .i64 s]) (ht : tmps[2]? = some (.pointer (some ⟨w0.heap.size + 1, 0, none⟩))) (hg : W.heap[w0.heap.size + 1]? = some (.cells cs 118 (0, 0))) (hb : Below w0.heap.size w0 W)
    (h1 : Kd.R (Kd.int .i64) 3 W w0.heap.size (fun _ => True) v1 l1) (h2 : Kd.R (Kd.int .i64) 3 W w0.heap.size (fun _ => True) v2 l2) (h3 : Kd.R (Kd.int .i64) 3 W w0.heap.size (fun _ => True) v3 l3) :
    Leaves Try.prog Try.f64 tmps (LookPost w0 (.ok l1 l2 l3 s)) [{ target := .fn (.func 72) #[.pointer (some ⟨w0.heap.size + 1, 0, none⟩)], args := #[] }] .returning W := by
  subst ce
  refine leaves_cons (f := 72) (args := #[.pointer (some ⟨w0.heap.size + 1, 0, none⟩)]) (by simp) (by simp [go_sem]) ?_
  refine (catch_idle ⟨w0.heap.size + 1, 0, none⟩ W).mono ?_
  rintro e u' w1 ⟨rfl, rfl, rfl⟩
  exact ⟨.agg #[v1, v2, v3, .slice none 0 0, .int .i64 s], results_cell_row rfl _ _ (w0.heap.size + 1) 118 _ (0, 0) _ (by simp [ht]) hg Try.underlying118 rfl info118, hb, v1, v2, v3, rfl, h1, h2, h3⟩
theorem look_begin {w W5 w6 w7 : World} {o : Array Value} {gu gf gb B5 n : Nat} {S S2 : Dst} (h5 : Below w.heap.size w W5) (h6 : Below W5.heap.size W5 w6) (h7 : Below w6.heap.size w6 w7) (hg : W5.heap[w.heap.size]? = some (.cells o 77 (0, 0))) {cs : Array Value} (ho : W5.heap[w.heap.size + 1]? = some (.cells cs 118 (0, 0)))
    (H : gu ≠ gf ∧ B5 ≤ gu ∧ B5 ≤ gf ∧ S.su.length = n ∧ S.fr.length = n ∧ W5.heap[gu]? = some (.cells (rowI S.su) 3 (0, 0)) ∧ W5.heap[gf]? = some (.cells (rowI S.fr) 3 (0, 0))) (h8 : w6.heap.size ≤ gb) (rb : w7.heap[gb]? = some (.cells (rowI S2.su) 3 (0, 0))) (hB : w.heap.size + 2 ≤ B5 := by simp) :
    Lk w o gu gf gb S.su S.fr S2.su (.slice none 0 0) (.slice none 0 0) (.slice none 0 0) [] [] [] w7 ∧ w7.heap[w.heap.size + 1]? = some (.cells cs 118 (0, 0)) := by
  obtain ⟨_, a1, a2, _, _, a3, a4⟩ := H
  have n0 : ∀ k, (Value.slice none 0 0).ownBlock = some k → False := fun k hk => by simp [Value.ownBlock] at hk
  have h1 := blk_lt ho
  have h2 := h6.size
  refine ⟨⟨below_step (below_step h5 h6) h7, ⟨by omega, by omega, by omega⟩, blk_below (blk_below hg h6) h7, blk_below (blk_below a3 h6) h7, blk_below (blk_below a4 h6) h7, rb, Kd.R_nil _ _ _ _ _, Kd.R_nil _ _ _ _ _, Kd.R_nil _ _ _ _ _, fun k hk => (n0 k hk).elim, fun k hk => (n0 k hk).elim, fun k hk => (n0 k hk).elim, fun k hk => (n0 k hk).elim, fun k hk => (n0 k hk).elim, fun k hk => (n0 k hk).elim⟩, blk_below (blk_below ho h6) h7⟩
theorem C_one {W : World} {k : Nat} {x : Int} (h : W.heap[k]? = some (.cells #[.int .i64 x] 3 (0, 0))) : Kd.C (Kd.int .i64) W (some ⟨k, 0, none⟩) 1 [x] := by
  refine ⟨rfl, by decide, fun _ => ⟨_, rfl, fun j p hp => ?_⟩⟩
  obtain rfl : j = 0 := by
    cases j with
    | zero => rfl
    | succ j => simp at hp
  simp only [List.getElem?_cons_zero, Option.some.injEq] at hp
  subst hp
  refine ⟨[.int .i64 x], rfl, rfl, fun i u hi => ?_⟩
  obtain rfl : i = 0 := by
    cases i with
    | zero => rfl
    | succ i => simp at hi
  simp only [List.getElem?_cons_zero, Option.some.injEq] at hi
  subst hi
  exact (blk_cell h 0).trans rfl
structure T7 (w0 : World) (o : Array Value) (gu gf gb : Nat) (su fr sb : List Int) (vh0 vt0 vh vt vc : Value) (h t c : List Int) (s : Int) (gx : Nat) (cx : Array Value) (x y : Int) (a b : Option Nat) (W : World) : Prop where
  lk : Lk w0 o gu gf gb su fr sb vh vt vc h t c W
  out : W.heap[w0.heap.size + 1]? = some (.cells #[vh0, vt0, vc, .slice none 0 0, .int .i64 s] 118 (0, 0))
  bx : W.heap[gx]? = some (.cells cx 89 (0, 0))
  ba : ∀ k, a = some k → W.heap[k]? = some (.cells #[.int .i64 x] 3 (0, 0)) ∧ vh.ownBlock ≠ some k ∧ vt.ownBlock ≠ some k
  bb : ∀ k, b = some k → W.heap[k]? = some (.cells #[.int .i64 y] 3 (0, 0)) ∧ vh.ownBlock ≠ some k ∧ vt.ownBlock ≠ some k
section
variable {w0 W : World} {o : Array Value} {gu gf gb gx : Nat} {su fr sb : List Int} {vh0 vt0 vh vt vc : Value} {h t c : List Int} {s x y : Int} {cx : Array Value} {a b : Option Nat}
theorem T7.start (L : Lk w0 o gu gf gb su fr sb vh vt vc h t c W) (ho : W.heap[w0.heap.size + 1]? = some (.cells #[vh, vt, vc, .slice none 0 0, .int .i64 s] 118 (0, 0))) (hx : W.heap[gx]? = some (.cells cx 89 (0, 0))) : T7 w0 o gu gf gb su fr sb vh vt vh vt vc h t c s gx cx x y none none W :=
  ⟨L, ho, hx, fun k hk => (by cases hk), fun k hk => (by cases hk)⟩
theorem T7.alloc (T : T7 w0 o gu gf gb su fr sb vh0 vt0 vh vt vc h t c s gx cx x y a b W) (ob : Obj) : T7 w0 o gu gf gb su fr sb vh0 vt0 vh vt vc h t c s gx cx x y a b (W.alloc ob) :=
  ⟨T.lk.alloc ob, blk_alloc T.out ob, blk_alloc T.bx ob, fun k hk => ⟨blk_alloc (T.ba k hk).1 ob, (T.ba k hk).2⟩, fun k hk => ⟨blk_alloc (T.bb k hk).1 ob, (T.bb k hk).2⟩⟩
theorem T7.lit (T : T7 w0 o gu gf gb su fr sb vh0 vt0 vh vt vc h t c s gx cx x y a b W) (z : Int) : (W.alloc (Obj.cells #[.int .i64 z] 3)).heap[W.heap.size]? = some (.cells #[.int .i64 z] 3 (0, 0)) ∧ vh.ownBlock ≠ some W.heap.size ∧ vt.ownBlock ≠ some W.heap.size :=
  ⟨blk_new W _, fun he => by have := own_lt T.lk.rh _ he; omega, fun he => by have := own_lt T.lk.rt _ he; omega⟩
theorem T7.litA (T : T7 w0 o gu gf gb su fr sb vh0 vt0 vh vt vc h t c s gx cx x y a b W) : T7 w0 o gu gf gb su fr sb vh0 vt0 vh vt vc h t c s gx cx x y (some W.heap.size) b (W.alloc (Obj.cells #[.int .i64 x] 3)) :=
  ⟨(T.alloc _).lk, (T.alloc _).out, (T.alloc _).bx, fun k hk => by obtain rfl := Option.some.inj hk; exact T.lit x, (T.alloc _).bb⟩
theorem T7.litB (T : T7 w0 o gu gf gb su fr sb vh0 vt0 vh vt vc h t c s gx cx x y a b W) : T7 w0 o gu gf gb su fr sb vh0 vt0 vh vt vc h t c s gx cx x y a (some W.heap.size) (W.alloc (Obj.cells #[.int .i64 y] 3)) :=
  ⟨(T.alloc _).lk, (T.alloc _).out, (T.alloc _).bx, (T.alloc _).ba, fun k hk => by obtain rfl := Option.some.inj hk; exact T.lit y⟩
theorem T7.growH (T : T7 w0 o gu gf gb su fr sb vh0 vt0 vh vt vc h t c s gx cx x y a b W) {v1 : Value} {w1 : World} {ok : Nat → Prop} {h1 : List Int} (hr : Kd.R (Kd.int .i64) 3 w1 w0.heap.size ok v1 h1) (hb : Below w0.heap.size w0 w1) (hg : W.grownBy w1 vh.ownBlock) (hat : v1.ownBlock = vh.ownBlock ∨ ∃ b, v1.ownBlock = some b ∧ W.heap.size ≤ b) : T7 w0 o gu gf gb su fr sb vh0 vt0 v1 vt vc h1 t c s gx cx x y a b w1 := by
  have gs := T.lk.gs
  have keep : ∀ k z, W.heap[k]? = some (.cells #[.int .i64 z] 3 (0, 0)) ∧ vh.ownBlock ≠ some k ∧ vt.ownBlock ≠ some k → w1.heap[k]? = some (.cells #[.int .i64 z] 3 (0, 0)) ∧ v1.ownBlock ≠ some k ∧ vt.ownBlock ≠ some k := by
    rintro k z ⟨h1, h2, h3⟩
    refine ⟨blk_grown h1 hg (fun e => h2 e.symm), fun e => ?_, h3⟩
    rcases hat with e1 | ⟨q, e1, hq⟩
    · exact h2 (e1 ▸ e)
    · have := blk_lt h1
      obtain rfl : q = k := by rw [e1] at e; exact Option.some.inj e
      omega
  exact ⟨T.lk.growH hr hb hg hat, blk_grown T.out hg (fun he => by have := T.lk.fh _ he.symm; omega), blk_grown T.bx hg (Kd.R_ne T.lk.rh T.bx (by decide)), fun k hk => keep k x (T.ba k hk), fun k hk => keep k y (T.bb k hk)⟩
theorem T7.growT (T : T7 w0 o gu gf gb su fr sb vh0 vt0 vh vt vc h t c s gx cx x y a b W) {v1 : Value} {w1 : World} {ok : Nat → Prop} {h1 : List Int} (hr : Kd.R (Kd.int .i64) 3 w1 w0.heap.size ok v1 h1) (hb : Below w0.heap.size w0 w1) (hg : W.grownBy w1 vt.ownBlock) (hat : v1.ownBlock = vt.ownBlock ∨ ∃ b, v1.ownBlock = some b ∧ W.heap.size ≤ b) : T7 w0 o gu gf gb su fr sb vh0 vt0 vh v1 vc h h1 c s gx cx x y a b w1 := by
  have gs := T.lk.gs
  have keep : ∀ k z, W.heap[k]? = some (.cells #[.int .i64 z] 3 (0, 0)) ∧ vh.ownBlock ≠ some k ∧ vt.ownBlock ≠ some k → w1.heap[k]? = some (.cells #[.int .i64 z] 3 (0, 0)) ∧ vh.ownBlock ≠ some k ∧ v1.ownBlock ≠ some k := by
    rintro k z ⟨h1, h2, h3⟩
    refine ⟨blk_grown h1 hg (fun e => h3 e.symm), h2, fun e => ?_⟩
    rcases hat with e1 | ⟨q, e1, hq⟩
    · exact h3 (e1 ▸ e)
    · have := blk_lt h1
      obtain rfl : q = k := by rw [e1] at e; exact Option.some.inj e
      omega
  exact ⟨T.lk.growT hr hb hg hat, blk_grown T.out hg (fun he => by have := T.lk.ft _ he.symm; omega), blk_grown T.bx hg (Kd.R_ne T.lk.rt T.bx (by decide)), fun k hk => keep k x (T.ba k hk), fun k hk => keep k y (T.bb k hk)⟩
theorem T7.S (T : T7 w0 o gu gf gb su fr sb vh0 vt0 vh vt vc h t c s gx cx x y a b W) {i : Nat} {p q r : Int} (hu : i < su.length) (hb : i < sb.length) (hp : p = su.getD i 0) (hq : q = sb.getD i 0) (hr : cx[1]? = some (.int .i64 r)) : W.cell? ⟨w0.heap.size + 1, 0, none⟩ = some vh0 ∧ W.cell? ⟨w0.heap.size + 1, 1, none⟩ = some vt0 ∧ W.cell? ⟨gu, i, none⟩ = some (.int .i64 p) ∧ W.cell? ⟨gb, i, none⟩ = some (.int .i64 q) ∧ W.cell? ⟨gx, 1, none⟩ = some (.int .i64 r) := by
  subst hp
  subst hq
  exact ⟨(blk_cell T.out 0).trans rfl, (blk_cell T.out 1).trans rfl, (blk_cell T.lk.ru i).trans (rowI_get su i hu), (blk_cell T.lk.rb i).trans (rowI_get sb i hb), (blk_cell T.bx 1).trans hr⟩
theorem T7.drop (T : T7 w0 o gu gf gb su fr sb vh0 vt0 vh vt vc h t c s gx cx x y a b W) : T7 w0 o gu gf gb su fr sb vh0 vt0 vh vt vc h t c s gx cx x y none none W :=
  ⟨T.lk, T.out, T.bx, fun k hk => (by cases hk), fun k hk => (by cases hk)⟩
theorem T7.drew (T : T7 w0 o gu gf gb su fr sb vh0 vt0 vh vt vc h t c s gx cx x y none none W) : T7 w0 o gu gf gb su fr sb vh0 vt0 vh vt vc h t c s gx cx x y none none W.drew :=
  ⟨T.lk.drew, T.out, T.bx, fun k hk => (by cases hk), fun k hk => (by cases hk)⟩
end
theorem leaves_congr {P : Program} {fn : Func} {t1 t2 : Array Value} {R : Ending → World → Prop} (he : ∀ w, (results fn t1).run P w = (results fn t2).run P w) : ∀ (ds : List Deferred) (u : FrameMode) (w : World), Leaves P fn t1 R ds u w → Leaves P fn t2 R ds u w
  | [], .returning, w, h => by
    obtain ⟨v, h1, h2⟩ := h
    exact ⟨v, by rw [← he]; exact h1, h2⟩
  | [], .panicking _, _, h => h
  | [], .run, _, h => h
  | d :: ds, u, w, h => by
    obtain ⟨h1, fv, cap, f, args, h2, h3, h4⟩ := h
    refine ⟨h1, fv, cap, f, args, h2, h3, h4.mono ?_⟩
    rintro (v | ch | _) u' w' h5
    · exact leaves_congr he ds _ _ h5
    · exact leaves_congr he ds _ _ h5
    · exact h5
theorem leaves_put64 {a : Act} {N : Option Tmp} {v : Value} {R : Ending → World → Prop} {u : FrameMode} {w : World} (hN : N ≠ some 2) (h : Leaves Try.prog Try.f64 (a.put N v).tmps R (a.put N v).defers u w) : Leaves Try.prog Try.f64 a.tmps R a.defers u w := by
  have hd : (a.put N v).defers = a.defers := by cases N <;> rfl
  rw [hd] at h
  refine leaves_congr (fun w => ?_) _ _ _ h
  have hres : Try.f64.results = #[.cell 2 118] := rfl
  have ht : (a.put N v).tmps.getD 2 undef = a.tmps.getD 2 undef := by
    cases N with
    | none => rfl
    | some k =>
      have hk : k ≠ 2 := fun e => hN (by rw [e])
      simp only [Act.put, Array.getD_eq_getD_getElem?]
      rw [Array.getElem?_setIfInBounds_ne hk]
  have ht' : (a.put N v).tmps[2]?.getD undef = a.tmps[2]?.getD undef := by simpa using ht
  simp [results, hres, ht']
theorem chainF_len {fr : List Int} : ∀ f p l, chainF fr f p = some l → l.length ≤ f
  | 0, p, l, h => by cases h
  | f + 1, p, l, h => by
    rw [chainF] at h
    split at h
    · cases h; simp
    · split at h
      · obtain ⟨l', e, rfl⟩ := Option.map_eq_some_iff.1 h
        have := chainF_len f _ l' e
        simp
        omega
      · cases h
def lenAt (w : World) (a : Addr) : Nat := match w.cell? a with
  | some (.slice _ n _) => n
  | _ => 0
end Go.Proofs.Ytipkhaicjjeieaa.V
end
