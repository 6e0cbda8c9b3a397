/- Walks of the shop's functions, seventeenth text: a look at an order. -/
import Derived.Test.YtipkhaicjjeieaaKLShP
namespace Go.Proofs.Ytipkhaicjjeieaa.V
set_option linter.unusedSimpArgs false
set_option linter.unusedVariables false
open Go.RowKit Go.Proofs.YtipkhaicjjeieaaW.PrintWords Go.Proofs.YtipkhaicjjeieaaW.PrintLast Go.Proofs.YtipkhaicjjeieaaW.PrintMore
def LookPost (w : World) (r : Lre) (e : Ending) (w' : World) : Prop :=
  Below w.heap.size w w' ∧ match r with
  | .ok h t c s => ∃ vh vt vc, e = .returned (.agg #[vh, vt, vc, .slice none 0 0, .int .i64 s]) ∧ Kd.R (Kd.int .i64) 3 w' w.heap.size (fun _ => True) vh h ∧ Kd.R (Kd.int .i64) 3 w' w.heap.size (fun _ => True) vt t ∧ Kd.R (Kd.int .i64) 3 w' w.heap.size (fun _ => True) vc c
  | .cyc l => ∃ A c, e = .returned (.agg #[.slice none 0 0, .slice none 0 0, .slice none 0 0, .slice A l.length c, .int .i64 0]) ∧ Kd.R (Kd.int .i64) 3 w' w.heap.size (fun _ => True) (.slice A l.length c) l
theorem loopF_cyc {V : Nat → Dst → Option Dre} {nx : Nat → Nat → Bool} {t : Nat} {S : Dst} {l : List Int} : ∀ {k : Nat}, loopF V nx t S k = some (.cyc l) → ∃ p S1, loopF V nx t S p = some (.ok S1) ∧ V p S1 = some (.cyc l)
  | 0, h => by cases h
  | k + 1, h => by
    rw [loopF] at h
    match hk : loopF V nx t S k with
    | none => rw [hk] at h; cases h
    | some (.cyc l') =>
      rw [hk] at h
      obtain rfl : l' = l := by cases h; rfl
      exact loopF_cyc hk
    | some (.ok S1) =>
      rw [hk, stepF] at h
      split at h
      · match hv : V k S1 with
        | none => rw [hv] at h; cases h
        | some (.ok S2) => rw [hv] at h; cases h
        | some (.cyc l') =>
          rw [hv] at h
          obtain rfl : l' = l := by cases h; rfl
          exact ⟨k, S1, hk, hv⟩
      · cases h
theorem visitF_cyc {nx : Nat → Nat → Bool} {tm : Nat → Int} {n : Nat} {l : List Int} : ∀ f t S, InvF S → visitF nx tm n f t S = some (.cyc l) → l ≠ [] ∧ l.length ≤ S.pa.length + f
  | 0, _, _, _, h => by cases h
  | f + 1, t, S, hi, h => by
    rw [visitF] at h
    split at h
    · simp only [Option.some.injEq, Dre.cyc.injEq] at h
      subst h
      refine ⟨by simp, ?_⟩
      simp
      omega
    · split at h
      · cases h
      · match hl : loopF (visitF nx tm n f) nx t (openF t S) n with
        | none => rw [hl] at h; cases h
        | some (.ok S') => rw [hl] at h; cases h
        | some (.cyc l') =>
          rw [hl] at h
          obtain rfl : l' = l := by cases h; rfl
          obtain ⟨p, S1, h1, h2⟩ := loopF_cyc hl
          obtain ⟨i1, e1⟩ := loopF_keeps (fun p S S' => visitF_keeps f p S S') (hi.opened t) p S1 h1
          obtain ⟨h3, h4⟩ := visitF_cyc f p S1 i1 h2
          refine ⟨h3, ?_⟩
          rw [e1] at h4
          simp [openF] at h4
          omega
theorem allF_inv {nx : Nat → Nat → Bool} {tm : Nat → Int} {n f : Nat} : ∀ k S, allF nx tm n f k = some (.ok S) → InvF S ∧ S.pa = []
  | 0, S, h => by
    simp only [allF, Option.some.injEq, Dre.ok.injEq] at h
    subst h
    exact ⟨inv_start n, rfl⟩
  | k + 1, S, h => by
    rw [allF] at h
    match hk : allF nx tm n f k with
    | none => rw [hk] at h; cases h
    | some (.cyc l) => rw [hk] at h; cases h
    | some (.ok S1) =>
      rw [hk] at h
      obtain ⟨i1, e1⟩ := allF_inv k S1 hk
      obtain ⟨i2, e2⟩ := visitF_keeps f k S1 S i1 h
      exact ⟨i2, by rw [e2, e1]⟩
theorem allF_cyc {nx : Nat → Nat → Bool} {tm : Nat → Int} {n f : Nat} {l : List Int} : ∀ k, allF nx tm n f k = some (.cyc l) → l ≠ [] ∧ l.length ≤ f
  | 0, h => by cases h
  | k + 1, h => by
    rw [allF] at h
    match hk : allF nx tm n f k with
    | none => rw [hk] at h; cases h
    | some (.cyc l') =>
      rw [hk] at h
      obtain rfl : l' = l := by cases h; rfl
      exact allF_cyc k hk
    | some (.ok S1) =>
      rw [hk] at h
      obtain ⟨i1, e1⟩ := allF_inv k S1 hk
      obtain ⟨h3, h4⟩ := visitF_cyc f k S1 i1 h
      refine ⟨h3, ?_⟩
      rw [e1] at h4
      simpa using h4
theorem info118 : (Try.prog.info? 118).map (·.size) = some 5 := by kernel_rfl
theorem look_caught (w0 W : World) (b : Nat) (tmps : Array Value) (cs : Array Value) (A : Option Addr) (c : Nat) (l : List Int) (ht : tmps[2]? = some (.pointer (some ⟨w0.heap.size + 1, 0, none⟩))) (hs : cs.size = 5) (hl : l.length ≤ 1000) (hb : Below w0.heap.size w0 W) (hg : W.heap[w0.heap.size + 1]? = some (.cells cs 118 (0, 0)))
    (hbb : w0.heap.size + 2 ≤ b) (hr : Kd.R (Kd.int .i64) 3 W b (fun _ => True) (.slice A l.length c) l) :
    Leaves Try.prog Try.f64 tmps (LookPost w0 (.cyc l.reverse)) [{ target := .fn (.func 72) #[.pointer (some ⟨w0.heap.size + 1, 0, none⟩)], args := #[] }] (.panicking [{ v := .iface 128 (.agg #[.slice A l.length c]), recovered := false }]) W := by
  refine leaves_cons (f := 72) (args := #[.pointer (some ⟨w0.heap.size + 1, 0, none⟩)]) (by simp) (by simp [go_sem]) ?_
  refine (catch_round (w0.heap.size + 1) A c l [] w0 W cs hs hl (by omega) hb hg (Kd.R_lower (Kd.R_mono (Kd.R_bound hr) (fun k hk => by have := hk.2.1; omega)) (by omega))).mono ?_
  rintro e u' w1 ⟨rfl, rfl, h1, h2, h3⟩
  refine ⟨.agg #[.slice none 0 0, .slice none 0 0, .slice none 0 0, .slice A l.length c, .int .i64 0], ?_, h2, A, c, by rw [List.length_reverse], ?_⟩
  · exact results_cell_row rfl _ _ (w0.heap.size + 1) 118 _ (0, 0) _ (by simp [ht]) h1 Try.underlying118 rfl info118
  · rw [List.length_reverse]
    exact Kd.R_mono h3 (fun _ _ => trivial)
theorem look_done (w0 W : World) (tmps : Array Value) (v1 v2 v3 : Value) (s : Int) (l1 l2 l3 : List Int) (cs : Array Value) (ce : cs = #[v1, v2, v3, .slice none 0 0, .int .i64 s]) (ht : tmps[2]? = some (.pointer (some ⟨w0.heap.size + 1, 0, none⟩))) (hg : W.heap[w0.heap.size + 1]? = some (.cells cs 118 (0, 0))) (hb : Below w0.heap.size w0 W)
    (h1 : Kd.R (Kd.int .i64) 3 W w0.heap.size (fun _ => True) v1 l1) (h2 : Kd.R (Kd.int .i64) 3 W w0.heap.size (fun _ => True) v2 l2) (h3 : Kd.R (Kd.int .i64) 3 W w0.heap.size (fun _ => True) v3 l3) :
    Leaves Try.prog Try.f64 tmps (LookPost w0 (.ok l1 l2 l3 s)) [{ target := .fn (.func 72) #[.pointer (some ⟨w0.heap.size + 1, 0, none⟩)], args := #[] }] .returning W := by
  subst ce
  refine leaves_cons (f := 72) (args := #[.pointer (some ⟨w0.heap.size + 1, 0, none⟩)]) (by simp) (by simp [go_sem]) ?_
  refine (catch_idle ⟨w0.heap.size + 1, 0, none⟩ W).mono ?_
  rintro e u' w1 ⟨rfl, rfl, rfl⟩
  exact ⟨.agg #[v1, v2, v3, .slice none 0 0, .int .i64 s], results_cell_row rfl _ _ (w0.heap.size + 1) 118 _ (0, 0) _ (by simp [ht]) hg Try.underlying118 rfl info118, hb, v1, v2, v3, rfl, h1, h2, h3⟩
theorem look_begin {w W5 w6 w7 : World} {o : Array Value} {gu gf gb B5 n : Nat} {S S2 : Dst} (h5 : Below w.heap.size w W5) (h6 : Below W5.heap.size W5 w6) (h7 : Below w6.heap.size w6 w7) (hg : W5.heap[w.heap.size]? = some (.cells o 77 (0, 0))) {cs : Array Value} (ho : W5.heap[w.heap.size + 1]? = some (.cells cs 118 (0, 0)))
    (H : gu ≠ gf ∧ B5 ≤ gu ∧ B5 ≤ gf ∧ S.su.length = n ∧ S.fr.length = n ∧ W5.heap[gu]? = some (.cells (rowI S.su) 3 (0, 0)) ∧ W5.heap[gf]? = some (.cells (rowI S.fr) 3 (0, 0))) (h8 : w6.heap.size ≤ gb) (rb : w7.heap[gb]? = some (.cells (rowI S2.su) 3 (0, 0))) (hB : w.heap.size + 2 ≤ B5 := by simp) :
    Lk w o gu gf gb S.su S.fr S2.su (.slice none 0 0) (.slice none 0 0) (.slice none 0 0) [] [] [] w7 ∧ w7.heap[w.heap.size + 1]? = some (.cells cs 118 (0, 0)) := by
  obtain ⟨_, a1, a2, _, _, a3, a4⟩ := H
  have n0 : ∀ k, (Value.slice none 0 0).ownBlock = some k → False := fun k hk => by simp [Value.ownBlock] at hk
  have h1 := blk_lt ho
  have h2 := h6.size
  refine ⟨⟨below_step (below_step h5 h6) h7, ⟨by omega, by omega, by omega⟩, blk_below (blk_below hg h6) h7, blk_below (blk_below a3 h6) h7, blk_below (blk_below a4 h6) h7, rb, Kd.R_nil _ _ _ _ _, Kd.R_nil _ _ _ _ _, Kd.R_nil _ _ _ _ _, fun k hk => (n0 k hk).elim, fun k hk => (n0 k hk).elim, fun k hk => (n0 k hk).elim, fun k hk => (n0 k hk).elim, fun k hk => (n0 k hk).elim, fun k hk => (n0 k hk).elim⟩, blk_below (blk_below ho h6) h7⟩
theorem C_one {W : World} {k : Nat} {x : Int} (h : W.heap[k]? = some (.cells #[.int .i64 x] 3 (0, 0))) : Kd.C (Kd.int .i64) W (some ⟨k, 0, none⟩) 1 [x] := by
  refine ⟨rfl, by decide, fun _ => ⟨_, rfl, fun j p hp => ?_⟩⟩
  obtain rfl : j = 0 := by
    cases j with
    | zero => rfl
    | succ j => simp at hp
  simp only [List.getElem?_cons_zero, Option.some.injEq] at hp
  subst hp
  refine ⟨[.int .i64 x], rfl, rfl, fun i u hi => ?_⟩
  obtain rfl : i = 0 := by
    cases i with
    | zero => rfl
    | succ i => simp at hi
  simp only [List.getElem?_cons_zero, Option.some.injEq] at hi
  subst hi
  exact (blk_cell h 0).trans rfl
structure T7 (w0 : World) (o : Array Value) (gu gf gb : Nat) (su fr sb : List Int) (vh0 vt0 vh vt vc : Value) (h t c : List Int) (s : Int) (gx : Nat) (cx : Array Value) (x y : Int) (a b : Option Nat) (W : World) : Prop where
  lk : Lk w0 o gu gf gb su fr sb vh vt vc h t c W
  out : W.heap[w0.heap.size + 1]? = some (.cells #[vh0, vt0, vc, .slice none 0 0, .int .i64 s] 118 (0, 0))
  bx : W.heap[gx]? = some (.cells cx 89 (0, 0))
  ba : ∀ k, a = some k → W.heap[k]? = some (.cells #[.int .i64 x] 3 (0, 0)) ∧ vh.ownBlock ≠ some k ∧ vt.ownBlock ≠ some k
  bb : ∀ k, b = some k → W.heap[k]? = some (.cells #[.int .i64 y] 3 (0, 0)) ∧ vh.ownBlock ≠ some k ∧ vt.ownBlock ≠ some k
section
variable {w0 W : World} {o : Array Value} {gu gf gb gx : Nat} {su fr sb : List Int} {vh0 vt0 vh vt vc : Value} {h t c : List Int} {s x y : Int} {cx : Array Value} {a b : Option Nat}
theorem T7.start (L : Lk w0 o gu gf gb su fr sb vh vt vc h t c W) (ho : W.heap[w0.heap.size + 1]? = some (.cells #[vh, vt, vc, .slice none 0 0, .int .i64 s] 118 (0, 0))) (hx : W.heap[gx]? = some (.cells cx 89 (0, 0))) : T7 w0 o gu gf gb su fr sb vh vt vh vt vc h t c s gx cx x y none none W :=
  ⟨L, ho, hx, fun k hk => (by cases hk), fun k hk => (by cases hk)⟩
theorem T7.alloc (T : T7 w0 o gu gf gb su fr sb vh0 vt0 vh vt vc h t c s gx cx x y a b W) (ob : Obj) : T7 w0 o gu gf gb su fr sb vh0 vt0 vh vt vc h t c s gx cx x y a b (W.alloc ob) :=
  ⟨T.lk.alloc ob, blk_alloc T.out ob, blk_alloc T.bx ob, fun k hk => ⟨blk_alloc (T.ba k hk).1 ob, (T.ba k hk).2⟩, fun k hk => ⟨blk_alloc (T.bb k hk).1 ob, (T.bb k hk).2⟩⟩
theorem T7.lit (T : T7 w0 o gu gf gb su fr sb vh0 vt0 vh vt vc h t c s gx cx x y a b W) (z : Int) : (W.alloc (Obj.cells #[.int .i64 z] 3)).heap[W.heap.size]? = some (.cells #[.int .i64 z] 3 (0, 0)) ∧ vh.ownBlock ≠ some W.heap.size ∧ vt.ownBlock ≠ some W.heap.size :=
  ⟨blk_new W _, fun he => by have := own_lt T.lk.rh _ he; omega, fun he => by have := own_lt T.lk.rt _ he; omega⟩
theorem T7.litA (T : T7 w0 o gu gf gb su fr sb vh0 vt0 vh vt vc h t c s gx cx x y a b W) : T7 w0 o gu gf gb su fr sb vh0 vt0 vh vt vc h t c s gx cx x y (some W.heap.size) b (W.alloc (Obj.cells #[.int .i64 x] 3)) :=
  ⟨(T.alloc _).lk, (T.alloc _).out, (T.alloc _).bx, fun k hk => by obtain rfl := Option.some.inj hk; exact T.lit x, (T.alloc _).bb⟩
theorem T7.litB (T : T7 w0 o gu gf gb su fr sb vh0 vt0 vh vt vc h t c s gx cx x y a b W) : T7 w0 o gu gf gb su fr sb vh0 vt0 vh vt vc h t c s gx cx x y a (some W.heap.size) (W.alloc (Obj.cells #[.int .i64 y] 3)) :=
  ⟨(T.alloc _).lk, (T.alloc _).out, (T.alloc _).bx, (T.alloc _).ba, fun k hk => by obtain rfl := Option.some.inj hk; exact T.lit y⟩
theorem T7.growH (T : T7 w0 o gu gf gb su fr sb vh0 vt0 vh vt vc h t c s gx cx x y a b W) {v1 : Value} {w1 : World} {ok : Nat → Prop} {h1 : List Int} (hr : Kd.R (Kd.int .i64) 3 w1 w0.heap.size ok v1 h1) (hb : Below w0.heap.size w0 w1) (hg : W.grownBy w1 vh.ownBlock) (hat : v1.ownBlock = vh.ownBlock ∨ ∃ b, v1.ownBlock = some b ∧ W.heap.size ≤ b) : T7 w0 o gu gf gb su fr sb vh0 vt0 v1 vt vc h1 t c s gx cx x y a b w1 := by
  have gs := T.lk.gs
  have keep : ∀ k z, W.heap[k]? = some (.cells #[.int .i64 z] 3 (0, 0)) ∧ vh.ownBlock ≠ some k ∧ vt.ownBlock ≠ some k → w1.heap[k]? = some (.cells #[.int .i64 z] 3 (0, 0)) ∧ v1.ownBlock ≠ some k ∧ vt.ownBlock ≠ some k := by
    rintro k z ⟨h1, h2, h3⟩
    refine ⟨blk_grown h1 hg (fun e => h2 e.symm), fun e => ?_, h3⟩
    rcases hat with e1 | ⟨q, e1, hq⟩
    · exact h2 (e1 ▸ e)
    · have := blk_lt h1
      obtain rfl : q = k := by rw [e1] at e; exact Option.some.inj e
      omega
  exact ⟨T.lk.growH hr hb hg hat, blk_grown T.out hg (fun he => by have := T.lk.fh _ he.symm; omega), blk_grown T.bx hg (Kd.R_ne T.lk.rh T.bx (by decide)), fun k hk => keep k x (T.ba k hk), fun k hk => keep k y (T.bb k hk)⟩
theorem T7.growT (T : T7 w0 o gu gf gb su fr sb vh0 vt0 vh vt vc h t c s gx cx x y a b W) {v1 : Value} {w1 : World} {ok : Nat → Prop} {h1 : List Int} (hr : Kd.R (Kd.int .i64) 3 w1 w0.heap.size ok v1 h1) (hb : Below w0.heap.size w0 w1) (hg : W.grownBy w1 vt.ownBlock) (hat : v1.ownBlock = vt.ownBlock ∨ ∃ b, v1.ownBlock = some b ∧ W.heap.size ≤ b) : T7 w0 o gu gf gb su fr sb vh0 vt0 vh v1 vc h h1 c s gx cx x y a b w1 := by
  have gs := T.lk.gs
  have keep : ∀ k z, W.heap[k]? = some (.cells #[.int .i64 z] 3 (0, 0)) ∧ vh.ownBlock ≠ some k ∧ vt.ownBlock ≠ some k → w1.heap[k]? = some (.cells #[.int .i64 z] 3 (0, 0)) ∧ vh.ownBlock ≠ some k ∧ v1.ownBlock ≠ some k := by
    rintro k z ⟨h1, h2, h3⟩
    refine ⟨blk_grown h1 hg (fun e => h3 e.symm), h2, fun e => ?_⟩
    rcases hat with e1 | ⟨q, e1, hq⟩
    · exact h3 (e1 ▸ e)
    · have := blk_lt h1
      obtain rfl : q = k := by rw [e1] at e; exact Option.some.inj e
      omega
  exact ⟨T.lk.growT hr hb hg hat, blk_grown T.out hg (fun he => by have := T.lk.ft _ he.symm; omega), blk_grown T.bx hg (Kd.R_ne T.lk.rt T.bx (by decide)), fun k hk => keep k x (T.ba k hk), fun k hk => keep k y (T.bb k hk)⟩
theorem T7.S (T : T7 w0 o gu gf gb su fr sb vh0 vt0 vh vt vc h t c s gx cx x y a b W) {i : Nat} {p q r : Int} (hu : i < su.length) (hb : i < sb.length) (hp : p = su.getD i 0) (hq : q = sb.getD i 0) (hr : cx[1]? = some (.int .i64 r)) : W.cell? ⟨w0.heap.size + 1, 0, none⟩ = some vh0 ∧ W.cell? ⟨w0.heap.size + 1, 1, none⟩ = some vt0 ∧ W.cell? ⟨gu, i, none⟩ = some (.int .i64 p) ∧ W.cell? ⟨gb, i, none⟩ = some (.int .i64 q) ∧ W.cell? ⟨gx, 1, none⟩ = some (.int .i64 r) := by
  subst hp
  subst hq
  exact ⟨(blk_cell T.out 0).trans rfl, (blk_cell T.out 1).trans rfl, (blk_cell T.lk.ru i).trans (rowI_get su i hu), (blk_cell T.lk.rb i).trans (rowI_get sb i hb), (blk_cell T.bx 1).trans hr⟩
theorem T7.drop (T : T7 w0 o gu gf gb su fr sb vh0 vt0 vh vt vc h t c s gx cx x y a b W) : T7 w0 o gu gf gb su fr sb vh0 vt0 vh vt vc h t c s gx cx x y none none W :=
  ⟨T.lk, T.out, T.bx, fun k hk => (by cases hk), fun k hk => (by cases hk)⟩
theorem T7.drew (T : T7 w0 o gu gf gb su fr sb vh0 vt0 vh vt vc h t c s gx cx x y none none W) : T7 w0 o gu gf gb su fr sb vh0 vt0 vh vt vc h t c s gx cx x y none none W.drew :=
  ⟨T.lk.drew, T.out, T.bx, fun k hk => (by cases hk), fun k hk => (by cases hk)⟩
end
theorem leaves_congr {P : Program} {fn : Func} {t1 t2 : Array Value} {R : Ending → World → Prop} (he : ∀ w, (results fn t1).run P w = (results fn t2).run P w) : ∀ (ds : List Deferred) (u : FrameMode) (w : World), Leaves P fn t1 R ds u w → Leaves P fn t2 R ds u w
  | [], .returning, w, h => by
    obtain ⟨v, h1, h2⟩ := h
    exact ⟨v, by rw [← he]; exact h1, h2⟩
  | [], .panicking _, _, h => h
  | [], .run, _, h => h
  | d :: ds, u, w, h => by
    obtain ⟨h1, fv, cap, f, args, h2, h3, h4⟩ := h
    refine ⟨h1, fv, cap, f, args, h2, h3, h4.mono ?_⟩
    rintro (v | ch | _) u' w' h5
    · exact leaves_congr he ds _ _ h5
    · exact leaves_congr he ds _ _ h5
    · exact h5
theorem leaves_put64 {a : Act} {N : Option Tmp} {v : Value} {R : Ending → World → Prop} {u : FrameMode} {w : World} (hN : N ≠ some 2) (h : Leaves Try.prog Try.f64 (a.put N v).tmps R (a.put N v).defers u w) : Leaves Try.prog Try.f64 a.tmps R a.defers u w := by
  have hd : (a.put N v).defers = a.defers := by cases N <;> rfl
  rw [hd] at h
  refine leaves_congr (fun w => ?_) _ _ _ h
  have hres : Try.f64.results = #[.cell 2 118] := rfl
  have ht : (a.put N v).tmps.getD 2 undef = a.tmps.getD 2 undef := by
    cases N with
    | none => rfl
    | some k =>
      have hk : k ≠ 2 := fun e => hN (by rw [e])
      simp only [Act.put, Array.getD_eq_getD_getElem?]
      rw [Array.getElem?_setIfInBounds_ne hk]
  have ht' : (a.put N v).tmps[2]?.getD undef = a.tmps[2]?.getD undef := by simpa using ht
  simp [results, hres, ht']
theorem chainF_len {fr : List Int} : ∀ f p l, chainF fr f p = some l → l.length ≤ f
  | 0, p, l, h => by cases h
  | f + 1, p, l, h => by
    rw [chainF] at h
    split at h
    · cases h; simp
    · split at h
      · obtain ⟨l', e, rfl⟩ := Option.map_eq_some_iff.1 h
        have := chainF_len f _ l' e
        simp
        omega
      · cases h
def lenAt (w : World) (a : Addr) : Nat := match w.cell? a with
  | some (.slice _ n _) => n
  | _ => 0
end Go.Proofs.Ytipkhaicjjeieaa.V
