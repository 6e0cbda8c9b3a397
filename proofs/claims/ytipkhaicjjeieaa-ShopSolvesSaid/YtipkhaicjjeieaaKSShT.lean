/- Walks of the shop's functions, twentieth text: the reader of a proof. -/
import Derived.Test.YtipkhaicjjeieaaKSShS
namespace Go.Proofs.Ytipkhaicjjeieaa.V
set_option linter.unusedSimpArgs false
set_option linter.unusedVariables false
open Go.RowKit Go.Proofs.YtipkhaicjjeieaaW.PrintWords Go.Proofs.YtipkhaicjjeieaaW.PrintLast Go.Proofs.YtipkhaicjjeieaaW.PrintMore
def readF (T : List S89) (lim : Int) : Nat → (Nat → Nat → Bool) → List S38 → Option (Bool × List S38)
  | 0, _, _ => none
  | _ + 1, _, [] => some (false, [])
  | f + 1, nx, nd :: rest =>
    if nd.f0 = 0 then
      if alikeB T nd.f1 nd.f2 = true then match readF T lim f (addN nx nd.f1.toNat nd.f2.toNat) rest with
        | some (true, l) => readF T lim f (addN nx nd.f2.toNat nd.f1.toNat) l
        | r => r
      else some (false, rest)
    else if nd.f0 = 1 then some (chainB T nx lim nd.f3, rest)
    else if nd.f0 = 2 then (setF T nx lim nd.f3).map (·, rest)
    else some (false, rest)
theorem readF_mem {T : List S89} {lim : Int} : ∀ (f : Nat) (nx : Nat → Nat → Bool) (l l' : List S38) (b : Bool), readF T lim f nx l = some (b, l') → ∀ nd ∈ l', nd ∈ l
  | 0, _, _, _, _, h => by cases h
  | f + 1, nx, [], l', b, h => by
    rw [readF] at h
    cases h
    exact fun _ hx => hx
  | f + 1, nx, nd :: rest, l', b, h => by
    rw [readF] at h
    have tl : ∀ x ∈ rest, x ∈ nd :: rest := fun x hx => List.mem_cons_of_mem _ hx
    split at h
    · split at h
      · match h1 : readF T lim f (addN nx nd.f1.toNat nd.f2.toNat) rest with
        | none => rw [h1] at h; cases h
        | some (false, l1) =>
          rw [h1] at h
          cases h
          exact fun x hx => tl x (readF_mem f _ _ _ _ h1 x hx)
        | some (true, l1) =>
          rw [h1] at h
          exact fun x hx => tl x (readF_mem f _ _ _ _ h1 x (readF_mem f _ _ _ _ h x hx))
      · cases h
        exact tl
    · split at h
      · cases h
        exact tl
      · split at h
        · obtain ⟨b', _, e⟩ := Option.map_eq_some_iff.1 h
          cases e
          exact tl
        · cases h
          exact tl
theorem head38 {w : World} {A : Option Addr} {n : Nat} {nd : S38} {rest : List S38} (h : Kd.C k38 w A n (nd :: rest)) : ∃ ad A3 c3, A = some ad ∧ w.cell? ad = some (.int .i64 nd.f0) ∧ w.cell? ⟨ad.block, ad.off + 1, none⟩ = some (.int .i64 nd.f1) ∧ w.cell? ⟨ad.block, ad.off + 2, none⟩ = some (.int .i64 nd.f2) ∧ w.cell? ⟨ad.block, ad.off + 3, none⟩ = some (.slice A3 nd.f3.length c3) ∧ nd.f3.length ≤ c3 ∧ (Kd.int .i64).C w A3 nd.f3.length nd.f3 := by
  have hn : 0 < n := by have := h.1; simp at this; omega
  obtain ⟨ad, c, e, _, hK, hc0⟩ := Kd.C_get h z38 0 (by omega) (by omega)
  obtain ⟨A3, c3, rfl, k1, k2⟩ := k38_open hK
  have e0 := hc0 0 _ rfl
  have e1 := hc0 1 _ rfl
  have e2 := hc0 2 _ rfl
  have e3 := hc0 3 _ rfl
  refine ⟨ad, A3, c3, e, add_nil _ _ _ e0, ?_, ?_, ?_, k1, k2⟩
  · have : ad.add (Int.toNat 0 * k38.sz + 1) = ⟨ad.block, ad.off + 1, none⟩ := addS ad 0
    rw [← this]; exact e1
  · have : ad.add (Int.toNat 0 * k38.sz + 2) = ⟨ad.block, ad.off + 2, none⟩ := addS ad 1
    rw [← this]; exact e2
  · have : ad.add (Int.toNat 0 * k38.sz + 3) = ⟨ad.block, ad.off + 3, none⟩ := addS ad 2
    rw [← this]; exact e3
theorem tail38 {w : World} {ad : Addr} {n c : Nat} {nd : S38} {rest : List S38} (h : Kd.C k38 w (some ad) n (nd :: rest)) (hc : n ≤ c) : Kd.C k38 w (if c = 1 then some ad else some (ad.add 4)) rest.length rest := by
  have hn := h.1
  have := Kd.C_drop (by rw [← hn] at h; exact h) (m := 1) (c := c) (by simp) (by omega)
  rw [show k38.sz = 4 from rfl] at this
  simpa using this
theorem run_tail32 (W : World) (ev : Operand → Value) (o : Oper) (x : Operand) (ad : Addr) (A' : Option Addr) (m c : Nat) (hc : (m : Int) + 1 ≤ (c : Int)) (ho : o.op = .slice 32 x (some (.const (.int .i64 1))) none none) (hx : ev x = .slice (some ad) (m + 1) c) (h1 : ev (.const (.int .i64 1)) = .int .i64 1) (hA : A' = if c = 1 then some ad else some ⟨ad.block, ad.off + 4, none⟩) :
    (execOp ev o).run Try.prog W = .ok (.value (.slice A' m (c - 1))) W := by
  subst hA
  unfold execOp
  simp only [ho, hx, h1]
  have h2 : (0 : Int) ≤ (m : Int) := by omega
  have h3 : (1 : Int) ≤ (m : Int) + 1 := by omega
  go_simp
theorem wpList_load_rowG {P : Program} {ops : Array Oper} {rest : List Oper} {o : Oper} {a : Act} {w : World} {Q : Exit → Act → World → Prop} (N : Tmp) (_hd : o.dst = some N) (hw : Region.wanted o (yielded ops a.tmps) = true) (ty : TypeId) (x : Operand) (ho : o.op = .load ty x)
    (g : Nat) (hx : a.eval x = .pointer (some ⟨g, 0, none⟩)) (t : TypeId) (cs : Array Value) (fr : Nat × Nat) (d : TypeDesc) (hg : w.heap[g]? = some (.cells cs t fr))
    (hu : P.underlying ty = some d) (hdd : (match d with | .struct _ | .array _ _ => true | _ => false) = true) (hi : (P.info? ty).map (·.size) = some cs.size)
    (h : wpList P ops Q rest (a.put o.dst (.agg cs)) w) : wpList P ops Q (o :: rest) a w :=
  BigFrame.wpList_want hw fun K hK => wp_load_row ty x ho g hx t cs fr d hg hu hdd hi (hK _ _ h)
def LeftAt (w0 : World) (rb : Nat) (lim : Int) (l : List S38) (W : World) : Prop :=
  ∃ A c, W.heap[rb]? = some (.cells #[.int .i64 lim, .slice A l.length c] 72 (0, 0)) ∧ Kd.C k38 w0 A l.length l ∧ l.length ≤ c
theorem leftAt_below {w0 W W1 : World} {rb : Nat} {lim : Int} {l : List S38} (h : LeftAt w0 rb lim l W) (hb : Below W.heap.size W W1) : LeftAt w0 rb lim l W1 := by
  obtain ⟨A, c, h1, h2, h3⟩ := h
  exact ⟨A, c, blk_below h1 hb, h2, h3⟩
def ReadPost (w0 : World) (rb : Nat) (lim : Int) (b : Bool) (l : List S38) (W : World) (e : Ending) (W' : World) : Prop :=
  e = .returned (.bool b) ∧ Below w0.heap.size w0 W' ∧ Kept W W' (fun k => k = rb) ∧ LeftAt w0 rb lim l W'
def ReadOK (w0 : World) (rb g : Nat) (lim : Int) (J : List (List S40)) (f : Nat) : Prop :=
  ∀ (nx : Nat → Nat → Bool) (o : Array Value) (l l' : List S38) (b : Bool) (W : World), IsOrd o g nx → Below w0.heap.size w0 W → LeftAt w0 rb lim l W → (∀ nd ∈ l, nd.f3.length ≤ 1000) → readF (tasksN J J.length) lim f nx l = some (b, l') →
    Calls Try.prog 36 #[.pointer (some ⟨rb, 0, none⟩), .agg o] W (ReadPost w0 rb lim b l' W)
set_option maxHeartbeats 8000000 in
set_option maxRecDepth 100000 in
theorem read_ok (w0 : World) (rb g : Nat) (lim : Int) (J : List (List S40)) (hs : IsShop w0 g J) (hrb : w0.heap.size ≤ rb) (hn : (tasksN J J.length).length ≤ 10) (ht : ∀ x, 0 ≤ timeT (tasksN J J.length) x ∧ timeT (tasksN J J.length) x ≤ 1000) : ∀ f, ReadOK w0 rb g lim J f := by
  intro f
  induction f with
  | zero => intro nx o l l' b W _ _ _ _ h; cases h
  | succ f IH =>
    intro nx o l l' b W ho hW hl hsz hf
    unfold ReadOK at IH
    have HIH := Aside0.mk IH
    have HO := Aside0.mk ho
    have HW := Aside0.mk hW
    have HF := Aside0.mk hf
    have HSZ := Aside0.mk hsz
    have HS := Aside0.mk hs
    have HTT := Aside0.mk ht
    obtain ⟨A, c, hb, hC, hc⟩ := hl
    have LB := Aside0.mk hb
    have LC := Aside0.mk hC
    have HI := Aside0.mk (show (Try.prog.info? 77).map (·.size) = some o.size by rw [ho.size, info77s])
    have q0 := (blk_cell (blk_alloc hb (Obj.cells o 77)) 1).trans rfl
    have q1 := blk_frozen (blk_alloc hb (Obj.cells o 77)) 1
    have hrlt := blk_lt hb
    clear IH ho hW hf hsz hs ht hb hC
    cases l with
    | nil =>
      obtain ⟨rfl, rfl⟩ : b = false ∧ l' = [] := by
        have h := HF.out
        rw [readF] at h
        cases h
        exact ⟨rfl, rfl⟩
      go_enter Try.func36, Try.ntmps36
      go_wp2
      go_ret
      exact ⟨rfl, below_step HW.out (below_alloc (Below.refl _ _) _), Kept.alloc (Kept.refl _ _) _, A, c, blk_alloc LB.out _, LC.out, hc⟩
    | cons nd rest =>
      obtain ⟨ad, A3, c3, e1, r0, r1, r2, r3, k3, h3⟩ := head38 LC.out
      cases e1
      have H3 := Aside0.mk h3
      have K3 := Aside0.mk k3
      have hwa : Below w0.heap.size w0 (W.alloc (Obj.cells o 77)) := below_step HW.out (below_alloc (Below.refl _ _) (Obj.cells o 77))
      replace r0 := pw_cell_below hwa r0
      replace r1 := pw_cell_below hwa r1
      replace r2 := pw_cell_below hwa r2
      replace r3 := pw_cell_below hwa r3
      obtain ⟨m, em⟩ : ∃ m, m = rest.length := ⟨_, rfl⟩
      simp only [List.length_cons] at q0 hc
      rw [← em] at q0 hc
      have EM := Aside0.mk em
      have hc' : (m : Int) + 1 ≤ (c : Int) := by omega
      have hsz3 : nd.f3.length ≤ 1000 := HSZ.out nd (by simp)
      have HSR := Aside0.mk (fun x hx => HSZ.out x (List.mem_cons_of_mem _ hx) : ∀ x ∈ rest, x.f3.length ≤ 1000)
      obtain ⟨A', hA⟩ : ∃ A', A' = if c = 1 then some ad else some ⟨ad.block, ad.off + 4, none⟩ := ⟨_, rfl⟩
      have HA := Aside0.mk hA
      obtain ⟨W5, e5, bw5, bo5, lb5, nd5, kw5⟩ : ∃ W5, (((W.setCell ⟨rb, 1, none⟩ (.slice A' m (c - 1))).alloc (Obj.cells o 77)).alloc (Obj.cells #[.int .i64 nd.f0, .int .i64 nd.f1, .int .i64 nd.f2, .slice A3 nd.f3.length c3] 38)) = W5 ∧ Below w0.heap.size w0 W5 ∧
          W5.heap[W.heap.size]? = some (.cells o 77 (0, 0)) ∧ LeftAt w0 rb lim rest W5 ∧ W5.heap[W.heap.size + 1]? = some (.cells #[.int .i64 nd.f0, .int .i64 nd.f1, .int .i64 nd.f2, .slice A3 nd.f3.length c3] 38 (0, 0)) ∧ Kept W W5 (fun k => k = rb) := by
        have h1 := blk_new (W.setCell ⟨rb, 1, none⟩ (.slice A' m (c - 1))) (Obj.cells o 77)
        have h2 := blk_new ((W.setCell ⟨rb, 1, none⟩ (.slice A' m (c - 1))).alloc (Obj.cells o 77)) (Obj.cells #[.int .i64 nd.f0, .int .i64 nd.f1, .int .i64 nd.f2, .slice A3 nd.f3.length c3] 38)
        have z1 : (W.setCell ⟨rb, 1, none⟩ (.slice A' m (c - 1))).heap.size = W.heap.size := by simp
        rw [z1] at h1
        rw [show ((W.setCell ⟨rb, 1, none⟩ (.slice A' m (c - 1))).alloc (Obj.cells o 77)).heap.size = W.heap.size + 1 by simp] at h2
        refine ⟨_, rfl, below_step (below_step (HW.out.setCell hrb _) (below_alloc (Below.refl _ _) _)) (below_alloc (Below.refl _ _) _), blk_alloc h1 _, ?_, h2, Kept.alloc (Kept.alloc (Kept.setCell (S := fun k => k = rb) (Kept.refl _ _) (.inl rfl) _) _) _⟩
        refine ⟨A', c - 1, ?_, ?_, by rw [← EM.out]; omega⟩
        · rw [← EM.out]
          exact blk_alloc (blk_alloc (blk_put LB.out 1 _ rfl) _) _
        · have := tail38 LC.out (c := c) (by simp only [List.length_cons]; rw [← EM.out]; omega)
          rw [show ad.add 4 = ⟨ad.block, ad.off + 4, none⟩ from addS ad 3, ← hA] at this
          exact this
      have E5 := Aside0.mk e5
      have BW5 := Aside0.mk bw5
      have BO5 := Aside0.mk bo5
      have LB5 := Aside0.mk lb5
      have ND5 := Aside0.mk nd5
      have KW5 := Aside0.mk kw5
      clear hA h3 k3 em hwa e5 bw5 bo5 lb5 nd5 kw5
      by_cases hk0 : nd.f0 = 0
      · cases hal : alikeB (tasksN J J.length) nd.f1 nd.f2 with
        | false =>
          obtain ⟨rfl, rfl⟩ : b = false ∧ l' = rest := by
            have h := HF.out
            rw [readF, if_pos hk0, if_neg (by rw [hal]; simp)] at h
            cases h
            exact ⟨rfl, rfl⟩
          have d0 : (nd.f0 == 0) = true := beq_iff_eq.2 hk0
          have hch := order_alike.calls o g nx J nd.f1 nd.f2 W5 HO.out (HS.out.below BW5.out)
          rw [hal] at hch
          have HCH := Aside0.mk hch
          clear hk0 hal hch
          go_enter Try.func36, Try.ntmps36
          go_wp2_with (first
            | ((with_reducible refine gate_dst (N := 23) rfl ?_); refine Kd.event_run rfl (run_tail32 _ _ _ (.tmp 22) ad A' m c hc' rfl rfl rfl HA.out) ?_)
            | (rw [E5.out]; refine wpList_load_row rfl 77 (.tmp 3) rfl W.heap.size rfl 77 o (0, 0) _ BO5.out Try.underlying77 rfl HI.out ?_; have q5 := (blk_cell ND5.out 1).trans rfl; have q6 := (blk_cell ND5.out 2).trans rfl)
            | ((with_reducible refine HCH.out.mono ?_); rintro e w6 ⟨rfl, hb6⟩; have HB6 := Aside0.mk hb6; clear hb6))
          all_goals
            go_ret
            refine ⟨rfl, below_step BW5.out HB6.out, KW5.out.below HB6.out, ?_⟩
            obtain ⟨A9, c9, l9, l10, l11⟩ := LB5.out
            exact ⟨A9, c9, blk_below l9 HB6.out, l10, l11⟩
        | true =>
          obtain ⟨p, ep, hp⟩ : ∃ p : Nat, nd.f1 = (p : Int) ∧ p < 10 := by
            unfold alikeB hasB at hal
            simp only [Bool.and_eq_true, decide_eq_true_eq] at hal
            exact ⟨nd.f1.toNat, by omega, by omega⟩
          obtain ⟨q, eq, hq⟩ : ∃ q : Nat, nd.f2 = (q : Int) ∧ q < 10 := by
            unfold alikeB hasB at hal
            simp only [Bool.and_eq_true, decide_eq_true_eq] at hal
            exact ⟨nd.f2.toNat, by omega, by omega⟩
          have HP := Aside0.mk hp
          have HQ := Aside0.mk hq
          obtain ⟨b1, l1, hread1⟩ : ∃ b1 l1, readF (tasksN J J.length) lim f (addN nx p q) rest = some (b1, l1) := by
            have h := HF.out
            rw [readF, if_pos hk0, if_pos hal, ep, eq, Int.toNat_natCast, Int.toNat_natCast] at h
            cases e : readF (tasksN J J.length) lim f (addN nx p q) rest with
            | none => rw [e] at h; cases h
            | some r => exact ⟨r.1, r.2, rfl⟩
          have HR1 := Aside0.mk hread1
          have hrw : W.heap.size ≠ rb := by omega
          have hrw1 : W.heap.size + 1 ≠ rb := by omega
          have HRW := Aside0.mk (And.intro hrw hrw1)
          have d0 : (nd.f0 == 0) = true := beq_iff_eq.2 hk0
          have hch := order_alike.calls o g nx J nd.f1 nd.f2 W5 HO.out (HS.out.below BW5.out)
          rw [hal, ep, eq] at hch
          have HCH := Aside0.mk hch
          have hw1 : ∀ (V : World), Calls Try.prog 56 #[.agg o, .int .i64 p, .int .i64 q] V fun e w' => (∃ o', e = .returned (.agg o') ∧ IsOrd o' g (addN nx p q)) ∧ Below V.heap.size V w' := fun V => order_with.calls o g nx p q V HO.out hp hq
          have hw2 : ∀ (V : World), Calls Try.prog 56 #[.agg o, .int .i64 q, .int .i64 p] V fun e w' => (∃ o', e = .returned (.agg o') ∧ IsOrd o' g (addN nx q p)) ∧ Below V.heap.size V w' := fun V => order_with.calls o g nx q p V HO.out hq hp
          have HW1 := Aside0.mk hw1
          have HW2 := Aside0.mk hw2
          have hres : (b1 = true → readF (tasksN J J.length) lim f (addN nx q p) l1 = some (b, l')) ∧ (b1 = false → b = false ∧ l' = l1) := by
            have h := HF.out
            rw [readF, if_pos hk0, if_pos hal, ep, eq, Int.toNat_natCast, Int.toNat_natCast, hread1] at h
            cases b1 with
            | true => exact ⟨fun _ => h, fun e => (by cases e)⟩
            | false => cases h; exact ⟨fun e => (by cases e), fun _ => ⟨rfl, rfl⟩⟩
          have HRES := Aside0.mk hres
          rw [ep] at r1 ND5 E5
          rw [eq] at r2 ND5 E5
          clear hk0 hal hch hw1 hw2 hres hread1 hp hq hrw hrw1 ep eq
          cases b1 with
          | false =>
            obtain ⟨rfl, rfl⟩ := HRES.out.2 rfl
            go_enter Try.func36, Try.ntmps36
            go_wp2_with (first
              | ((with_reducible refine gate_dst (N := 23) rfl ?_); refine Kd.event_run rfl (run_tail32 _ _ _ (.tmp 22) ad A' m c hc' rfl rfl rfl HA.out) ?_)
              | (rw [E5.out]; refine wpList_load_row rfl 77 (.tmp 3) rfl W.heap.size rfl 77 o (0, 0) _ BO5.out Try.underlying77 rfl HI.out ?_; have q5 := (blk_cell ND5.out 1).trans rfl; have q6 := (blk_cell ND5.out 2).trans rfl)
              | ((with_reducible refine HCH.out.mono ?_); rintro e w6 ⟨rfl, hb6⟩; have BO6 := Aside0.mk (blk_below BO5.out hb6); have ND6 := Aside0.mk (blk_below ND5.out hb6); have BW6 := Aside0.mk (below_step BW5.out hb6); have KW6 := Aside0.mk (KW5.out.below hb6); have HB6 := Aside0.mk hb6; have q7 := (blk_cell ND6.out 1).trans rfl; have q8 := (blk_cell ND6.out 2).trans rfl; clear hb6)
              | (refine wpList_load_rowG 38 rfl (by rfl) 77 (.tmp 3) rfl W.heap.size rfl 77 o (0, 0) _ BO6.out Try.underlying77 rfl HI.out ?_)
              | ((with_reducible refine (HW1.out w6).mono ?_); rintro e w7 ⟨⟨o1, rfl, ho1⟩, hb7⟩; have HO1 := Aside0.mk ho1; have BW7 := Aside0.mk (below_step BW6.out hb7); have KW7 := Aside0.mk (KW6.out.below hb7); have LB7 := Aside0.mk (leftAt_below (leftAt_below LB5.out HB6.out) hb7); clear ho1 hb7)
              | ((with_reducible refine (HIH.out (addN nx p q) o1 rest l' false w7 HO1.out BW7.out LB7.out HSR.out HR1.out).mono ?_); rintro e w8 ⟨rfl, hb8, hk8, hl8⟩; have BW8 := Aside0.mk hb8; have KW8 := Aside0.mk (KW7.out.then_ hk8 (fun _ h => .inl h)); have LB8 := Aside0.mk hl8; clear hb8 hk8 hl8))
            all_goals
              go_ret
              exact ⟨rfl, BW8.out, KW8.out, LB8.out⟩
          | true =>
            have HR2 := Aside0.mk (HRES.out.1 rfl)
            have HS1 := Aside0.mk (fun x hx => HSR.out x (readF_mem f _ _ _ _ HR1.out x hx) : ∀ x ∈ l1, x.f3.length ≤ 1000)
            go_enter Try.func36, Try.ntmps36
            go_wp2_with (first
              | ((with_reducible refine gate_dst (N := 23) rfl ?_); refine Kd.event_run rfl (run_tail32 _ _ _ (.tmp 22) ad A' m c hc' rfl rfl rfl HA.out) ?_)
              | (rw [E5.out]; refine wpList_load_row rfl 77 (.tmp 3) rfl W.heap.size rfl 77 o (0, 0) _ BO5.out Try.underlying77 rfl HI.out ?_; have q5 := (blk_cell ND5.out 1).trans rfl; have q6 := (blk_cell ND5.out 2).trans rfl)
              | ((with_reducible refine HCH.out.mono ?_); rintro e w6 ⟨rfl, hb6⟩; have BO6 := Aside0.mk (blk_below BO5.out hb6); have ND6 := Aside0.mk (blk_below ND5.out hb6); have BW6 := Aside0.mk (below_step BW5.out hb6); have KW6 := Aside0.mk (KW5.out.below hb6); have HB6 := Aside0.mk hb6; have q7 := (blk_cell ND6.out 1).trans rfl; have q8 := (blk_cell ND6.out 2).trans rfl; clear hb6)
              | (refine wpList_load_rowG 38 rfl (by rfl) 77 (.tmp 3) rfl W.heap.size rfl 77 o (0, 0) _ BO6.out Try.underlying77 rfl HI.out ?_)
              | ((with_reducible refine (HW1.out w6).mono ?_); rintro e w7 ⟨⟨o1, rfl, ho1⟩, hb7⟩; have HO1 := Aside0.mk ho1; have BO7 := Aside0.mk (blk_below BO6.out hb7); have ND7 := Aside0.mk (blk_below ND6.out hb7); have BW7 := Aside0.mk (below_step BW6.out hb7); have KW7 := Aside0.mk (KW6.out.below hb7); have LB7 := Aside0.mk (leftAt_below (leftAt_below LB5.out HB6.out) hb7); clear ho1 hb7)
              | ((with_reducible refine (HIH.out (addN nx p q) o1 rest l1 true w7 HO1.out BW7.out LB7.out HSR.out HR1.out).mono ?_); rintro e w8 ⟨rfl, hb8, hk8, hl8⟩; have BO8 := Aside0.mk (blk_kept BO7.out hk8 HRW.out.1); have ND8 := Aside0.mk (blk_kept ND7.out hk8 HRW.out.2); have BW8 := Aside0.mk hb8; have KW8 := Aside0.mk (KW7.out.then_ hk8 (fun _ h => .inl h)); have LB8 := Aside0.mk hl8; have q9 := (blk_cell ND8.out 1).trans rfl; have qa := (blk_cell ND8.out 2).trans rfl; clear hb8 hk8 hl8)
              | (refine wpList_load_rowG 48 rfl (by rfl) 77 (.tmp 3) rfl W.heap.size rfl 77 o (0, 0) _ BO8.out Try.underlying77 rfl HI.out ?_)
              | ((with_reducible refine (HW2.out w8).mono ?_); rintro e w9 ⟨⟨o2, rfl, ho2⟩, hb9⟩; have HO2 := Aside0.mk ho2; have BW9 := Aside0.mk (below_step BW8.out hb9); have KW9 := Aside0.mk (KW8.out.below hb9); have LB9 := Aside0.mk (leftAt_below LB8.out hb9); clear ho2 hb9)
              | ((with_reducible refine (HIH.out (addN nx q p) o2 l1 l' b w9 HO2.out BW9.out LB9.out HS1.out HR2.out).mono ?_); rintro e wa ⟨rfl, hba, hka, hla⟩; have BWa := Aside0.mk hba; have KWa := Aside0.mk (KW9.out.then_ hka (fun _ h => .inl h)); have LBa := Aside0.mk hla; clear hba hka hla))
            all_goals
              go_ret
              exact ⟨rfl, BWa.out, KWa.out, LBa.out⟩
      by_cases hk1 : nd.f0 = 1
      · obtain ⟨rfl, rfl⟩ : b = chainB (tasksN J J.length) nx lim nd.f3 ∧ l' = rest := by
          have h := HF.out
          rw [readF, if_neg hk0, if_pos hk1] at h
          cases h
          exact ⟨rfl, rfl⟩
        have d0 : (nd.f0 == 0) = false := beq_eq_false_iff_ne.2 hk0
        have d1 : (nd.f0 == 1) = true := beq_iff_eq.2 hk1
        clear hk0 hk1
        obtain ⟨v, ev⟩ : ∃ v, v = chainB (tasksN J J.length) nx lim nd.f3 := ⟨_, rfl⟩
        have hch : Calls Try.prog 57 #[.pointer (some ⟨rb, 0, none⟩), .agg o, .slice A3 nd.f3.length c3] W5 fun e w' => e = .returned (.bool v) ∧ Below W5.heap.size W5 w' := by
          obtain ⟨A9, c9, l9, _, _⟩ := LB5.out
          rw [ev]
          exact reader_chain.calls o g nx J rb lim A3 c3 nd.f3 W5 HO.out (HS.out.below BW5.out) hn ((blk_cell l9 0).trans rfl) (Kd.C_below H3.out BW5.out) K3.out (by omega) HTT.out
        have HCH := Aside0.mk hch
        rw [← ev]
        clear hch ev
        go_enter Try.func36, Try.ntmps36
        go_wp2_with (first
          | ((with_reducible refine gate_dst (N := 23) rfl ?_); refine Kd.event_run rfl (run_tail32 _ _ _ (.tmp 22) ad A' m c hc' rfl rfl rfl HA.out) ?_)
          | (rw [E5.out]; refine wpList_load_row rfl 77 (.tmp 3) rfl W.heap.size rfl 77 o (0, 0) _ BO5.out Try.underlying77 rfl HI.out ?_; have q5 := (blk_cell ND5.out 3).trans rfl)
          | ((with_reducible refine HCH.out.mono ?_); rintro e w6 ⟨rfl, hb6⟩; have HB6 := Aside0.mk hb6; clear hb6))
        all_goals
          go_ret
          refine ⟨rfl, below_step BW5.out HB6.out, KW5.out.below HB6.out, ?_⟩
          obtain ⟨A9, c9, l9, l10, l11⟩ := LB5.out
          exact ⟨A9, c9, blk_below l9 HB6.out, l10, l11⟩
      by_cases hk2 : nd.f0 = 2
      · obtain ⟨hset, rfl⟩ : setF (tasksN J J.length) nx lim nd.f3 = some b ∧ l' = rest := by
          have h := HF.out
          rw [readF, if_neg hk0, if_neg hk1, if_pos hk2] at h
          obtain ⟨b', h1, h2⟩ := Option.map_eq_some_iff.1 h
          cases h2
          exact ⟨h1, rfl⟩
        have d0 : (nd.f0 == 0) = false := beq_eq_false_iff_ne.2 hk0
        have d1 : (nd.f0 == 1) = false := beq_eq_false_iff_ne.2 hk1
        have d2 : (nd.f0 == 2) = true := beq_iff_eq.2 hk2
        clear hk0 hk1 hk2
        have hch : Calls Try.prog 58 #[.pointer (some ⟨rb, 0, none⟩), .agg o, .slice A3 nd.f3.length c3] W5 fun e w' => e = .returned (.bool b) ∧ Below W5.heap.size W5 w' := by
          obtain ⟨A9, c9, l9, _, _⟩ := LB5.out
          exact reader_set.calls o g nx J rb lim A3 c3 nd.f3 b W5 HO.out (HS.out.below BW5.out) hn ((blk_cell l9 0).trans rfl) (Kd.C_below H3.out BW5.out) K3.out hsz3 HTT.out hset
        have HCH := Aside0.mk hch
        clear hch hset
        go_enter Try.func36, Try.ntmps36
        go_wp2_with (first
          | ((with_reducible refine gate_dst (N := 23) rfl ?_); refine Kd.event_run rfl (run_tail32 _ _ _ (.tmp 22) ad A' m c hc' rfl rfl rfl HA.out) ?_)
          | (rw [E5.out]; refine wpList_load_row rfl 77 (.tmp 3) rfl W.heap.size rfl 77 o (0, 0) _ BO5.out Try.underlying77 rfl HI.out ?_; have q5 := (blk_cell ND5.out 3).trans rfl)
          | ((with_reducible refine HCH.out.mono ?_); rintro e w6 ⟨rfl, hb6⟩; have HB6 := Aside0.mk hb6; clear hb6))
        all_goals
          go_ret
          refine ⟨rfl, below_step BW5.out HB6.out, KW5.out.below HB6.out, ?_⟩
          obtain ⟨A9, c9, l9, l10, l11⟩ := LB5.out
          exact ⟨A9, c9, blk_below l9 HB6.out, l10, l11⟩
      · obtain ⟨rfl, rfl⟩ : b = false ∧ l' = rest := by
          have h := HF.out
          rw [readF, if_neg hk0, if_neg hk1, if_neg hk2] at h
          cases h
          exact ⟨rfl, rfl⟩
        have d0 : (nd.f0 == 0) = false := beq_eq_false_iff_ne.2 hk0
        have d1 : (nd.f0 == 1) = false := beq_eq_false_iff_ne.2 hk1
        have d2 : (nd.f0 == 2) = false := beq_eq_false_iff_ne.2 hk2
        clear hk0 hk1 hk2
        go_enter Try.func36, Try.ntmps36
        go_wp2_with (first | ((with_reducible refine gate_dst (N := 23) rfl ?_); refine Kd.event_run rfl (run_tail32 _ _ _ (.tmp 22) ad A' m c hc' rfl rfl rfl HA.out) ?_))
        go_ret
        rw [E5.out]
        exact ⟨rfl, BW5.out, KW5.out, LB5.out⟩
end Go.Proofs.Ytipkhaicjjeieaa.V
