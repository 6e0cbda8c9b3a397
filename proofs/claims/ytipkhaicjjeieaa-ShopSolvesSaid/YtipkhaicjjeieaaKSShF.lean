/- Walks of the shop's functions, sixth text: looks into lists of numbers; is a list a chain that is too long? -/
import Derived.Test.YtipkhaicjjeieaaKSShE
namespace Go.Proofs.Ytipkhaicjjeieaa.V
set_option linter.unusedSimpArgs false
set_option linter.unusedVariables false
open Go.RowKit Go.Proofs.YtipkhaicjjeieaaW.PrintWords Go.Proofs.YtipkhaicjjeieaaW.PrintLast Go.Proofs.YtipkhaicjjeieaaW.PrintMore
def indexN (l : List Int) (x : Int) : Nat → Int
  | 0 => -1
  | n + 1 => if 0 ≤ indexN l x n then indexN l x n else if l.getD n 0 = x then (n : Int) else -1
theorem indexN_lt (l : List Int) (x : Int) : ∀ n, -1 ≤ indexN l x n ∧ indexN l x n < (n : Int)
  | 0 => by simp [indexN]
  | n + 1 => by
    have := indexN_lt l x n
    simp only [indexN]
    split
    · omega
    · split <;> omega
theorem indexN_no (l : List Int) (x : Int) : ∀ n, indexN l x n < 0 ↔ ∀ j, j < n → l.getD j 0 ≠ x
  | 0 => by simp [indexN]
  | n + 1 => by
    have ih := indexN_no l x n
    simp only [indexN]
    by_cases h : 0 ≤ indexN l x n
    · rw [if_pos h]
      refine ⟨fun h2 => by omega, fun h2 => ?_⟩
      exact ih.2 fun j hj => h2 j (by omega)
    · rw [if_neg h]
      have h' := ih.1 (by omega)
      by_cases e : l.getD n 0 = x
      · rw [if_pos e]
        exact ⟨fun h2 => by omega, fun h2 => absurd e (h2 n (by omega))⟩
      · rw [if_neg e]
        refine ⟨fun _ j hj => ?_, fun _ => by omega⟩
        by_cases ej : j = n
        · rw [ej]; exact e
        · exact h' j (by omega)
theorem indexN_stay (l : List Int) (x : Int) {k : Nat} (h : 0 ≤ indexN l x k) : ∀ d, indexN l x (k + d) = indexN l x k
  | 0 => rfl
  | d + 1 => by
    have ih := indexN_stay l x h d
    show (if 0 ≤ indexN l x (k + d) then indexN l x (k + d) else _) = _
    rw [ih, if_pos h]
set_option maxRecDepth 100000 in
theorem slices_Index.calls (A : Option Addr) (c : Nat) (l : List Int) (x : Int) (w : World) (hr : Kd.C (Kd.int .i64) w A l.length l) (hc : l.length ≤ c) (hm : l.length ≤ 1000000) :
    Calls Try.prog 77 #[.slice A l.length c, .int .i64 x] w fun e w' => e = .returned (.int .i64 (indexN l x l.length)) ∧ Below w.heap.size w w' := by
  have HR := Aside0.mk hr
  have HC := Aside0.mk hc
  clear hr hc
  obtain ⟨n, hn⟩ : ∃ n, n = l.length := ⟨_, rfl⟩
  rw [← hn] at HR HC ⊢
  rw [← hn] at hm
  clear hn
  go_enter Try.func77, Try.ntmps77
  go_wp2
  go_loopw [8] (fun i wr => ∃ k : Nat, k ≤ n ∧ i = .int .i64 k ∧ Aside0 (indexN l x k < 0) ∧ Aside0 (Below w.heap.size w wr)) (fun i _ => n - (intOf i).toNat)
  case atStart => exact ⟨0, Nat.zero_le _, rfl, ⟨show (-1 : Int) < 0 by decide⟩, ⟨Below.refl _ _⟩⟩
  case round =>
    obtain ⟨k, hk, rfl, HF, HB⟩ := hrel
    by_cases hlt : k < n
    · obtain ⟨ad, e1, h0⟩ := at_NInt (Kd.C_below HR.out HB.out) k hlt
      cases e1
      obtain ⟨u, hu⟩ : ∃ u, u = l.getD k 0 := ⟨_, rfl⟩
      rw [← hu] at h0
      have HU := Aside0.mk hu
      clear hu
      by_cases e : x = u
      · have d1 : (x == u) = true := beq_iff_eq.2 e
        have HE := Aside0.mk e
        clear e
        go_wp2
        go_ret
        refine ⟨?_, HB.out⟩
        have h1 : indexN l x (k + 1) = (k : Int) := by
          simp only [indexN]
          rw [if_neg (by have := HF.out; omega), if_pos (by rw [← HU.out, ← HE.out])]
        have h2 := indexN_stay l x (k := k + 1) (by rw [h1]; omega) (n - (k + 1))
        rw [show k + 1 + (n - (k + 1)) = n by omega] at h2
        rw [h2, h1]
        rfl
      · have d1 : (x == u) = false := beq_eq_false_iff_ne.2 e
        have HE := Aside0.mk e
        clear e
        go_wp2
        refine ⟨⟨k + 1, by omega, rfl, ⟨?_⟩, ⟨HB.out⟩⟩, by simp [intOf]; omega⟩
        simp only [indexN]
        rw [if_neg (by have := HF.out; omega), if_neg (by rw [← HU.out]; exact fun h => HE.out h.symm)]
        decide
    · obtain rfl : k = n := by omega
      go_wp2
      go_ret
      refine ⟨?_, HB.out⟩
      have h1 := indexN_lt l x k
      have h2 := HF.out
      rw [show indexN l x k = -1 by omega]
      rfl
def hasN (l : List Int) (x : Int) (n : Nat) : Bool := decide (0 ≤ indexN l x n)
set_option maxRecDepth 100000 in
theorem slices_Contains.calls (A : Option Addr) (c : Nat) (l : List Int) (x : Int) (w : World) (hr : Kd.C (Kd.int .i64) w A l.length l) (hc : l.length ≤ c) (hm : l.length ≤ 1000000) :
    Calls Try.prog 70 #[.slice A l.length c, .int .i64 x] w fun e w' => e = .returned (.bool (hasN l x l.length)) ∧ Below w.heap.size w w' := by
  have HR := Aside0.mk hr
  clear hr
  obtain ⟨r, er⟩ : ∃ r, r = indexN l x l.length := ⟨_, rfl⟩
  have HE := Aside0.mk (show hasN l x l.length = decide (r ≥ 0) by rw [er]; rfl)
  have ER := Aside0.mk er
  clear er
  go_enter Try.func70, Try.ntmps70
  go_wp2_with (first | ((with_reducible refine (slices_Index.calls A c l x _ HR.out hc hm).mono ?_); rw [← ER.out]; rintro e w1 ⟨rfl, hb1⟩; have HB1 := Aside0.mk hb1; clear hb1))
  go_ret
  rw [HE.out]
  exact ⟨rfl, HB1.out⟩
theorem hasN_take (l : List Int) (x : Int) : ∀ {n m : Nat}, n ≤ m → indexN (l.take m) x n = indexN l x n
  | 0, _, _ => rfl
  | n + 1, m, h => by
    have ih := hasN_take l x (n := n) (m := m) (by omega)
    have e : (l.take m).getD n 0 = l.getD n 0 := by
      simp only [List.getD_eq_getElem?_getD, List.getElem?_take_of_lt (show n < m by omega)]
    simp only [indexN, ih, e]
theorem slices_Contains_take.calls (A : Option Addr) (c : Nat) (l : List Int) (x : Int) (k : Nat) (w : World) (hr : Kd.C (Kd.int .i64) w A l.length l) (hc : l.length ≤ c) (hm : l.length ≤ 1000000) (hk : k ≤ l.length) :
    Calls Try.prog 70 #[.slice A k c, .int .i64 x] w fun e w' => e = .returned (.bool (hasN l x k)) ∧ Below w.heap.size w w' := by
  have hlen : (l.take k).length = k := by rw [List.length_take]; omega
  have h := slices_Contains.calls A c (l.take k) x w (Kd.C_take hr hk) (by omega) (by omega)
  rw [hlen] at h
  rw [show hasN l x k = hasN (l.take k) x k by unfold hasN; rw [hasN_take l x (Nat.le_refl k)]]
  exact h
theorem addS (a : Addr) (j : Nat) : a.add (j + 1) = ⟨a.block, a.off + (j + 1), none⟩ := by
  unfold Addr.add
  simp
def okAt (T : List S89) (nx : Nat → Nat → Bool) (l : List Int) (i : Nat) : Bool := hasB T.length (l.getD i 0) && (decide (i = 0) || nx (l.getD (i - 1) 0).toNat (l.getD i 0).toNat)
def okN (T : List S89) (nx : Nat → Nat → Bool) (l : List Int) : Nat → Bool
  | 0 => true
  | k + 1 => okN T nx l k && okAt T nx l k
def twN (l : List Int) : Nat → Bool
  | 0 => false
  | k + 1 => twN l k || hasN l (l.getD k 0) k
def smN (T : List S89) (l : List Int) : Nat → Int
  | 0 => 0
  | k + 1 => smN T l k + timeT T (l.getD k 0).toNat
def chainB (T : List S89) (nx : Nat → Nat → Bool) (lim : Int) (l : List Int) : Bool := okN T nx l l.length && (decide (0 < l.length) && (twN l l.length || decide (smN T l l.length > lim)))
theorem okN_false {T : List S89} {nx : Nat → Nat → Bool} {l : List Int} {k : Nat} (h : okAt T nx l k = false) : ∀ d, okN T nx l (k + 1 + d) = false
  | 0 => by simp only [Nat.add_zero, okN, h, Bool.and_false]
  | d + 1 => by
    have := okN_false h d
    show (okN T nx l (k + 1 + d) && _) = false
    rw [this, Bool.false_and]
theorem smN_bd {T : List S89} {l : List Int} (ht : ∀ x, 0 ≤ timeT T x ∧ timeT T x ≤ 1000) : ∀ k : Nat, 0 ≤ smN T l k ∧ smN T l k ≤ 1000 * (k : Int)
  | 0 => by simp [smN]
  | k + 1 => by
    have h1 := smN_bd ht (l := l) k
    have h2 := ht (l.getD k 0).toNat
    simp only [smN]
    omega
set_option maxHeartbeats 8000000 in
set_option maxRecDepth 100000 in
theorem reader_chain.calls (o : Array Value) (g : Nat) (nx : Nat → Nat → Bool) (J : List (List S40)) (rb : Nat) (lim : Int) (A : Option Addr) (c : Nat) (l : List Int) (w : World) (ho : IsOrd o g nx) (hs : IsShop w g J) (hn : (tasksN J J.length).length ≤ 10)
    (hl : w.cell? ⟨rb, 0, none⟩ = some (.int .i64 lim)) (hr : Kd.C (Kd.int .i64) w A l.length l) (hc : l.length ≤ c) (hm : l.length ≤ 1000000) (ht : ∀ x, 0 ≤ timeT (tasksN J J.length) x ∧ timeT (tasksN J J.length) x ≤ 1000) :
    Calls Try.prog 57 #[.pointer (some ⟨rb, 0, none⟩), .agg o, .slice A l.length c] w fun e w' => e = .returned (.bool (chainB (tasksN J J.length) nx lim l)) ∧ Below w.heap.size w w' := by
  have HO := Aside0.mk ho
  have HS := Aside0.mk hs
  have HI := Aside0.mk (show (Try.prog.info? 77).map (·.size) = some o.size by rw [ho.size, info77s])
  have HR := Aside0.mk hr
  have HL := Aside0.mk hl
  have HC := Aside0.mk hc
  have HTT := Aside0.mk ht
  obtain ⟨A0, c0, At, ct, Af, cf, hb, _, _, hT, hct, _, _⟩ := hs
  have SB := Aside0.mk hb
  have ST := Aside0.mk hT
  obtain ⟨n, en⟩ : ∃ n, n = (tasksN J J.length).length := ⟨_, rfl⟩
  rw [← en] at SB ST hct hn
  have EN := Aside0.mk en
  obtain ⟨m, em⟩ : ∃ m, m = l.length := ⟨_, rfl⟩
  rw [← em] at HR HC hm ⊢
  have EM := Aside0.mk em
  have BO := Aside0.mk (blk_new w (Obj.cells o 77))
  have B1 := Aside0.mk (below_alloc (Below.refl w.heap.size w) (Obj.cells o 77))
  clear ho hb hT en em hr hl hc ht
  go_enter Try.func57, Try.ntmps57
  go_wp2
  go_loopw [7, 8, 13] (fun v7 v8 v w' => ∃ k : Nat, k ≤ m ∧ v = .int .i64 k ∧ v7 = .int .i64 (smN (tasksN J J.length) l k) ∧ v8 = .bool (twN l k) ∧ Aside0 (okN (tasksN J J.length) nx l k = true) ∧ Aside0 (w'.heap[w.heap.size]? = some (.cells o 77 (0, 0))) ∧ Aside0 (Below w.heap.size w w')) (fun _ _ v _ => m - (intOf v).toNat)
  case atStart => exact ⟨0, Nat.zero_le _, rfl, rfl, rfl, ⟨rfl⟩, BO, B1⟩
  case round =>
    clear BO B1
    obtain ⟨k, hk, rfl, rfl, rfl, HK, BO, HB⟩ := hrel
    obtain ⟨s, es⟩ : ∃ s, s = smN (tasksN J J.length) l k := ⟨_, rfl⟩
    obtain ⟨b, eb⟩ : ∃ b, b = twN l k := ⟨_, rfl⟩
    have b1 : 0 ≤ s ∧ s ≤ 1000 * (k : Int) := by rw [es]; exact smN_bd HTT.out k
    rw [← es, ← eb]
    have ES := Aside0.mk es
    have EB := Aside0.mk eb
    clear es eb
    obtain ⟨c11, c12⟩ := b1
    have HSr := Aside0.mk (IsShop.below HS.out HB.out)
    by_cases hlt : k < m
    · obtain ⟨ad, e1, h0⟩ := at_NInt (Kd.C_below HR.out HB.out) k hlt
      cases e1
      obtain ⟨x, hx⟩ : ∃ x, x = l.getD k 0 := ⟨_, rfl⟩
      rw [← hx] at h0
      have HX := Aside0.mk hx
      clear hx
      cases ha : hasB (tasksN J J.length).length x
      · have HA := Aside0.mk ha
        have HE := Aside0.mk (show chainB (tasksN J J.length) nx lim l = false by
          have h1 : okAt (tasksN J J.length) nx l k = false := by unfold okAt; rw [← HX.out, ha, Bool.false_and]
          have h2 := okN_false h1 (m - (k + 1))
          rw [show k + 1 + (m - (k + 1)) = m by omega, EM.out] at h2
          unfold chainB
          rw [h2, Bool.false_and])
        clear ha
        go_wp2_with (first
          | (refine wpList_load_row rfl 77 (.tmp 4) rfl w.heap.size rfl 77 o (0, 0) _ BO.out Try.underlying77 rfl HI.out ?_)
          | ((with_reducible refine (order_has.calls o g nx J x _ HO.out HSr.out).mono ?_); rw [HA.out]; rintro e w1 ⟨rfl, hb1⟩; have HB1 := Aside0.mk hb1; clear hb1))
        go_ret
        rw [HE.out]
        exact ⟨rfl, below_then HB.out (below_size HB.out) HB1.out⟩
      · obtain ⟨t, rfl, hlt2⟩ : ∃ t : Nat, x = (t : Int) ∧ t < n := by
          have en := EN.out
          unfold hasB at ha
          rw [Bool.and_eq_true, decide_eq_true_eq, decide_eq_true_eq] at ha
          exact ⟨x.toNat, by omega, by omega⟩
        have HA := Aside0.mk ha
        clear ha
        obtain ⟨at1, tz, e1, htz, r0, r1, _⟩ := at_N89 ST.out t hlt2
        cases e1
        have dz : 0 ≤ tz.f0.f1 ∧ tz.f0.f1 ≤ 1000 := by rw [htz]; exact HTT.out t
        obtain ⟨dz1, dz2⟩ := dz
        have R1 := Aside0.mk r1
        have HTZ := Aside0.mk htz
        clear htz r0 r1
        rcases Nat.eq_zero_or_pos k with hk0 | hk0
        · subst hk0
          replace h0 := add_nil _ _ _ h0
          simp only [Int.natCast_zero] at c12 ⊢
          have OKA := Aside0.mk (show okAt (tasksN J J.length) nx l 0 = true by unfold okAt; rw [← HX.out, HA.out]; rfl)
          have hb0 : b = false := by rw [EB.out]; rfl
          subst hb0
          go_wp2_with (first
            | (refine wpList_load_row rfl 77 (.tmp 4) rfl w.heap.size rfl 77 o (0, 0) _ BO.out Try.underlying77 rfl HI.out ?_)
            | ((with_reducible refine (order_has.calls o g nx J t _ HO.out HSr.out).mono ?_); rw [HA.out]; rintro e w1 ⟨rfl, hb1⟩; have BO1 := Aside0.mk (blk_below BO.out hb1); have HB1 := Aside0.mk (below_then HB.out (below_size HB.out) hb1); have q0 := (blk_cell BO1.out 0).trans HO.out.ptr; have q1 := (blk_cell (blk_below SB.out HB1.out) 1).trans rfl; have q2 := pw_cell_below HB1.out R1.out; clear hb1)
            | ((with_reducible refine (slices_Contains_take.calls (some ad) c l t 0 _ (by rw [← EM.out]; exact Kd.C_below HR.out HB1.out) (by rw [← EM.out]; exact HC.out) (by rw [← EM.out]; exact hm) (by rw [← EM.out]; exact hk)).mono ?_); rintro e w2 ⟨rfl, hb2⟩; have BO2 := Aside0.mk (blk_below BO1.out hb2); have HB2 := Aside0.mk (below_then HB1.out (below_size HB1.out) hb2); clear q0 q1 q2; have q0 := (blk_cell BO2.out 0).trans HO.out.ptr; have q1 := (blk_cell (blk_below SB.out HB2.out) 1).trans rfl; have q2 := pw_cell_below HB2.out R1.out; clear hb2))
          refine ⟨⟨0 + 1, by omega, rfl, ?_, ?_, ⟨?_⟩, BO2, HB2⟩, by simp [intOf]; omega⟩
          · first | rw [show wrap64 (s + tz.f0.f1) = s + tz.f0.f1 by unfold wrap64; omega] | skip
            simp only [smN, timeT, ← HX.out, Int.toNat_natCast, ← HTZ.out]
            rw [show s = 0 from ES.out]
          · simp only [twN, ← HX.out]; rfl
          · simp only [okN, HK.out, OKA.out]; rfl
        · obtain ⟨j, rfl⟩ : ∃ j, k = j + 1 := ⟨k - 1, by omega⟩
          have hok : okN (tasksN J J.length) nx l (j + 1) = true := HK.out
          have hya : hasB (tasksN J J.length).length (l.getD j 0) = true := by
            simp only [okN, okAt, Bool.and_eq_true] at hok
            exact hok.2.1
          obtain ⟨s0, hs0, hlt3⟩ : ∃ s0 : Nat, l.getD j 0 = (s0 : Int) ∧ s0 < n := by
            have en := EN.out
            unfold hasB at hya
            rw [Bool.and_eq_true, decide_eq_true_eq, decide_eq_true_eq] at hya
            exact ⟨(l.getD j 0).toNat, by omega, by omega⟩
          obtain ⟨ad2, e2, h2⟩ := at_NInt (Kd.C_below HR.out HB.out) j (by omega)
          injection e2 with e2
          subst e2
          rw [hs0] at h2
          have R2 := Aside0.mk (show w.cell? (ad.add j) = some (.int .i64 (s0 : Int)) by
            obtain ⟨ad3, e3, h3⟩ := at_NInt HR.out j (by omega)
            injection e3 with e3
            subst e3
            rw [hs0] at h3
            exact h3)
          have HBIT := Aside0.mk (show o[1 + s0 * 10 + t]? = some (.bool (nx s0 t)) by have := HO.out.bit s0 t (by omega) (by omega); rwa [← Nat.add_assoc] at this)
          have HS0 := Aside0.mk hs0
          clear hok hya hs0 h2
          have hoka : okAt (tasksN J J.length) nx l (j + 1) = nx s0 t := by
            unfold okAt
            rw [← HX.out, HA.out, Nat.add_sub_cancel, HS0.out]
            simp
          have HOKA := Aside0.mk hoka
          clear hoka
          have g1 : decide ((j : Int) + 1 > 0) = true := decide_eq_true (by omega)
          have g2 : decide ((j : Int) + 1 < (m : Int)) = true := decide_eq_true (by omega)
          rw [addS] at h0
          have g3 : (j : Int) + 1 ≤ (c : Int) := by have := HC.out; omega
          cases hnx : nx s0 t
          · have HE := Aside0.mk (show chainB (tasksN J J.length) nx lim l = false by
              have h1 : okAt (tasksN J J.length) nx l (j + 1) = false := by rw [HOKA.out, hnx]
              have h2 := okN_false h1 (m - (j + 1 + 1))
              rw [show j + 1 + 1 + (m - (j + 1 + 1)) = m by omega, EM.out] at h2
              unfold chainB
              rw [h2, Bool.false_and])
            rw [hnx] at HBIT
            clear hnx
            go_wp2_with (first
              | (refine wpList_load_row rfl 77 (.tmp 4) rfl w.heap.size rfl 77 o (0, 0) _ BO.out Try.underlying77 rfl HI.out ?_)
              | ((with_reducible refine (order_has.calls o g nx J t _ HO.out HSr.out).mono ?_); rw [HA.out]; rintro e w1 ⟨rfl, hb1⟩; have BO1 := Aside0.mk (blk_below BO.out hb1); have HB1 := Aside0.mk (below_then HB.out (below_size HB.out) hb1); have q0 := (blk_cell BO1.out 0).trans HO.out.ptr; have q1 := (blk_cell (blk_below SB.out HB1.out) 1).trans rfl; have q2 := pw_cell_below HB1.out R1.out; have q3 := (blk_cell BO1.out (1 + s0 * 10 + t)).trans HBIT.out; have q4 := pw_cell_below HB1.out R2.out; clear hb1))
            go_ret
            rw [HE.out]
            exact ⟨rfl, HB1.out⟩
          · have OKA := Aside0.mk (show okAt (tasksN J J.length) nx l (j + 1) = true by rw [HOKA.out, hnx])
            rw [hnx] at HBIT
            clear hnx
            cases b with
            | true =>
              go_wp2_with (first
                | (refine wpList_load_row rfl 77 (.tmp 4) rfl w.heap.size rfl 77 o (0, 0) _ BO.out Try.underlying77 rfl HI.out ?_)
                | ((with_reducible refine (order_has.calls o g nx J t _ HO.out HSr.out).mono ?_); rw [HA.out]; rintro e w1 ⟨rfl, hb1⟩; have BO1 := Aside0.mk (blk_below BO.out hb1); have HB1 := Aside0.mk (below_then HB.out (below_size HB.out) hb1); have q0 := (blk_cell BO1.out 0).trans HO.out.ptr; have q1 := (blk_cell (blk_below SB.out HB1.out) 1).trans rfl; have q2 := pw_cell_below HB1.out R1.out; have q3 := (blk_cell BO1.out (1 + s0 * 10 + t)).trans HBIT.out; have q4 := pw_cell_below HB1.out R2.out; clear hb1))
              refine ⟨⟨j + 1 + 1, by omega, rfl, ?_, ?_, ⟨?_⟩, BO1, HB1⟩, by simp [intOf]; omega⟩
              · first | rw [show wrap64 (s + tz.f0.f1) = s + tz.f0.f1 by unfold wrap64; omega] | skip
                rw [show smN (tasksN J J.length) l (j + 1 + 1) = smN (tasksN J J.length) l (j + 1) + timeT (tasksN J J.length) (l.getD (j + 1) 0).toNat from rfl, ← ES.out, ← HX.out, HTZ.out]; rfl
              · rw [show twN l (j + 1 + 1) = (twN l (j + 1) || hasN l (l.getD (j + 1) 0) (j + 1)) from rfl, ← EB.out, ← HX.out]; rfl
              · rw [show okN (tasksN J J.length) nx l (j + 1 + 1) = (okN (tasksN J J.length) nx l (j + 1) && okAt (tasksN J J.length) nx l (j + 1)) from rfl, HK.out, OKA.out]; rfl
            | false =>
              go_wp2_with (first
                | (refine wpList_load_row rfl 77 (.tmp 4) rfl w.heap.size rfl 77 o (0, 0) _ BO.out Try.underlying77 rfl HI.out ?_)
                | ((with_reducible refine (order_has.calls o g nx J t _ HO.out HSr.out).mono ?_); rw [HA.out]; rintro e w1 ⟨rfl, hb1⟩; have BO1 := Aside0.mk (blk_below BO.out hb1); have HB1 := Aside0.mk (below_then HB.out (below_size HB.out) hb1); have q0 := (blk_cell BO1.out 0).trans HO.out.ptr; have q1 := (blk_cell (blk_below SB.out HB1.out) 1).trans rfl; have q2 := pw_cell_below HB1.out R1.out; have q3 := (blk_cell BO1.out (1 + s0 * 10 + t)).trans HBIT.out; have q4 := pw_cell_below HB1.out R2.out; clear hb1)
                | ((with_reducible refine (slices_Contains_take.calls (some ad) c l t (j + 1) _ (by rw [← EM.out]; exact Kd.C_below HR.out HB1.out) (by rw [← EM.out]; exact HC.out) (by rw [← EM.out]; exact hm) (by rw [← EM.out]; exact hk)).mono ?_); rintro e w2 ⟨rfl, hb2⟩; have BO2 := Aside0.mk (blk_below BO1.out hb2); have HB2 := Aside0.mk (below_then HB1.out (below_size HB1.out) hb2); clear q0 q1 q2 q3 q4; have q0 := (blk_cell BO2.out 0).trans HO.out.ptr; have q1 := (blk_cell (blk_below SB.out HB2.out) 1).trans rfl; have q2 := pw_cell_below HB2.out R1.out; clear hb2))
              refine ⟨⟨j + 1 + 1, by omega, rfl, ?_, ?_, ⟨?_⟩, BO2, HB2⟩, by simp [intOf]; omega⟩
              · first | rw [show wrap64 (s + tz.f0.f1) = s + tz.f0.f1 by unfold wrap64; omega] | skip
                rw [show smN (tasksN J J.length) l (j + 1 + 1) = smN (tasksN J J.length) l (j + 1) + timeT (tasksN J J.length) (l.getD (j + 1) 0).toNat from rfl, ← ES.out, ← HX.out, HTZ.out]; rfl
              · rw [show twN l (j + 1 + 1) = (twN l (j + 1) || hasN l (l.getD (j + 1) 0) (j + 1)) from rfl, ← EB.out, ← HX.out]; rfl
              · rw [show okN (tasksN J J.length) nx l (j + 1 + 1) = (okN (tasksN J J.length) nx l (j + 1) && okAt (tasksN J J.length) nx l (j + 1)) from rfl, HK.out, OKA.out]; rfl
    · obtain rfl : k = m := by omega
      have hz := pw_cell_below HB.out HL.out
      have hE : chainB (tasksN J J.length) nx lim l = (decide (0 < k) && (b || decide (s > lim))) := by
        unfold chainB
        rw [← EM.out, HK.out, Bool.true_and, ← EB.out, ← ES.out]
      have HE := Aside0.mk hE
      clear hE
      by_cases h0 : 0 < k
      · have d1 : decide ((k : Int) > 0) = true := decide_eq_true (by omega)
        cases b with
        | true =>
          go_wp2
          go_ret
          rw [HE.out, decide_eq_true h0]
          exact ⟨rfl, HB.out⟩
        | false =>
          go_wp2
          go_ret
          rw [HE.out, decide_eq_true h0]
          exact ⟨rfl, HB.out⟩
      · have d1 : decide ((k : Int) > 0) = false := decide_eq_false (by omega)
        go_wp2
        go_ret
        rw [HE.out, decide_eq_false h0]
        exact ⟨rfl, HB.out⟩
end Go.Proofs.Ytipkhaicjjeieaa.V
