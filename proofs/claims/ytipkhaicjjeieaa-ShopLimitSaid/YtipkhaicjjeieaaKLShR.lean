/- Walks of the shop's functions, eighteenth text: a look at an order, walked. -/
import Derived.Test.YtipkhaicjjeieaaKLG1
namespace Go.Proofs.Ytipkhaicjjeieaa.V
set_option linter.unusedSimpArgs false
set_option linter.unusedVariables false
open Go.RowKit Go.Proofs.YtipkhaicjjeieaaW.PrintWords Go.Proofs.YtipkhaicjjeieaaW.PrintLast Go.Proofs.YtipkhaicjjeieaaW.PrintMore
def lo7T : Bool × List (List Nat × List Nat) := (true, [([], []), ([0], [0]), ([], []), ([], []), ([2, 3], [2, 3]), ([4], [4]), ([], []), ([6], [6]), ([7], [7]), ([5, 8], [5, 8]), ([9], [9]), ([1, 10], [1, 10]), ([], []), ([12], [12]), ([], []), ([], []), ([14, 15], [14, 15]), ([16], [16]), ([], []), ([18], [18]), ([19], [19]), ([17, 20], [17, 20]), ([21], [21]), ([13, 22, 11], [13, 22]), ([0, 1, 2, 3, 4, 5, 6, 7, 8, 9, 10, 11, 12, 13], []), ([24, 11, 23, 0, 1, 2, 3, 4, 5, 6, 7, 8, 9, 10, 11, 12, 13], [11, 24]), ([0, 1, 2, 3, 4, 5, 6, 7, 8, 9, 10, 11, 12, 13, 14, 15, 16, 17, 18, 19, 20, 21, 22, 23, 24, 25], []), ([26, 23, 25, 0, 1, 2, 3, 4, 5, 6, 7, 8, 9, 10, 11, 12, 13, 14, 15, 16, 17, 18, 19, 20, 21, 22, 23, 24, 25], [23, 26])])
def lo7B : List Nat := [0, 1, 0, 0, 12, 28, 0, 64, 192, 508, 1020, 2047, 0, 4096, 0, 0, 49152, 114688, 0, 262144, 786432, 2080768, 4177920, 8388607, 16383, 33554431, 67108863, 134217727]
theorem lo7tab : rtab .any (opsOf Try.f64 7) = lo7T := by kernel_rfl
theorem lo7bits : waitsOk lo7T.2 lo7B = true := by kernel_rfl
def lo8T : Bool × List (List Nat × List Nat) := (true, [([], []), ([], []), ([0, 1], [0, 1]), ([2], [2]), ([], []), ([4], [4]), ([3, 5], [3, 5])])
def lo8B : List Nat := [0, 0, 3, 7, 0, 16, 63]
theorem lo8tab : rtab .any (opsOf Try.f64 8) = lo8T := by kernel_rfl
theorem lo8bits : waitsOk lo8T.2 lo8B = true := by kernel_rfl
set_option maxHeartbeats 1000000 in
set_option maxRecDepth 100000 in
theorem order_look.calls (o : Array Value) (g : Nat) (nx : Nat → Nat → Bool) (J : List (List S40)) (w : World) (n : Nat) (r : Lre) (ho : IsOrd o g nx) (hs : IsShop w g J) (hn : n = (tasksN J J.length).length) (h10 : n ≤ 10) (hr : lookF nx (timeT (tasksN J J.length)) n = some r) :
    Calls Try.prog 64 #[.agg o] w (LookPost w r) := by
  have HO := Aside0.mk ho
  have HS := Aside0.mk hs
  have HN := Aside0.mk hn
  have HR := Aside0.mk hr
  obtain ⟨A0, c00, At, ct, Af, cf, hsb, _, _, hT, hct, _, _⟩ := id hs
  rw [← hn] at hsb hT hct
  have SB := Aside0.mk hsb
  have ST := Aside0.mk hT
  clear hsb hT
  have hmf : ∀ (fn : Fn) (first cap : Array Value) (w : World), (Instr.makeFunc fn first cap).run Try.prog w = .ok (.func fn first cap) w := fun _ _ _ _ => rfl
  have HG0 := Aside0.mk (blk_alloc (blk_new w (Obj.cells o 77)) (Obj.cells #[.slice none 0 0, .slice none 0 0, .slice none 0 0, .slice none 0 0, .int .i64 0] 118))
  have hg1 := blk_new (w.alloc (Obj.cells o 77)) (Obj.cells #[.slice none 0 0, .slice none 0 0, .slice none 0 0, .slice none 0 0, .int .i64 0] 118)
  rw [show (w.alloc (Obj.cells o 77)).heap.size = w.heap.size + 1 by simp] at hg1
  have HG1 := Aside0.mk hg1
  have HI := Aside0.mk (show (Try.prog.info? 77).map (·.size) = some o.size by rw [ho.size, info77s])
  obtain ⟨r1, e1⟩ : ∃ r1, allF nx (timeT (tasksN J J.length)) n 90 n = some r1 := by
    cases e : allF nx (timeT (tasksN J J.length)) n 90 n with
    | some r1 => exact ⟨r1, rfl⟩
    | none =>
      unfold lookF at hr
      rw [e] at hr
      cases hr
  have E1 := Aside0.mk e1
  have hlong := order_longest.calls o g nx J ((w.alloc (Obj.cells o 77)).alloc (Obj.cells #[.slice none 0 0, .slice none 0 0, .slice none 0 0, .slice none 0 0, .int .i64 0] 118)) n 90 r1 ho (hs.below (below_alloc (below_alloc (Below.refl _ _) _) _)) hn h10 (by decide) e1
  have HL := Aside0.mk hlong
  clear hr ho hs hn hg1 e1 hlong
  cases r1 with
  | cyc l =>
    have h := HR.out
    unfold lookF at h
    rw [E1.out] at h
    obtain rfl : Lre.cyc l.reverse = r := Option.some.inj h
    clear h
    go_enter_defers Try.func64, Try.ntmps64
    go_wp2_with (first
      | (refine wpList_load_row rfl 77 (.tmp 1) rfl w.heap.size rfl 77 o (0, 0) _ HG0.out Try.underlying77 rfl HI.out ?_)
      | (refine HL.out.mono ?_; rintro e w5 ⟨hbl, A, c, rfl, hR⟩; exact look_caught w w5 _ _ #[.slice none 0 0, .slice none 0 0, .slice none 0 0, .slice none 0 0, .int .i64 0] A c l rfl rfl (by have := (allF_cyc n E1.out).2; omega) (below_step (below_alloc (below_alloc (Below.refl _ _) _) _) hbl) (blk_below HG1.out hbl) (by simp) hR))
  | ok S =>
    obtain ⟨r2, e2⟩ : ∃ r2, allF (backN nx n n 0) (timeT (tasksN J J.length)) n 90 n = some r2 := by
      cases e : allF (backN nx n n 0) (timeT (tasksN J J.length)) n 90 n with
      | some r2 => exact ⟨r2, rfl⟩
      | none =>
        have h := HR.out
        unfold lookF at h
        simp only [E1.out, e] at h
        cases h
    have E2 := Aside0.mk e2
    clear e2
    have hback : ∀ (W : World), Below w.heap.size w W → Calls Try.prog 75 #[.agg o] W fun e w' => (∃ o', e = .returned (.agg o') ∧ IsOrd o' g (backN nx n n 0)) ∧ Below W.heap.size W w' := by
      intro W hW
      have h := order_back.calls o g nx J W HO.out (HS.out.below hW) (by rw [← HN.out]; exact h10)
      rw [← HN.out] at h
      exact h
    have HBK := Aside0.mk hback
    clear hback
    cases r2 with
    | cyc l =>
      have h := HR.out
      unfold lookF at h
      rw [E1.out] at h
      simp only [E2.out] at h
      obtain rfl : Lre.cyc l.reverse = r := Option.some.inj h
      clear h
      go_enter_defers Try.func64, Try.ntmps64
      go_wp2_with (first
        | (refine wpList_load_row rfl 77 (.tmp 1) rfl w.heap.size rfl 77 o (0, 0) _ HG0.out Try.underlying77 rfl HI.out ?_)
        | ((with_reducible refine HL.out.mono ?_); rintro e w5 ⟨hbl, gu, gf, rfl, hne, hu1, hf1, lu, lf, ru, rf⟩; have HG5 := Aside0.mk (blk_below HG0.out hbl); have HO5 := Aside0.mk (blk_below HG1.out hbl); have HB5 := Aside0.mk (below_step (below_alloc (below_alloc (Below.refl _ _) _) _) hbl); clear hbl hne hu1 hf1 lu lf ru rf)
        | (refine wpList_load_row rfl 77 (.tmp 1) rfl w.heap.size rfl 77 o (0, 0) _ HG5.out Try.underlying77 rfl HI.out ?_)
        | ((with_reducible refine (HBK.out _ HB5.out).mono ?_); rintro e w6 ⟨⟨o', rfl, ho'⟩, hb6⟩; have HO6 := Aside0.mk ho'; have HB6 := Aside0.mk hb6; clear ho' hb6)
        | ((with_reducible refine (order_longest.calls o' g (backN nx n n 0) J w6 n 90 (.cyc l) HO6.out (HS.out.below (below_step HB5.out HB6.out)) HN.out h10 (by decide) E2.out).mono ?_); rintro e w7 ⟨hbl, A, c, rfl, hR⟩; exact look_caught w w7 _ _ #[.slice none 0 0, .slice none 0 0, .slice none 0 0, .slice none 0 0, .int .i64 0] A c l rfl rfl (by have := (allF_cyc n E2.out).2; omega) (below_step (below_step HB5.out HB6.out) hbl) (blk_below (blk_below HO5.out HB6.out) hbl) (by have h1 := blk_lt HO5.out; have h2 := HB6.out.size; omega) hR))
    | ok S2 =>
      obtain ⟨⟨s0, c0⟩, e3⟩ : ∃ q, pickF S.su S.fr n = some q := by
        cases e : pickF S.su S.fr n with
        | some q => exact ⟨q, rfl⟩
        | none =>
          have h := HR.out
          unfold lookF at h
          simp only [E1.out, E2.out, e] at h
          cases h
      have h := HR.out
      unfold lookF at h
      simp only [E1.out, E2.out, e3] at h
      obtain rfl : Lre.ok (subF S.su (timeT (tasksN J J.length)) n) (subF S2.su (timeT (tasksN J J.length)) n) c0 s0 = r := Option.some.inj h
      have E3 := Aside0.mk e3
      clear h e3
      go_enter_defers Try.func64, Try.ntmps64
      go_wp2_with (first
        | (refine wpList_load_row rfl 77 (.tmp 1) rfl w.heap.size rfl 77 o (0, 0) _ HG0.out Try.underlying77 rfl HI.out ?_)
        | ((with_reducible refine HL.out.mono ?_); rintro e w5 ⟨hbl, gu, gf, rfl, hne, hu1, hf1, lu, lf, ru, rf⟩; have HG5 := Aside0.mk (blk_below HG0.out hbl); have HO5 := Aside0.mk (blk_below HG1.out hbl); have HB5 := Aside0.mk (below_step (below_alloc (below_alloc (Below.refl _ _) _) _) hbl); have H5 := Aside0.mk (And.intro hne (And.intro hu1 (And.intro hf1 (And.intro lu (And.intro lf (And.intro ru rf)))))); clear hbl hne hu1 hf1 lu lf ru rf)
        | (refine wpList_load_row rfl 77 (.tmp 1) rfl w.heap.size rfl 77 o (0, 0) _ HG5.out Try.underlying77 rfl HI.out ?_)
        | ((with_reducible refine (HBK.out _ HB5.out).mono ?_); rintro e w6 ⟨⟨o', rfl, ho'⟩, hb6⟩; have HO6 := Aside0.mk ho'; have HB6 := Aside0.mk hb6; clear ho' hb6)
        | ((with_reducible refine (order_longest.calls o' g (backN nx n n 0) J w6 n 90 (.ok S2) HO6.out (HS.out.below (below_step HB5.out HB6.out)) HN.out h10 (by decide) E2.out).mono ?_); rintro e w7 ⟨hb7, gb, gz, rfl, _, hb1, _, lb, _, rb, _⟩; have lk7 := look_begin HB5.out HB6.out hb7 HG5.out HO5.out H5.out hb1 rb; have LK := Aside0.mk lk7.1; have LO := Aside0.mk lk7.2; have HLU := Aside0.mk H5.out.2.2.2.1; have HLF := Aside0.mk H5.out.2.2.2.2.1; have HLB := Aside0.mk lb; have p1 := (blk_cell lk7.1.bo 0).trans HO.out.ptr; have p2 := (blk_cell (blk_below SB.out lk7.1.below) 1).trans rfl; clear hb7 hb1 lb rb lk7 HG5 HO5 HB5 H5 HO6 HB6))
      clear p1 p2
      go_loopw [28] (fun v w' => ∃ t : Nat, t ≤ n ∧ v = .int .i64 t ∧ ∃ s c vh vt vc, Aside0 (pickF S.su S.fr t = some (s, c)) ∧ Aside0 (Lk w o gu gf gb S.su S.fr S2.su vh vt vc (subF S.su (timeT (tasksN J J.length)) t) (subF S2.su (timeT (tasksN J J.length)) t) c w') ∧ Aside0 (w'.heap[w.heap.size + 1]? = some (.cells #[vh, vt, vc, .slice none 0 0, .int .i64 s] 118 (0, 0)))) (fun v _ => n - (intOf v).toNat)
      case atStart => exact ⟨0, Nat.zero_le _, rfl, 0, [], _, _, _, ⟨rfl⟩, LK, LO⟩
      case round =>
        clear LK LO
        obtain ⟨t, ht, rfl, s, c, vh, vt, vc, HP, LK, LO⟩ := hrel
        by_cases hlt : t < n
        · obtain ⟨ad, x, e1, hx, r1, r2, r3, r4, r5⟩ := at_N89 (Kd.C_below ST.out LK.out.below) t hlt
          cases e1
          have HX := Aside0.mk hx
          clear hx
          go_wp2
          obtain ⟨a, ea⟩ : ∃ a, a = S.su.getD t 0 := ⟨_, rfl⟩
          obtain ⟨b, eb⟩ : ∃ b, b = S2.su.getD t 0 := ⟨_, rfl⟩
          have EA := Aside0.mk ea
          have EB := Aside0.mk eb
          have hti : (t : Int) < (n : Int) := by omega
          have T0 := Aside0.mk (T7.drew (T7.start (x := wrap64 (a - x.f0.f1)) (y := wrap64 (b - x.f0.f1)) (LK.out.alloc (Obj.cells #[.int .i64 x.f0.f0, .int .i64 x.f0.f1, .int .i64 x.f1, .int .i64 x.f2, .int .i64 x.f3] 89)) (blk_alloc LO.out _) (blk_new wr _)))
          have HSU : t < S.su.length := by rw [HLU.out]; exact hlt
          have HSB : t < S2.su.length := by rw [HLB.out]; exact hlt
          clear ea eb r1 r2 r3 r4 r5
          refine start_ (n := 28) (S := fun w' => w'.cell? ⟨w.heap.size + 1, 0, none⟩ = some vh ∧ w'.cell? ⟨w.heap.size + 1, 1, none⟩ = some vt ∧ w'.cell? ⟨gu, t, none⟩ = some (.int .i64 a) ∧ w'.cell? ⟨gb, t, none⟩ = some (.int .i64 b) ∧ w'.cell? ⟨wr.heap.size, 1, none⟩ = some (.int .i64 x.f0.f1)) (ds := [25, 27]) #[false, false, false, false, false, false, false, false, false, false, false, false, false, false, false, false, false, false, false, false, false, false, false, false, false, false, false, false] (by kernel_rfl) rfl rfl (T0.out.S HSU HSB EA.out EB.out rfl) (fun hHeld => ?_)
          refine with_tabW lo7tab lo7bits (fun HT_ HW_ => ?_)
          generalize (wr.alloc (Obj.cells #[.int .i64 x.f0.f0, .int .i64 x.f0.f1, .int .i64 x.f1, .int .i64 x.f2, .int .i64 x.f3] 89)).drew = W0 at T0 hHeld ⊢
          refine pure_ (i := 0) (N := some 33) (v := ?_) (a' := ?_) (qd 28 1) rfl rfl (any_of HT_.out (by kernel_rfl)) (fun _ _ _ h => leaves_put64 (N := some 33) (by decide) h) (Or.inl ⟨by rfl, ?_⟩) ?_ ?_
          rotate_left
          · intro w'
            go_simp
            with_reducible rfl
          rotate_left
          · simp only [Act.put, qa, qb, qc, i64_w, i32_w]
            rfl
          refine pure_ (i := 2) (N := some 35) (v := ?_) (a' := ?_) (qd 28 5) rfl rfl (any_of HT_.out (by kernel_rfl)) (fun _ _ _ h => leaves_put64 (N := some 35) (by decide) h) (Or.inl ⟨by rfl, ?_⟩) ?_ ?_
          rotate_left
          · intro w'
            go_simp
            with_reducible rfl
          rotate_left
          · simp only [Act.put, qa, qb, qc, i64_w, i32_w]
            rfl
          refine pure_ (i := 3) (N := some 36) (v := ?_) (a' := ?_) (qd 28 13) rfl rfl (any_of HT_.out (by kernel_rfl)) (fun _ _ _ h => leaves_put64 (N := some 36) (by decide) h) (Or.inl ⟨by rfl, ?_⟩) ?_ ?_
          rotate_left
          · intro w'
            go_simp
            with_reducible rfl
          rotate_left
          · simp only [Act.put, qa, qb, qc, i64_w, i32_w]
            rfl
          refine pure_ (i := 4) (N := some 37) (v := ?_) (a' := ?_) (qd 28 29) rfl rfl (any_of HT_.out (by kernel_rfl)) (fun _ _ _ h => leaves_put64 (N := some 37) (by decide) h) (Or.inl ⟨by rfl, ?_⟩) ?_ ?_
          rotate_left
          · intro w'
            go_simp
            with_reducible rfl
          rotate_left
          · simp only [Act.put, qa, qb, qc, i64_w, i32_w]
            rfl
          refine pure_ (i := 6) (N := some 39) (v := ?_) (a' := ?_) (qd 28 93) rfl rfl (any_of HT_.out (by kernel_rfl)) (fun _ _ _ h => leaves_put64 (N := some 39) (by decide) h) (Or.inl ⟨by rfl, ?_⟩) ?_ ?_
          rotate_left
          · intro w'
            go_simp
            with_reducible rfl
          rotate_left
          · simp only [Act.put, qa, qb, qc, i64_w, i32_w]
            rfl
          refine pure_ (i := 7) (N := some 40) (v := ?_) (a' := ?_) (qd 28 221) rfl rfl (any_of HT_.out (by kernel_rfl)) (fun _ _ _ h => leaves_put64 (N := some 40) (by decide) h) (Or.inl ⟨by rfl, ?_⟩) ?_ ?_
          rotate_left
          · intro w'
            go_simp
            with_reducible rfl
          rotate_left
          · simp only [Act.put, qa, qb, qc, i64_w, i32_w]
            rfl
          refine pure_ (i := 12) (N := some 45) (v := ?_) (a' := ?_) (qd 28 4317) rfl rfl (any_of HT_.out (by kernel_rfl)) (fun _ _ _ h => leaves_put64 (N := some 45) (by decide) h) (Or.inl ⟨by rfl, ?_⟩) ?_ ?_
          rotate_left
          · intro w'
            go_simp
            with_reducible rfl
          rotate_left
          · simp only [Act.put, qa, qb, qc, i64_w, i32_w]
            rfl
          refine pure_ (i := 14) (N := some 47) (v := ?_) (a' := ?_) (qd 28 20701) rfl rfl (any_of HT_.out (by kernel_rfl)) (fun _ _ _ h => leaves_put64 (N := some 47) (by decide) h) (Or.inl ⟨by rfl, ?_⟩) ?_ ?_
          rotate_left
          · intro w'
            go_simp
            with_reducible rfl
          rotate_left
          · simp only [Act.put, qa, qb, qc, i64_w, i32_w]
            rfl
          refine pure_ (i := 15) (N := some 48) (v := ?_) (a' := ?_) (qd 28 53469) rfl rfl (any_of HT_.out (by kernel_rfl)) (fun _ _ _ h => leaves_put64 (N := some 48) (by decide) h) (Or.inl ⟨by rfl, ?_⟩) ?_ ?_
          rotate_left
          · intro w'
            go_simp
            with_reducible rfl
          rotate_left
          · simp only [Act.put, qa, qb, qc, i64_w, i32_w]
            rfl
          refine pure_ (i := 16) (N := some 49) (v := ?_) (a' := ?_) (qd 28 119005) rfl rfl (any_of HT_.out (by kernel_rfl)) (fun _ _ _ h => leaves_put64 (N := some 49) (by decide) h) (Or.inl ⟨by rfl, ?_⟩) ?_ ?_
          rotate_left
          · intro w'
            go_simp
            with_reducible rfl
          rotate_left
          · simp only [Act.put, qa, qb, qc, i64_w, i32_w]
            rfl
          refine pure_ (i := 18) (N := some 51) (v := ?_) (a' := ?_) (qd 28 381149) rfl rfl (any_of HT_.out (by kernel_rfl)) (fun _ _ _ h => leaves_put64 (N := some 51) (by decide) h) (Or.inl ⟨by rfl, ?_⟩) ?_ ?_
          rotate_left
          · intro w'
            go_simp
            with_reducible rfl
          rotate_left
          · simp only [Act.put, qa, qb, qc, i64_w, i32_w]
            rfl
          refine pure_ (i := 19) (N := some 52) (v := ?_) (a' := ?_) (qd 28 905437) rfl rfl (any_of HT_.out (by kernel_rfl)) (fun _ _ _ h => leaves_put64 (N := some 52) (by decide) h) (Or.inl ⟨by rfl, ?_⟩) ?_ ?_
          rotate_left
          · intro w'
            go_simp
            with_reducible rfl
          rotate_left
          · simp only [Act.put, qa, qb, qc, i64_w, i32_w]
            rfl
          refine take_ (i := 1) (N := some 34) (v := ?_) (a' := ?_) (qd 28 905439) rfl rfl (take_ofW HT_.out HW_.out (by kernel_rfl)) (fun _ _ _ h => leaves_put64 (N := some 34) (by decide) h) (Or.inl ⟨by rfl, ?_⟩) hHeld ?_ ?_
          rotate_left
          · rintro w' ⟨s0, s1, s2, s3, s4⟩
            go_simp
            with_reducible rfl
          rotate_left
          · simp only [Act.put, qa, qb, qc, i64_w, i32_w]
            rfl
          refine take_ (i := 5) (N := some 38) (v := ?_) (a' := ?_) (qd 28 905471) rfl rfl (take_ofW HT_.out HW_.out (by kernel_rfl)) (fun _ _ _ h => leaves_put64 (N := some 38) (by decide) h) (Or.inl ⟨by rfl, ?_⟩) hHeld ?_ ?_
          rotate_left
          · rintro w' ⟨s0, s1, s2, s3, s4⟩
            go_simp
            with_reducible rfl
          rotate_left
          · simp only [Act.put, qa, qb, qc, i64_w, i32_w]
            rfl
          refine take_ (i := 8) (N := some 41) (v := ?_) (a' := ?_) (qd 28 905727) rfl rfl (take_ofW HT_.out HW_.out (by kernel_rfl)) (fun _ _ _ h => leaves_put64 (N := some 41) (by decide) h) (Or.inl ⟨by rfl, ?_⟩) hHeld ?_ ?_
          rotate_left
          · rintro w' ⟨s0, s1, s2, s3, s4⟩
            go_simp
            with_reducible rfl
          rotate_left
          · simp only [Act.put, qa, qb, qc, i64_w, i32_w]
            rfl
          refine pure_ (i := 9) (N := some 42) (v := ?_) (a' := ?_) (qd 28 906239) rfl rfl (any_of HT_.out (by kernel_rfl)) (fun _ _ _ h => leaves_put64 (N := some 42) (by decide) h) (Or.inl ⟨by rfl, ?_⟩) ?_ ?_
          rotate_left
          · intro w'
            go_simp
            with_reducible rfl
          rotate_left
          · simp only [Act.put, qa, qb, qc, i64_w, i32_w]
            rfl
          refine take_ (i := 13) (N := some 46) (v := ?_) (a' := ?_) (qd 28 914431) rfl rfl (take_ofW HT_.out HW_.out (by kernel_rfl)) (fun _ _ _ h => leaves_put64 (N := some 46) (by decide) h) (Or.inl ⟨by rfl, ?_⟩) hHeld ?_ ?_
          rotate_left
          · rintro w' ⟨s0, s1, s2, s3, s4⟩
            go_simp
            with_reducible rfl
          rotate_left
          · simp only [Act.put, qa, qb, qc, i64_w, i32_w]
            rfl
          refine take_ (i := 17) (N := some 50) (v := ?_) (a' := ?_) (qd 28 1045503) rfl rfl (take_ofW HT_.out HW_.out (by kernel_rfl)) (fun _ _ _ h => leaves_put64 (N := some 50) (by decide) h) (Or.inl ⟨by rfl, ?_⟩) hHeld ?_ ?_
          rotate_left
          · rintro w' ⟨s0, s1, s2, s3, s4⟩
            go_simp
            with_reducible rfl
          rotate_left
          · simp only [Act.put, qa, qb, qc, i64_w, i32_w]
            rfl
          refine take_ (i := 20) (N := some 53) (v := ?_) (a' := ?_) (qd 28 2094079) rfl rfl (take_ofW HT_.out HW_.out (by kernel_rfl)) (fun _ _ _ h => leaves_put64 (N := some 53) (by decide) h) (Or.inl ⟨by rfl, ?_⟩) hHeld ?_ ?_
          rotate_left
          · rintro w' ⟨s0, s1, s2, s3, s4⟩
            go_simp
            with_reducible rfl
          rotate_left
          · simp only [Act.put, qa, qb, qc, i64_w, i32_w]
            rfl
          refine pure_ (i := 21) (N := some 54) (v := ?_) (a' := ?_) (qd 28 4191231) rfl rfl (any_of HT_.out (by kernel_rfl)) (fun _ _ _ h => leaves_put64 (N := some 54) (by decide) h) (Or.inl ⟨by rfl, ?_⟩) ?_ ?_
          rotate_left
          · intro w'
            go_simp
            with_reducible rfl
          rotate_left
          · simp only [Act.put, qa, qb, qc, i64_w, i32_w]
            rfl
          refine join_ (σ := Value × Value × Value × Value) 3 (qd 28 33554431) (fun s => [(43, s.1), (44, s.2.1), (55, s.2.2.1), (56, s.2.2.2), (57, .pointer (some ⟨w.heap.size + 1, 0, none⟩))]) (fun q w' => T7 w o gu gf gb S.su S.fr S2.su vh vt q.2.1 q.2.2.2 vc (subF S.su (timeT (tasksN J J.length)) t ++ [wrap64 (a - x.f0.f1)]) (subF S2.su (timeT (tasksN J J.length)) t ++ [wrap64 (b - x.f0.f1)]) c s wr.heap.size #[.int .i64 x.f0.f0, .int .i64 x.f0.f1, .int .i64 x.f1, .int .i64 x.f2, .int .i64 x.f3] (wrap64 (a - x.f0.f1)) (wrap64 (b - x.f0.f1)) none none w') (fun q w2 hF => ?_) (fun hcont => ?_)
          rotate_left
          · refine two_ (i := 10) (j := 22) (Ni := some 43) (Nj := some 55) (qd 28 4192255) (qd 28 8385535) rfl rfl rfl rfl (by kernel_rfl) (by decide) (by decide) (fun K hK => ?_) (fun K hK => ?_)
            · refine value_ (v := .slice (some ⟨W0.heap.size, 0, none⟩) 1 1) (w1 := W0.alloc (Obj.cells #[.int .i64 (wrap64 (a - x.f0.f1))] 3)) (by rfl) rfl (by go_simp) ?_
              have T1 := Aside0.mk T0.out.litA
              obtain ⟨k10, hk10⟩ : ∃ k, k = W0.heap.size := ⟨_, rfl⟩
              rw [← hk10] at T1 ⊢
              refine hK.out _ _ (T1.out.S HSU HSB EA.out EB.out rfl) (fun hHeld => ?_)
              clear hK K hk10
              generalize W0.alloc (Obj.cells #[.int .i64 (wrap64 (a - x.f0.f1))] 3) = W1 at T1 hHeld ⊢
              refine norm_ (a' := ?_) ?_ ?_
              rotate_left
              · show Act.put _ (some 43) _ = _
                simp only [Act.put, qa, qb, qc, i64_w, i32_w]
                rfl
              refine two_ (i := 11) (j := 22) (Ni := some 44) (Nj := some 55) (qd 28 4194303) (qd 28 8386559) rfl rfl rfl rfl (by kernel_rfl) (by decide) (by decide) (fun K hK => ?_) (fun K hK => ?_)
              · refine Kd.R_append_rows_step (Kd.int .i64) (Rr := (Kd.int .i64).K W1) (w0 := w) w.heap.size (by rfl) (.tmp 34) (.tmp 43) 26 3 (.int .i64 0) 8 rfl Try.underlying26 info3 rfl (by decide) (by decide) vh (subF S.su (timeT (tasksN J J.length)) t) [wrap64 (a - x.f0.f1)] (some ⟨k10, 0, none⟩) 1 1 (fun _ => True) (fun _ => False) rfl rfl (Kd.R_mono T1.out.lk.rh (fun _ _ => trivial)) (C_one (T1.out.ba _ rfl).1) (fun _ _ h => h) (fun _ hk => hk.elim) (fun _ _ => trivial) T1.out.lk.below T1.out.lk.below.size (by rw [subF_len]; omega) ?_
                intro v11 W2 hr1 hb1 hg1 hat1
                have T2 := Aside0.mk (T1.out.growH hr1 hb1 hg1 hat1)
                clear hr1 hb1 hg1 hat1
                refine hK.out _ _ (T2.out.S HSU HSB EA.out EB.out rfl) (fun hHeld => ?_)
                clear hK K
                refine norm_ (a' := ?_) ?_ ?_
                rotate_left
                · show Act.put _ (some 44) _ = _
                  simp only [Act.put, qa, qb, qc, i64_w, i32_w]
                  rfl
                refine pure_ (i := 24) (N := some 57) (v := ?_) (a' := ?_) (qd 28 20971519) rfl rfl (any_of HT_.out (by kernel_rfl)) (fun _ _ _ h => leaves_put64 (N := some 57) (by decide) h) (Or.inl ⟨by rfl, ?_⟩) ?_ ?_
                rotate_left
                · intro w'
                  go_simp
                  with_reducible rfl
                rotate_left
                · simp only [Act.put, qa, qb, qc, i64_w, i32_w]
                  rfl
                refine one_ (i := 22) (N := some 55) (qd 28 25165823) rfl rfl (one_of HT_.out (by kernel_rfl)) (by decide) (fun K hK => ?_)
                refine value_ (v := .slice (some ⟨W2.heap.size, 0, none⟩) 1 1) (w1 := W2.alloc (Obj.cells #[.int .i64 (wrap64 (b - x.f0.f1))] 3)) (by rfl) rfl (by go_simp) ?_
                have T3 := Aside0.mk T2.out.litB
                obtain ⟨k22, hk22⟩ : ∃ k, k = W2.heap.size := ⟨_, rfl⟩
                rw [← hk22] at T3 ⊢
                refine hK.out _ _ (T3.out.S HSU HSB EA.out EB.out rfl) (fun hHeld => ?_)
                clear hK K hk22
                generalize W2.alloc (Obj.cells #[.int .i64 (wrap64 (b - x.f0.f1))] 3) = W3 at T3 hHeld ⊢
                refine norm_ (a' := ?_) ?_ ?_
                rotate_left
                · show Act.put _ (some 55) _ = _
                  simp only [Act.put, qa, qb, qc, i64_w, i32_w]
                  rfl
                refine one_ (i := 23) (N := some 56) (qd 28 33554431) rfl rfl (one_of HT_.out (by kernel_rfl)) (by decide) (fun K hK => ?_)
                refine Kd.R_append_rows_step (Kd.int .i64) (Rr := (Kd.int .i64).K W3) (w0 := w) w.heap.size (by rfl) (.tmp 46) (.tmp 55) 26 3 (.int .i64 0) 8 rfl Try.underlying26 info3 rfl (by decide) (by decide) vt (subF S2.su (timeT (tasksN J J.length)) t) [wrap64 (b - x.f0.f1)] (some ⟨k22, 0, none⟩) 1 1 (fun _ => True) (fun _ => False) rfl rfl (Kd.R_mono T3.out.lk.rt (fun _ _ => trivial)) (C_one (T3.out.bb _ rfl).1) (fun _ _ h => h) (fun _ hk => hk.elim) (fun _ _ => trivial) T3.out.lk.below T3.out.lk.below.size (by rw [subF_len]; omega) ?_
                intro v23 W4 hr1 hb1 hg1 hat1
                have T4 := Aside0.mk (T3.out.growT hr1 hb1 hg1 hat1)
                clear hr1 hb1 hg1 hat1
                refine hK.out _ _ (T4.out.S HSU HSB EA.out EB.out rfl) (fun hHeld => ?_)
                clear hK K
                refine norm_ (a' := ?_) ?_ ?_
                rotate_left
                · show Act.put _ (some 56) _ = _
                  simp only [Act.put, qa, qb, qc, i64_w, i32_w]
                  rfl
                have hc := hcont (.slice (some ⟨k10, 0, none⟩) 1 1, v11, .slice (some ⟨k22, 0, none⟩) 1 1, v23) _ T4.out.drop
                simp only [putAll, Act.put, qa, qb, qc, i64_w, i32_w] at hc ⊢
                exact hc
              · refine value_ (v := .slice (some ⟨W1.heap.size, 0, none⟩) 1 1) (w1 := W1.alloc (Obj.cells #[.int .i64 (wrap64 (b - x.f0.f1))] 3)) (by rfl) rfl (by go_simp) ?_
                have T2 := Aside0.mk T1.out.litB
                obtain ⟨k22, hk22⟩ : ∃ k, k = W1.heap.size := ⟨_, rfl⟩
                rw [← hk22] at T2 ⊢
                refine hK.out _ _ (T2.out.S HSU HSB EA.out EB.out rfl) (fun hHeld => ?_)
                clear hK K hk22
                generalize W1.alloc (Obj.cells #[.int .i64 (wrap64 (b - x.f0.f1))] 3) = W2 at T2 hHeld ⊢
                refine norm_ (a' := ?_) ?_ ?_
                rotate_left
                · show Act.put _ (some 55) _ = _
                  simp only [Act.put, qa, qb, qc, i64_w, i32_w]
                  rfl
                refine one_ (i := 11) (N := some 44) (qd 28 8388607) rfl rfl (one_of HT_.out (by kernel_rfl)) (by decide) (fun K hK => ?_)
                refine Kd.R_append_rows_step (Kd.int .i64) (Rr := (Kd.int .i64).K W2) (w0 := w) w.heap.size (by rfl) (.tmp 34) (.tmp 43) 26 3 (.int .i64 0) 8 rfl Try.underlying26 info3 rfl (by decide) (by decide) vh (subF S.su (timeT (tasksN J J.length)) t) [wrap64 (a - x.f0.f1)] (some ⟨k10, 0, none⟩) 1 1 (fun _ => True) (fun _ => False) rfl rfl (Kd.R_mono T2.out.lk.rh (fun _ _ => trivial)) (C_one (T2.out.ba _ rfl).1) (fun _ _ h => h) (fun _ hk => hk.elim) (fun _ _ => trivial) T2.out.lk.below T2.out.lk.below.size (by rw [subF_len]; omega) ?_
                intro v11 W3 hr1 hb1 hg1 hat1
                have T3 := Aside0.mk (T2.out.growH hr1 hb1 hg1 hat1)
                clear hr1 hb1 hg1 hat1
                refine hK.out _ _ (T3.out.S HSU HSB EA.out EB.out rfl) (fun hHeld => ?_)
                clear hK K
                refine norm_ (a' := ?_) ?_ ?_
                rotate_left
                · show Act.put _ (some 44) _ = _
                  simp only [Act.put, qa, qb, qc, i64_w, i32_w]
                  rfl
                refine pure_ (i := 24) (N := some 57) (v := ?_) (a' := ?_) (qd 28 25165823) rfl rfl (any_of HT_.out (by kernel_rfl)) (fun _ _ _ h => leaves_put64 (N := some 57) (by decide) h) (Or.inl ⟨by rfl, ?_⟩) ?_ ?_
                rotate_left
                · intro w'
                  go_simp
                  with_reducible rfl
                rotate_left
                · simp only [Act.put, qa, qb, qc, i64_w, i32_w]
                  rfl
                refine one_ (i := 23) (N := some 56) (qd 28 33554431) rfl rfl (one_of HT_.out (by kernel_rfl)) (by decide) (fun K hK => ?_)
                refine Kd.R_append_rows_step (Kd.int .i64) (Rr := (Kd.int .i64).K W3) (w0 := w) w.heap.size (by rfl) (.tmp 46) (.tmp 55) 26 3 (.int .i64 0) 8 rfl Try.underlying26 info3 rfl (by decide) (by decide) vt (subF S2.su (timeT (tasksN J J.length)) t) [wrap64 (b - x.f0.f1)] (some ⟨k22, 0, none⟩) 1 1 (fun _ => True) (fun _ => False) rfl rfl (Kd.R_mono T3.out.lk.rt (fun _ _ => trivial)) (C_one (T3.out.bb _ rfl).1) (fun _ _ h => h) (fun _ hk => hk.elim) (fun _ _ => trivial) T3.out.lk.below T3.out.lk.below.size (by rw [subF_len]; omega) ?_
                intro v23 W4 hr1 hb1 hg1 hat1
                have T4 := Aside0.mk (T3.out.growT hr1 hb1 hg1 hat1)
                clear hr1 hb1 hg1 hat1
                refine hK.out _ _ (T4.out.S HSU HSB EA.out EB.out rfl) (fun hHeld => ?_)
                clear hK K
                refine norm_ (a' := ?_) ?_ ?_
                rotate_left
                · show Act.put _ (some 56) _ = _
                  simp only [Act.put, qa, qb, qc, i64_w, i32_w]
                  rfl
                have hc := hcont (.slice (some ⟨k10, 0, none⟩) 1 1, v11, .slice (some ⟨k22, 0, none⟩) 1 1, v23) _ T4.out.drop
                simp only [putAll, Act.put, qa, qb, qc, i64_w, i32_w] at hc ⊢
                exact hc
            · refine value_ (v := .slice (some ⟨W0.heap.size, 0, none⟩) 1 1) (w1 := W0.alloc (Obj.cells #[.int .i64 (wrap64 (b - x.f0.f1))] 3)) (by rfl) rfl (by go_simp) ?_
              have T1 := Aside0.mk T0.out.litB
              obtain ⟨k22, hk22⟩ : ∃ k, k = W0.heap.size := ⟨_, rfl⟩
              rw [← hk22] at T1 ⊢
              refine hK.out _ _ (T1.out.S HSU HSB EA.out EB.out rfl) (fun hHeld => ?_)
              clear hK K hk22
              generalize W0.alloc (Obj.cells #[.int .i64 (wrap64 (b - x.f0.f1))] 3) = W1 at T1 hHeld ⊢
              refine norm_ (a' := ?_) ?_ ?_
              rotate_left
              · show Act.put _ (some 55) _ = _
                simp only [Act.put, qa, qb, qc, i64_w, i32_w]
                rfl
              refine one_ (i := 10) (N := some 43) (qd 28 8386559) rfl rfl (one_of HT_.out (by kernel_rfl)) (by decide) (fun K hK => ?_)
              refine value_ (v := .slice (some ⟨W1.heap.size, 0, none⟩) 1 1) (w1 := W1.alloc (Obj.cells #[.int .i64 (wrap64 (a - x.f0.f1))] 3)) (by rfl) rfl (by go_simp) ?_
              have T2 := Aside0.mk T1.out.litA
              obtain ⟨k10, hk10⟩ : ∃ k, k = W1.heap.size := ⟨_, rfl⟩
              rw [← hk10] at T2 ⊢
              refine hK.out _ _ (T2.out.S HSU HSB EA.out EB.out rfl) (fun hHeld => ?_)
              clear hK K hk10
              generalize W1.alloc (Obj.cells #[.int .i64 (wrap64 (a - x.f0.f1))] 3) = W2 at T2 hHeld ⊢
              refine norm_ (a' := ?_) ?_ ?_
              rotate_left
              · show Act.put _ (some 43) _ = _
                simp only [Act.put, qa, qb, qc, i64_w, i32_w]
                rfl
              refine one_ (i := 11) (N := some 44) (qd 28 8388607) rfl rfl (one_of HT_.out (by kernel_rfl)) (by decide) (fun K hK => ?_)
              refine Kd.R_append_rows_step (Kd.int .i64) (Rr := (Kd.int .i64).K W2) (w0 := w) w.heap.size (by rfl) (.tmp 34) (.tmp 43) 26 3 (.int .i64 0) 8 rfl Try.underlying26 info3 rfl (by decide) (by decide) vh (subF S.su (timeT (tasksN J J.length)) t) [wrap64 (a - x.f0.f1)] (some ⟨k10, 0, none⟩) 1 1 (fun _ => True) (fun _ => False) rfl rfl (Kd.R_mono T2.out.lk.rh (fun _ _ => trivial)) (C_one (T2.out.ba _ rfl).1) (fun _ _ h => h) (fun _ hk => hk.elim) (fun _ _ => trivial) T2.out.lk.below T2.out.lk.below.size (by rw [subF_len]; omega) ?_
              intro v11 W3 hr1 hb1 hg1 hat1
              have T3 := Aside0.mk (T2.out.growH hr1 hb1 hg1 hat1)
              clear hr1 hb1 hg1 hat1
              refine hK.out _ _ (T3.out.S HSU HSB EA.out EB.out rfl) (fun hHeld => ?_)
              clear hK K
              refine norm_ (a' := ?_) ?_ ?_
              rotate_left
              · show Act.put _ (some 44) _ = _
                simp only [Act.put, qa, qb, qc, i64_w, i32_w]
                rfl
              refine pure_ (i := 24) (N := some 57) (v := ?_) (a' := ?_) (qd 28 25165823) rfl rfl (any_of HT_.out (by kernel_rfl)) (fun _ _ _ h => leaves_put64 (N := some 57) (by decide) h) (Or.inl ⟨by rfl, ?_⟩) ?_ ?_
              rotate_left
              · intro w'
                go_simp
                with_reducible rfl
              rotate_left
              · simp only [Act.put, qa, qb, qc, i64_w, i32_w]
                rfl
              refine one_ (i := 23) (N := some 56) (qd 28 33554431) rfl rfl (one_of HT_.out (by kernel_rfl)) (by decide) (fun K hK => ?_)
              refine Kd.R_append_rows_step (Kd.int .i64) (Rr := (Kd.int .i64).K W3) (w0 := w) w.heap.size (by rfl) (.tmp 46) (.tmp 55) 26 3 (.int .i64 0) 8 rfl Try.underlying26 info3 rfl (by decide) (by decide) vt (subF S2.su (timeT (tasksN J J.length)) t) [wrap64 (b - x.f0.f1)] (some ⟨k22, 0, none⟩) 1 1 (fun _ => True) (fun _ => False) rfl rfl (Kd.R_mono T3.out.lk.rt (fun _ _ => trivial)) (C_one (T3.out.bb _ rfl).1) (fun _ _ h => h) (fun _ hk => hk.elim) (fun _ _ => trivial) T3.out.lk.below T3.out.lk.below.size (by rw [subF_len]; omega) ?_
              intro v23 W4 hr1 hb1 hg1 hat1
              have T4 := Aside0.mk (T3.out.growT hr1 hb1 hg1 hat1)
              clear hr1 hb1 hg1 hat1
              refine hK.out _ _ (T4.out.S HSU HSB EA.out EB.out rfl) (fun hHeld => ?_)
              clear hK K
              refine norm_ (a' := ?_) ?_ ?_
              rotate_left
              · show Act.put _ (some 56) _ = _
                simp only [Act.put, qa, qb, qc, i64_w, i32_w]
                rfl
              have hc := hcont (.slice (some ⟨k10, 0, none⟩) 1 1, v11, .slice (some ⟨k22, 0, none⟩) 1 1, v23) _ T4.out.drop
              simp only [putAll, Act.put, qa, qb, qc, i64_w, i32_w] at hc ⊢
              exact hc
          obtain ⟨u43, v1, u55, v2⟩ := q
          obtain ⟨Ah, mh, ch, rfl⟩ : ∃ A m c, v1 = .slice A m c := by
            obtain ⟨A, c, e⟩ := Kd.R_slice hF.lk.rh
            exact ⟨A, _, c, e⟩
          obtain ⟨Ai, mi, ci, rfl⟩ : ∃ A m c, v2 = .slice A m c := by
            obtain ⟨A, c, e⟩ := Kd.R_slice hF.lk.rt
            exact ⟨A, _, c, e⟩
          have hgx : wr.heap.size ≠ w.heap.size + 1 := by have := blk_lt LO.out; omega
          have T9 := Aside0.mk hF
          clear hF T0 hHeld
          refine norm_ (a' := ?_) ?_ ?_
          rotate_left
          · simp only [putAll, Act.put, qa, qb, qc, i64_w, i32_w]
            rfl
          refine last_ (i := 25) (N := none) (qd 28 67108863) rfl rfl (one_of HT_.out (by kernel_rfl)) (by decide) (fun K hK => ?_)
          have hcz := (blk_cell T9.out.out 0).trans rfl
          have hfz := blk_frozen T9.out.out 0
          refine skip_ (w1 := ?_) (by rfl) rfl ?_ ?_
          rotate_left
          · go_simp
            rfl
          refine hK.out _ _ ?_
          have L9 := Aside0.mk (T9.out.lk.out 0 (.slice Ah mh ch))
          have O9 := Aside0.mk (blk_put T9.out.out 0 (.slice Ah mh ch) rfl)
          have X9 := Aside0.mk (blk_far (p := ⟨w.heap.size + 1, 0, none⟩) T9.out.bx hgx (.slice Ah mh ch))
          clear hK K hcz hfz T9
          generalize w2.setCell ⟨w.heap.size + 1, 0, none⟩ (.slice Ah mh ch) = w3 at L9 O9 X9 ⊢
          refine pure_ (i := 26) (N := some 58) (v := ?_) (a' := ?_) (qd 28 134217727) rfl rfl (any_of HT_.out (by kernel_rfl)) (fun _ _ _ h => leaves_put64 (N := some 58) (by decide) h) (Or.inl ⟨by rfl, ?_⟩) ?_ ?_
          rotate_left
          · intro w'
            go_simp
            with_reducible rfl
          rotate_left
          · simp only [Act.put, qa, qb, qc, i64_w, i32_w]
            rfl
          refine last_ (i := 27) (N := none) (qd 28 268435455) rfl rfl (one_of HT_.out (by kernel_rfl)) (by decide) (fun K hK => ?_)
          have hcz := (blk_cell O9.out 1).trans rfl
          have hfz := blk_frozen O9.out 1
          refine skip_ (w1 := ?_) (by rfl) rfl ?_ ?_
          rotate_left
          · go_simp
            rfl
          refine hK.out _ _ ?_
          have LA := Aside0.mk (L9.out.out 1 (.slice Ai mi ci))
          have OA := Aside0.mk (blk_put O9.out 1 (.slice Ai mi ci) rfl)
          have XA := Aside0.mk (blk_far (p := ⟨w.heap.size + 1, 1, none⟩) X9.out hgx (.slice Ai mi ci))
          clear hK K hcz hfz L9 O9 X9
          refine done_ (done_of HT_.out (by kernel_rfl)) ?_
          generalize w3.setCell ⟨w.heap.size + 1, 1, none⟩ (.slice Ai mi ci) = w4 at LA OA XA ⊢
          clear hgx LK LO
          have e1 : subF S.su (timeT (tasksN J J.length)) t ++ [wrap64 (a - x.f0.f1)] = subF S.su (timeT (tasksN J J.length)) (t + 1) := by
            rw [subF, EA.out, HX.out]
            rfl
          have e2 : subF S2.su (timeT (tasksN J J.length)) t ++ [wrap64 (b - x.f0.f1)] = subF S2.su (timeT (tasksN J J.length)) (t + 1) := by
            rw [subF, EB.out, HX.out]
            rfl
          rw [e1, e2] at LA
          clear e1 e2 EB XA
          go_wp2
          have LB := Aside0.mk LA.out.drew
          have OB := Aside0.mk (blk_drew OA.out)
          clear LA OA
          have q1 := (blk_cell LB.out.ru t).trans (rowI_get S.su t HSU)
          have q2 := (blk_cell OB.out 4).trans rfl
          rw [← EA.out] at q1
          refine start_ (n := 7) (S := fun w' => w'.cell? ⟨gu, t, none⟩ = some (.int .i64 a) ∧ w'.cell? ⟨w.heap.size + 1, 4, none⟩ = some (.int .i64 s)) (ds := []) #[false, false, false, false, false, false, false] (by kernel_rfl) rfl rfl ⟨q1, q2⟩ (fun hHeld => ?_)
          refine with_tabW lo8tab lo8bits (fun HT_ HW_ => ?_)
          generalize w4.drew = w5 at LB OB hHeld ⊢
          refine pure_ (i := 0) (N := some 59) (v := ?_) (a' := ?_) (qd 7 1) rfl rfl (any_of HT_.out (by kernel_rfl)) (fun _ _ _ h => leaves_put64 (N := some 59) (by decide) h) (Or.inl ⟨by rfl, ?_⟩) ?_ ?_
          rotate_left
          · intro w'
            go_simp
            with_reducible rfl
          rotate_left
          · simp only [Act.put, qa, qb, qc, i64_w, i32_w]
            rfl
          refine pure_ (i := 1) (N := some 60) (v := ?_) (a' := ?_) (qd 7 3) rfl rfl (any_of HT_.out (by kernel_rfl)) (fun _ _ _ h => leaves_put64 (N := some 60) (by decide) h) (Or.inl ⟨by rfl, ?_⟩) ?_ ?_
          rotate_left
          · intro w'
            go_simp
            with_reducible rfl
          rotate_left
          · simp only [Act.put, qa, qb, qc, i64_w, i32_w]
            rfl
          refine pure_ (i := 2) (N := some 61) (v := ?_) (a' := ?_) (qd 7 7) rfl rfl (any_of HT_.out (by kernel_rfl)) (fun _ _ _ h => leaves_put64 (N := some 61) (by decide) h) (Or.inl ⟨by rfl, ?_⟩) ?_ ?_
          rotate_left
          · intro w'
            go_simp
            with_reducible rfl
          rotate_left
          · simp only [Act.put, qa, qb, qc, i64_w, i32_w]
            rfl
          refine pure_ (i := 4) (N := some 63) (v := ?_) (a' := ?_) (qd 7 23) rfl rfl (any_of HT_.out (by kernel_rfl)) (fun _ _ _ h => leaves_put64 (N := some 63) (by decide) h) (Or.inl ⟨by rfl, ?_⟩) ?_ ?_
          rotate_left
          · intro w'
            go_simp
            with_reducible rfl
          rotate_left
          · simp only [Act.put, qa, qb, qc, i64_w, i32_w]
            rfl
          refine take_ (i := 3) (N := some 62) (v := ?_) (a' := ?_) (qd 7 31) rfl rfl (take_ofW HT_.out HW_.out (by kernel_rfl)) (fun _ _ _ h => leaves_put64 (N := some 62) (by decide) h) (Or.inl ⟨by rfl, ?_⟩) hHeld ?_ ?_
          rotate_left
          · rintro w' ⟨s0, s1⟩
            go_simp
            with_reducible rfl
          rotate_left
          · simp only [Act.put, qa, qb, qc, i64_w, i32_w]
            rfl
          refine take_ (i := 5) (N := some 64) (v := ?_) (a' := ?_) (qd 7 63) rfl rfl (take_ofW HT_.out HW_.out (by kernel_rfl)) (fun _ _ _ h => leaves_put64 (N := some 64) (by decide) h) (Or.inl ⟨by rfl, ?_⟩) hHeld ?_ ?_
          rotate_left
          · rintro w' ⟨s0, s1⟩
            go_simp
            with_reducible rfl
          rotate_left
          · simp only [Act.put, qa, qb, qc, i64_w, i32_w]
            rfl
          refine pure_ (i := 6) (N := some 65) (v := ?_) (a' := ?_) (qd 7 127) rfl rfl (any_of HT_.out (by kernel_rfl)) (fun _ _ _ h => leaves_put64 (N := some 65) (by decide) h) (Or.inl ⟨by rfl, ?_⟩) ?_ ?_
          rotate_left
          · intro w'
            go_simp
            with_reducible rfl
          rotate_left
          · simp only [Act.put, qa, qb, qc, i64_w, i32_w]
            rfl
          refine done_ (done_of HT_.out (by kernel_rfl)) ?_
          clear hHeld q1 q2
          by_cases hc : s < a
          · obtain ⟨full, hfull⟩ : ∃ full, chainF S.fr 90 t = some full := by
              cases e : chainF S.fr 90 t with
              | some l => exact ⟨l, rfl⟩
              | none =>
                have h1 : pickF S.su S.fr (t + 1) = none := by
                  rw [pickF, HP.out]
                  show (if S.su.getD t 0 > s then _ else _) = _
                  rw [← EA.out, if_pos hc, e]
                  rfl
                have h2 := pickF_none h1 (n - (t + 1))
                rw [show t + 1 + (n - (t + 1)) = n by omega, E3.out] at h2
                cases h2
            have HFU := Aside0.mk hfull
            clear hfull
            have c4 := (blk_cell OB.out 4).trans rfl
            have f4 := blk_frozen OB.out 4
            have c2 := (blk_cell OB.out 2).trans rfl
            have f2 := blk_frozen OB.out 2
            have q1 := (blk_cell LB.out.ru t).trans (rowI_get S.su t HSU)
            rw [← EA.out] at q1
            go_wp2
            have LC := Aside0.mk ((LB.out.out 4 (.int .i64 a)).out 2 (.slice none 0 0)).dropC
            have OC := Aside0.mk (blk_put (blk_put OB.out 4 (.int .i64 a) rfl) 2 (.slice none 0 0) rfl)
            clear c4 f4 c2 f2 q1 LB OB
            rw [show decide (s < a) = true from decide_eq_true hc]
            go_loopw [9] (fun v w' => ∃ p : Int, v = .int .i64 p ∧ ∃ l A m c f rest, Aside0 (chainF S.fr f p = some rest ∧ l ++ rest = full) ∧ Aside0 (Lk w o gu gf gb S.su S.fr S2.su (.slice Ah mh ch) (.slice Ai mi ci) (.slice A m c) (subF S.su (timeT (tasksN J J.length)) (t + 1)) (subF S2.su (timeT (tasksN J J.length)) (t + 1)) l w') ∧ Aside0 (w'.heap[w.heap.size + 1]? = some (.cells #[.slice Ah mh ch, .slice Ai mi ci, .slice A m c, .slice none 0 0, .int .i64 a] 118 (0, 0)))) (fun _ w' => full.length - lenAt w' ⟨w.heap.size + 1, 2, none⟩)
            case atStart => exact ⟨(t : Int), rfl, [], none, 0, 0, 90, full, ⟨HFU.out, rfl⟩, LC, OC⟩
            case round =>
              clear LC OC
              obtain ⟨p, rfl, l, A, m, c1, f, rest, HC, LC, OC⟩ := hrel
              by_cases hp : 0 ≤ p
              · obtain ⟨k, rfl⟩ : ∃ k : Nat, p = (k : Int) := ⟨p.toNat, by omega⟩
                obtain ⟨f', rest', rfl, hk, rfl, hch⟩ : ∃ f' rest', f = f' + 1 ∧ k < S.fr.length ∧ rest = (k : Int) :: rest' ∧ chainF S.fr f' (S.fr.getD k 0) = some rest' := by
                  have h := HC.out.1
                  cases f with
                  | zero => cases h
                  | succ f' =>
                    rw [chainF, if_neg (by omega)] at h
                    split at h
                    · obtain ⟨l', e, e2⟩ := Option.map_eq_some_iff.1 h
                      exact ⟨f', l', rfl, by omega, e2.symm, e⟩
                    · cases h
                have HCH := Aside0.mk hch
                have hkn : (k : Int) < (n : Int) := by have := HLF.out; omega
                have hfl := HC.out.2
                have hlen : l.length + 1 ≤ full.length := by rw [← hfl]; simp
                have hl90 : full.length ≤ 90 := chainF_len _ _ _ HFU.out
                have e9 : l ++ [(k : Int)] ++ rest' = full := by rw [← hfl]; simp
                have E9 := Aside0.mk e9
                clear hch hfl e9
                obtain ⟨p', ep⟩ : ∃ p', p' = S.fr.getD k 0 := ⟨_, rfl⟩
                have c2 := (blk_cell OC.out 2).trans rfl
                have EP := Aside0.mk ep
                clear ep
                go_wp2_with (first
                  | ((with_reducible refine gate_builtin (b := .append) (xs := #[.tmp 80, .tmp 82]) rfl ?_); at_builtin; refine Kd.R_append (Kd.int .i64) (w0 := w) w.heap.size rfl (.tmp 80) (.tmp 82) 26 3 (.int .i64 0) 8 rfl Try.underlying26 info3 rfl (by decide) (by decide) (.slice A m c1) l (k : Int) [.int .i64 (k : Int)] (fun _ => True) (fun _ => False) rfl rfl ?aP (fun _ hk => hk.elim) (fun _ _ => trivial) (Kd.R_mono LC.out.rc (fun _ _ => trivial)) LC.out.below LC.out.below.size ?aL ?_; (case aP => exact rfl); (case aL => omega); intro v4 w4 ho hb hg hat; obtain ⟨A4, m4, c4, rfl⟩ : ∃ A m c, v4 = .slice A m c := (by obtain ⟨A, c, e⟩ := Kd.R_slice ho; exact ⟨A, _, c, e⟩); have LD := Aside0.mk (LC.out.growC ho hb hg hat); have hne : some (w.heap.size + 1) ≠ (Value.slice A m c1).ownBlock := (fun he => by have := LC.out.fc _ he.symm; omega); have OD := Aside0.mk (blk_grown OC.out hg hne); have q5 := (blk_cell OD.out 2).trans rfl; have q6 := blk_frozen OD.out 2; have q7 := (blk_cell (LD.out.out 2 (.slice A4 m4 c4)).rf k).trans (rowI_get S.fr k hk); rw [← EP.out] at q7; clear ho hb hg hat hne))
                have hm4 : m4 = l.length + 1 := by
                  obtain ⟨h1, _⟩ := Kd.R_reads' LD.out.rc
                  simpa using h1
                have hm : m = l.length := (Kd.R_reads' LC.out.rc).1
                have OE := blk_put OD.out 2 (.slice A4 m4 c4) rfl
                refine ⟨⟨p', rfl, l ++ [(k : Int)], A4, m4, c4, f', rest', ⟨by rw [EP.out]; exact HCH.out, E9.out⟩, ⟨LD.out.out 2 _⟩, ⟨OE⟩⟩, ?_⟩
                have z1 : lenAt (w4.setCell ⟨w.heap.size + 1, 2, none⟩ (.slice A4 m4 c4)) ⟨w.heap.size + 1, 2, none⟩ = m4 := by
                  unfold lenAt
                  rw [(blk_cell OE 2).trans rfl]
                  rfl
                have z2 : lenAt wr ⟨w.heap.size + 1, 2, none⟩ = m := by
                  unfold lenAt
                  rw [(blk_cell OC.out 2).trans rfl]
                  rfl
                rw [z1, z2]
                omega
              · have hrest : rest = [] := by
                  have h := HC.out.1
                  cases f with
                  | zero => cases h
                  | succ f' =>
                    rw [chainF, if_pos (by omega)] at h
                    exact (Option.some.inj h).symm
                have hlf : l = full := by
                  have h := HC.out.2
                  rw [hrest, List.append_nil] at h
                  exact h
                subst hlf
                have hl90 : l.length ≤ 90 := chainF_len _ _ _ HFU.out
                obtain rfl : m = l.length := (Kd.R_reads' LC.out.rc).1
                have c2 := (blk_cell OC.out 2).trans rfl
                have HREV := Aside0.mk (slices_Reverse_int_int.calls (l.length + 1) (fun k => some k = (Value.slice A l.length c1).ownBlock) (.slice A l.length c1) l l.reverse w wr LC.out.below LC.out.rc (reverse_f l (by omega)))
                clear hrest
                go_wp2_with (first
                  | ((with_reducible refine HREV.out.mono ?_); rintro e w6 ⟨rfl, hr6, hb6, hk6⟩; have LD := Aside0.mk (LC.out.turnC hr6 hb6 hk6); have OD := Aside0.mk (blk_kept OC.out hk6 (fun he => by have := LC.out.fc _ he.symm; omega)); clear hr6 hb6 hk6))
                exact ⟨⟨t + 1, by omega, rfl, a, l.reverse, _, _, _, ⟨by rw [pickF, HP.out]; show (if S.su.getD t 0 > s then _ else _) = _; rw [← EA.out, if_pos hc, HFU.out]; rfl⟩, LD, OD⟩, by simp [intOf]; omega⟩
          · go_wp2
            exact ⟨⟨t + 1, by omega, rfl, s, c, _, _, vc, ⟨by rw [pickF, HP.out]; exact if_neg (by rw [← EA.out]; exact hc)⟩, LB, ⟨OB.out⟩⟩, by simp [intOf]; omega⟩
        · obtain rfl : t = n := by omega
          obtain ⟨rfl, rfl⟩ : s = s0 ∧ c = c0 := by
            have h := HP.out
            rw [E3.out] at h
            cases h
            exact ⟨rfl, rfl⟩
          obtain ⟨A1, m1, c1, rfl⟩ : ∃ A m c, vh = .slice A m c := by
            obtain ⟨A, c, e⟩ := Kd.R_slice LK.out.rh
            exact ⟨A, _, c, e⟩
          obtain ⟨A2, m2, c2, rfl⟩ : ∃ A m c, vt = .slice A m c := by
            obtain ⟨A, c, e⟩ := Kd.R_slice LK.out.rt
            exact ⟨A, _, c, e⟩
          obtain ⟨A3, m3, c3, rfl⟩ : ∃ A m c, vc = .slice A m c := by
            obtain ⟨A, c, e⟩ := Kd.R_slice LK.out.rc
            exact ⟨A, _, c, e⟩
          go_wp2_with (first
            | (refine wpList_load_row rfl 118 (.tmp 2) rfl (w.heap.size + 1) rfl 118 #[.slice A1 m1 c1, .slice A2 m2 c2, .slice A3 m3 c3, .slice none 0 0, .int .i64 s] (0, 0) _ LO.out Try.underlying118 rfl info118 ?_)
            | (refine wpList_store_row rfl 118 (.tmp 2) (.tmp 89) rfl (w.heap.size + 1) #[.slice A1 m1 c1, .slice A2 m2 c2, .slice A3 m3 c3, .slice none 0 0, .int .i64 s] rfl rfl 118 #[.slice A1 m1 c1, .slice A2 m2 c2, .slice A3 m3 c3, .slice none 0 0, .int .i64 s] LO.out info118 rfl ?h6 ?_; (case h6 => simp [Value.oneCell'])))
          have hr : ∀ {v : Value} {l : List Int}, Kd.R (Kd.int .i64) 3 wr w.heap.size (fun k => some k = v.ownBlock) v l → (∀ k, v.ownBlock = some k → w.heap.size + 2 ≤ k ∧ k ≠ gu ∧ k ≠ gf ∧ k ≠ gb) → Kd.R (Kd.int .i64) 3 (wr.setRow (w.heap.size + 1) #[.slice A1 m1 c1, .slice A2 m2 c2, .slice A3 m3 c3, .slice none 0 0, .int .i64 s]) w.heap.size (fun _ => True) v l :=
            fun h f => Kd.R_mono (Kd.R_move h (fun k hk => setRow_other _ _ _ _ (by have := f k hk.symm; omega))) (fun _ _ => trivial)
          exact look_done w _ _ _ _ _ _ _ _ _ _ rfl rfl (setRow_heap _ _ _ _ _ _ LO.out) (below_setRow LK.out.below (by omega) _) (hr LK.out.rh LK.out.fh) (hr LK.out.rt LK.out.ft) (hr LK.out.rc LK.out.fc)
end Go.Proofs.Ytipkhaicjjeieaa.V
