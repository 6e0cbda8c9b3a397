/- Walks of the shop's functions, twelfth text: a visit of the search for the longest chains that goes on, walked. -/
import Derived.Test.YtipkhaicjjeieaaKLG0
namespace Go.Proofs.Ytipkhaicjjeieaa.V
set_option linter.unusedSimpArgs false
set_option linter.unusedVariables false
open Go.RowKit Go.Proofs.YtipkhaicjjeieaaW.PrintWords Go.Proofs.YtipkhaicjjeieaaW.PrintLast Go.Proofs.YtipkhaicjjeieaaW.PrintMore
theorem below_is {w0 W : World} {b : Nat} (e : b = w0.heap.size) (h : Below b w0 W) : Below w0.heap.size w0 W := e ▸ h
def shutR (tm : Nat → Int) (t : Nat) : Option Dre → Option Dre
  | some (.ok S') => some (.ok (shutF tm t S'))
  | r => r
theorem visitF_open {nx : Nat → Nat → Bool} {tm : Nat → Int} {n f t : Nat} {S : Dst} (h1 : S.st.getD t 0 ≠ 1) (h2 : S.st.getD t 0 ≠ 2) : visitF nx tm n (f + 1) t S = shutR tm t (loopF (visitF nx tm n f) nx t (openF t S) n) := by
  rw [visitF, if_neg h1, if_neg h2]
  match loopF (visitF nx tm n f) nx t (openF t S) n with
  | none => rfl
  | some (.ok _) => rfl
  | some (.cyc _) => rfl
theorem loopF_next {V : Nat → Dst → Option Dre} {nx : Nat → Nat → Bool} {t i n : Nat} {S Si : Dst} (hl : loopF V nx t S i = some (.ok Si)) (hb : nx i t = true) (hi : i < n) {r : Option Dre} (hv : V i Si = r) (hr : ∀ S', r ≠ some (.ok S')) : loopF V nx t S n = r := by
  have e : loopF V nx t S (i + 1) = r := by
    rw [loopF, hl, stepF, if_pos hb, hv]
    match r, hr with
    | none, _ => rfl
    | some (.cyc _), _ => rfl
    | some (.ok S'), hr => exact absurd rfl (hr S')
  have := loopF_stay e hr (n - (i + 1))
  rwa [show i + 1 + (n - (i + 1)) = n by omega] at this
theorem loopF_ok {V : Nat → Dst → Option Dre} {nx : Nat → Nat → Bool} {t i : Nat} {S Si S' : Dst} (hl : loopF V nx t S i = some (.ok Si)) (hb : nx i t = true) (hv : V i Si = some (.ok S')) : loopF V nx t S (i + 1) = some (.ok (topF t i S')) := by
  rw [loopF, hl, stepF, if_pos hb, hv]
theorem loopF_no {V : Nat → Dst → Option Dre} {nx : Nat → Nat → Bool} {t i : Nat} {S Si : Dst} (hl : loopF V nx t S i = some (.ok Si)) (hb : ¬ nx i t = true) : loopF V nx t S (i + 1) = some (.ok Si) := by
  rw [loopF, hl, stepF, if_neg hb]
def vi4T : Bool × List (List Nat × List Nat) := (true, [([], []), ([], []), ([], []), ([], []), ([0, 1, 0, 1], [0, 1]), ([4, 0, 1], [4]), ([2, 3, 0, 1, 2, 3, 4, 5], [2, 3]), ([6, 5, 0, 1, 2, 3, 4, 5], [6])])
def vi4B : List Nat := [0, 0, 0, 0, 3, 19, 63, 127]
theorem vi4tab : rtab .any (opsOf Try.f78 4) = vi4T := by kernel_rfl
theorem vi4bits : waitsOk vi4T.2 vi4B = true := by kernel_rfl
def vi11T : Bool × List (List Nat × List Nat) := (true, [([], []), ([], []), ([0, 1], [0, 1]), ([2], [2]), ([], []), ([], []), ([4, 5], [4, 5]), ([6], [6]), ([3, 7], [3, 7])])
def vi11B : List Nat := [0, 0, 3, 7, 0, 0, 48, 112, 255]
theorem vi11tab : rtab .any (opsOf Try.f78 11) = vi11T := by kernel_rfl
theorem vi11bits : waitsOk vi11T.2 vi11B = true := by kernel_rfl
def vi12T : Bool × List (List Nat × List Nat) := (true, [([], []), ([], []), ([], []), ([], []), ([], []), ([], []), ([4, 5], [4, 5]), ([6], [6]), ([], []), ([0, 1, 0, 1, 4, 5, 6, 7], [0, 1]), ([9, 7, 0, 1, 4, 5, 6, 7], [7, 9]), ([2, 3, 0, 1, 2, 3, 4, 5, 6, 7, 8, 9, 10], [2, 3]), ([11, 8, 10, 0, 1, 2, 3, 4, 5, 6, 7, 8, 9, 10], [8, 11])])
def vi12B : List Nat := [0, 0, 0, 0, 0, 0, 48, 112, 0, 243, 755, 2047, 4095]
theorem vi12tab : rtab .any (opsOf Try.f78 12) = vi12T := by kernel_rfl
theorem vi12bits : waitsOk vi12T.2 vi12B = true := by kernel_rfl
def vi15T : Bool × List (List Nat × List Nat) := (true, [([], []), ([], []), ([0, 1], [0, 1]), ([2], [2]), ([], []), ([4], [4]), ([5], [5]), ([6], [6]), ([7], [7]), ([], []), ([8, 9], [8, 9]), ([10], [10]), ([11], [11]), ([12], [12]), ([3, 13], [3, 13]), ([0, 1, 0, 1, 2, 3, 4, 5, 6, 7, 8, 9, 10, 11, 12, 13, 14], [0, 1]), ([15, 14, 0, 1, 2, 3, 4, 5, 6, 7, 8, 9, 10, 11, 12, 13, 14], [14, 15])])
def vi15B : List Nat := [0, 0, 3, 7, 0, 16, 48, 112, 240, 0, 1008, 2032, 4080, 8176, 16383, 32767, 65535]
theorem vi15tab : rtab .any (opsOf Try.f78 15) = vi15T := by kernel_rfl
theorem vi15bits : waitsOk vi15T.2 vi15B = true := by kernel_rfl
set_option maxHeartbeats 8000000 in
set_option maxRecDepth 100000 in
theorem visit_open (w0 : World) (B gu gf g n : Nat) (o : Array Value) (nx : Nat → Nat → Bool) (J : List (List S40)) (hB : B = w0.heap.size) (hs : IsShop w0 g J) (hn : n = (tasksN J J.length).length) (h10 : n ≤ 10) (f : Nat) (IH : VisitOK w0 B gu gf g n o nx (timeT (tasksN J J.length)) f)
    (t : Nat) (S : Dst) (r : Dre) (w : World) (hd : Dfs w0 B gu gf g o nx n w S) (hinv : InvF S) (ht : t < n) (hp : S.pa.length + f ≤ 99) (h1 : S.st.getD t 0 ≠ 1) (h2 : S.st.getD t 0 ≠ 2)
    (hr : visitF nx (timeT (tasksN J J.length)) n (f + 1) t S = some r) : Calls Try.prog 78 (VisitArgs B t) w (VisitPost w0 B gu gf g o nx n r) := by
  rw [visitF_open h1 h2] at hr
  obtain ⟨x, ex⟩ : ∃ x, x = S.st.getD t 0 := ⟨_, rfl⟩
  have q1 : w.cell? ⟨B + 7, 0, none⟩ = some (.slice (some ⟨B + 6, 0, none⟩) n n) := (blk_cell hd.ps 0).trans rfl
  have q2 := (blk_cell hd.rs t).trans (rowI_get S.st t (by rw [hd.lens.1]; exact ht))
  rw [← ex] at q2 h1 h2
  have hti : (t : Int) < (n : Int) := by omega
  have HD := Aside0.mk hd
  have HINV := Aside0.mk hinv
  have HP := Aside0.mk hp
  have HR := Aside0.mk hr
  have HS := Aside0.mk hs
  have HN := Aside0.mk hn
  have HBB := Aside0.mk hB
  have HIH := Aside0.mk IH
  clear ex hd hinv hp hr hs hn hB IH
  unfold VisitArgs
  go_enter Try.func78, Try.ntmps78
  go_wp2
  clear q1 q2
  have HD0 := Aside0.mk HD.out.drew
  clear HD
  have k1 : w.drew.cell? ⟨B + 7, 0, none⟩ = some (.slice (some ⟨B + 6, 0, none⟩) n n) := (blk_cell HD0.out.ps 0).trans rfl
  have k2 : w.drew.cell? ⟨B + 2, 0, none⟩ = some (.slice (some ⟨gf, 0, none⟩) n n) := (blk_cell HD0.out.pf 0).trans rfl
  refine start_ (n := 8) (S := fun w' => w'.cell? ⟨B + 7, 0, none⟩ = some (.slice (some ⟨B + 6, 0, none⟩) n n) ∧ w'.cell? ⟨B + 2, 0, none⟩ = some (.slice (some ⟨gf, 0, none⟩) n n)) (ds := [7]) #[false, false, false, false, false, false, false, false] (by kernel_rfl) rfl rfl ⟨k1, k2⟩ (fun hHeld => ?_)
  refine with_tabW vi4tab vi4bits (fun HT_ HW_ => ?_)
  generalize w.drew = w1 at HD0 hHeld ⊢
  refine pure_ (i := 1) (N := some 34) (v := ?_) (a' := ?_) (qd 8 2) rfl rfl (any_of HT_.out (by kernel_rfl)) (fun _ _ _ h => h) (Or.inl ⟨by rfl, ?_⟩) ?_ ?_
  rotate_left
  · intro w'
    go_simp
    with_reducible rfl
  rotate_left
  · simp only [Act.put, qa, qb, qc, i64_w, i32_w]
    rfl
  refine pure_ (i := 3) (N := some 36) (v := ?_) (a' := ?_) (qd 8 10) rfl rfl (any_of HT_.out (by kernel_rfl)) (fun _ _ _ h => h) (Or.inl ⟨by rfl, ?_⟩) ?_ ?_
  rotate_left
  · intro w'
    go_simp
    with_reducible rfl
  rotate_left
  · simp only [Act.put, qa, qb, qc, i64_w, i32_w]
    rfl
  refine take_ (i := 0) (N := some 33) (v := ?_) (a' := ?_) (qd 8 11) rfl rfl (take_ofW HT_.out HW_.out (by kernel_rfl)) (fun _ _ _ h => h) (Or.inl ⟨by rfl, ?_⟩) hHeld ?_ ?_
  rotate_left
  · rintro w' ⟨s0, s1⟩
    go_simp
    with_reducible rfl
  rotate_left
  · simp only [Act.put, qa, qb, qc, i64_w, i32_w]
    rfl
  refine pure_ (i := 4) (N := some 37) (v := ?_) (a' := ?_) (qd 8 27) rfl rfl (any_of HT_.out (by kernel_rfl)) (fun _ _ _ h => h) (Or.inl ⟨by rfl, ?_⟩) ?_ ?_
  rotate_left
  · intro w'
    go_simp
    with_reducible rfl
  rotate_left
  · simp only [Act.put, qa, qb, qc, i64_w, i32_w]
    rfl
  refine take_ (i := 2) (N := some 35) (v := ?_) (a' := ?_) (qd 8 31) rfl rfl (take_ofW HT_.out HW_.out (by kernel_rfl)) (fun _ _ _ h => h) (Or.inl ⟨by rfl, ?_⟩) hHeld ?_ ?_
  rotate_left
  · rintro w' ⟨s0, s1⟩
    go_simp
    with_reducible rfl
  rotate_left
  · simp only [Act.put, qa, qb, qc, i64_w, i32_w]
    rfl
  refine one_ (i := 5) (N := none) (qd 8 63) rfl rfl (one_of HT_.out (by kernel_rfl)) (by decide) (fun K hK => ?_)
  have hcz := (blk_cell HD0.out.rs t).trans (rowI_get S.st t (by rw [HD0.out.lens.1]; exact ht))
  have hfz := blk_frozen HD0.out.rs t
  refine skip_ (w1 := ?_) (by rfl) rfl ?_ ?_
  rotate_left
  · go_simp
    rfl
  have HD1 := Aside0.mk (HD0.out.setSt t 1)
  refine hK.out _ _ ⟨(blk_cell HD1.out.ps 0).trans rfl, (blk_cell HD1.out.pf 0).trans rfl⟩ (fun hHeld => ?_)
  clear hK K hcz hfz HD0
  generalize w1.setCell ⟨B + 6, t, none⟩ (.int .i64 1) = w2 at HD1 hHeld ⊢
  refine pure_ (i := 6) (N := some 38) (v := ?_) (a' := ?_) (qd 8 127) rfl rfl (any_of HT_.out (by kernel_rfl)) (fun _ _ _ h => h) (Or.inl ⟨by rfl, ?_⟩) ?_ ?_
  rotate_left
  · intro w'
    go_simp
    with_reducible rfl
  rotate_left
  · simp only [Act.put, qa, qb, qc, i64_w, i32_w]
    rfl
  refine last_ (i := 7) (N := none) (qd 8 255) rfl rfl (one_of HT_.out (by kernel_rfl)) (by decide) (fun K hK => ?_)
  have hcz := (blk_cell HD1.out.rf t).trans (rowI_get S.fr t (by rw [HD1.out.lens.2.2]; exact ht))
  have hfz := blk_frozen HD1.out.rf t
  refine skip_ (w1 := ?_) (by rfl) rfl ?_ ?_
  rotate_left
  · go_simp
    rfl
  refine hK.out _ _ ?_
  have HD2 := Aside0.mk (HD1.out.setFr t (-1))
  clear hK K hcz hfz HD1
  refine done_ (done_of HT_.out (by kernel_rfl)) ?_
  generalize w2.setCell ⟨gf, t, none⟩ (.int .i64 (-1)) = w3 at HD2 ⊢
  obtain ⟨v, pp, pr⟩ := HD2.out.pa
  have q1 : w3.cell? ⟨B + 8, 0, none⟩ = some v := (blk_cell pp 0).trans rfl
  have PP := Aside0.mk pp
  have PR := Aside0.mk pr
  clear pp pr
  have Z3 := HD2.out.sz
  go_wp2_with (first
    | ((with_reducible refine gate_builtin (b := .append) (xs := #[.tmp 39, .tmp 41]) rfl ?_); at_builtin; refine Kd.R_append (Kd.int .i64) (w0 := w0) B rfl (.tmp 39) (.tmp 41) 26 3 (.int .i64 0) 8 rfl Try.underlying26 info3 rfl (by decide) (by decide) v S.pa (t : Int) [.int .i64 (t : Int)] (fun k => B + 10 ≤ k) (fun _ => False) rfl rfl ?aP (fun _ hk => hk.elim) (fun k hk => by omega) PR.out HD2.out.below (by omega) ?aL ?_; (case aP => exact rfl); (case aL => have := HP.out; omega); intro v4 w4 ho hb hg hat; obtain ⟨A4, c4, rfl⟩ := Kd.R_slice ho; have HD3 := Aside0.mk (HD2.out.grown hg (fun k hk => PR.out.1 k hk) hb hg.size PP.out ho); have hne : ∀ k, k < B + 10 → some k ≠ v.ownBlock := (fun k hk he => by have := PR.out.1 k he.symm; omega); have q5 := (blk_cell (blk_grown PP.out hg (hne _ (by omega))) 0).trans rfl; have q6 := blk_frozen (blk_grown PP.out hg (hne _ (by omega))) 0; have q7 := (blk_cell (blk_grown HD2.out.pn hg (hne _ (by omega))) 0).trans rfl; clear hne ho hb hg hat q1 PR PP HD2)
    )
  go_loopw [44] (fun v w' => ∃ i : Nat, i ≤ n ∧ v = .int .i64 i ∧ ∃ Si, Aside0 (loopF (visitF nx (timeT (tasksN J J.length)) n f) nx t (openF t S) i = some (.ok Si)) ∧ Aside0 (Dfs w0 B gu gf g o nx n w' Si)) (fun v _ => n - (intOf v).toNat)
  case atStart =>
    have h := HD3.out
    rw [List.length_append, List.length_singleton] at h
    exact ⟨0, Nat.zero_le _, rfl, openF t S, ⟨rfl⟩, ⟨h⟩⟩
  case round =>
    clear HD3 q5 q6 q7 Z3
    obtain ⟨i, hi, rfl, Si, HL, HDi⟩ := hrel
    by_cases hlt : i < n
    · obtain ⟨inv, pai⟩ := loopF_keeps (fun p S S' => visitF_keeps f p S S') (HINV.out.opened t) i Si HL.out
      have INV := Aside0.mk inv
      have PAI := Aside0.mk pai
      clear inv pai
      have hti10 : (t : Int) < 10 := by omega
      have hii10 : (i : Int) < 10 := by omega
      have q8 : wr.cell? ⟨B, 1 + i * 10 + t, none⟩ = some (.bool (nx i t)) := (blk_cell HDi.out.bo (1 + i * 10 + t)).trans (by have := HDi.out.ord.bit i t (by omega) (by omega); rwa [← Nat.add_assoc] at this)
      have q9 := (blk_cell HDi.out.pv 0).trans rfl
      by_cases hb : nx i t = true
      · rw [hb] at q8
        have hb1 := Aside0.mk hb
        obtain ⟨r', er⟩ : ∃ r', visitF nx (timeT (tasksN J J.length)) n f i Si = some r' := by
          cases e : visitF nx (timeT (tasksN J J.length)) n f i Si with
          | some r' => exact ⟨r', rfl⟩
          | none =>
            have h := HR.out
            rw [loopF_next HL.out hb hlt e (fun _ => by simp)] at h
            cases h
        have ER := Aside0.mk er
        clear er hb
        have hlen : Si.pa.length + f ≤ 100 := by
          rw [PAI.out]
          simp only [openF, List.length_append, List.length_singleton]
          have := HP.out
          omega
        have hc := HIH.out i Si r' wr HDi.out INV.out hlt hlen ER.out
        unfold VisitArgs at hc
        have HC := Aside0.mk hc
        clear hc
        cases r' with
        | cyc l =>
          have hl := HR.out
          rw [loopF_next HL.out hb1.out hlt ER.out (fun _ => by simp)] at hl
          obtain rfl : Dre.cyc l = r := Option.some.inj hl
          go_wp2_with (first
            | ((with_reducible refine HC.out.mono ?_); rintro e w5 ⟨A, c, rfl, hR, hBl⟩; exact ⟨rfl, A, c, rfl, hR, hBl⟩))
        | ok S' =>
          go_wp2_with (first
            | ((with_reducible refine HC.out.mono ?_); rintro e w5 ⟨⟨v5, rfl⟩, hd5⟩; have HD5 := Aside0.mk hd5; clear hd5 q8 q9))
          obtain ⟨a, ea⟩ : ∃ a, a = S'.su.getD i 0 := ⟨_, rfl⟩
          obtain ⟨b, eb⟩ : ∃ b, b = S'.su.getD t 0 := ⟨_, rfl⟩
          have HD6 := Aside0.mk HD5.out.drew
          clear HD5
          have p1 := (blk_cell HD6.out.pu 0).trans rfl
          have p2 := (blk_cell HD6.out.ru i).trans (rowI_get S'.su i (by rw [HD6.out.lens.2.1]; exact hlt))
          have p3 := (blk_cell HD6.out.ru t).trans (rowI_get S'.su t (by rw [HD6.out.lens.2.1]; exact ht))
          rw [← ea] at p2
          rw [← eb] at p3
          have EA := Aside0.mk ea
          have EB := Aside0.mk eb
          clear ea eb
          have hii : (i : Int) < (n : Int) := by omega
          refine start_ (n := 9) (S := fun w' => w'.cell? ⟨B + 1, 0, none⟩ = some (.slice (some ⟨gu, 0, none⟩) n n) ∧ w'.cell? ⟨gu, i, none⟩ = some (.int .i64 a) ∧ w'.cell? ⟨gu, t, none⟩ = some (.int .i64 b)) (ds := []) #[false, false, false, false, false, false, false, false, false] (by kernel_rfl) rfl rfl ⟨p1, p2, p3⟩ (fun hHeld => ?_)
          refine with_tabW vi11tab vi11bits (fun HT_ HW_ => ?_)
          generalize w5.drew = w6 at HD6 hHeld ⊢
          refine pure_ (i := 1) (N := some 57) (v := ?_) (a' := ?_) (qd 9 2) rfl rfl (any_of HT_.out (by kernel_rfl)) (fun _ _ _ h => h) (Or.inl ⟨by rfl, ?_⟩) ?_ ?_
          rotate_left
          · intro w'
            go_simp
            with_reducible rfl
          rotate_left
          · simp only [Act.put, qa, qb, qc, i64_w, i32_w]
            rfl
          refine pure_ (i := 5) (N := some 61) (v := ?_) (a' := ?_) (qd 9 34) rfl rfl (any_of HT_.out (by kernel_rfl)) (fun _ _ _ h => h) (Or.inl ⟨by rfl, ?_⟩) ?_ ?_
          rotate_left
          · intro w'
            go_simp
            with_reducible rfl
          rotate_left
          · simp only [Act.put, qa, qb, qc, i64_w, i32_w]
            rfl
          refine take_ (i := 0) (N := some 56) (v := ?_) (a' := ?_) (qd 9 35) rfl rfl (take_ofW HT_.out HW_.out (by kernel_rfl)) (fun _ _ _ h => h) (Or.inl ⟨by rfl, ?_⟩) hHeld ?_ ?_
          rotate_left
          · rintro w' ⟨s0, s1, s2⟩
            go_simp
            with_reducible rfl
          rotate_left
          · simp only [Act.put, qa, qb, qc, i64_w, i32_w]
            rfl
          refine pure_ (i := 2) (N := some 58) (v := ?_) (a' := ?_) (qd 9 39) rfl rfl (any_of HT_.out (by kernel_rfl)) (fun _ _ _ h => h) (Or.inl ⟨by rfl, ?_⟩) ?_ ?_
          rotate_left
          · intro w'
            go_simp
            with_reducible rfl
          rotate_left
          · simp only [Act.put, qa, qb, qc, i64_w, i32_w]
            rfl
          refine take_ (i := 3) (N := some 59) (v := ?_) (a' := ?_) (qd 9 47) rfl rfl (take_ofW HT_.out HW_.out (by kernel_rfl)) (fun _ _ _ h => h) (Or.inl ⟨by rfl, ?_⟩) hHeld ?_ ?_
          rotate_left
          · rintro w' ⟨s0, s1, s2⟩
            go_simp
            with_reducible rfl
          rotate_left
          · simp only [Act.put, qa, qb, qc, i64_w, i32_w]
            rfl
          refine take_ (i := 4) (N := some 60) (v := ?_) (a' := ?_) (qd 9 63) rfl rfl (take_ofW HT_.out HW_.out (by kernel_rfl)) (fun _ _ _ h => h) (Or.inl ⟨by rfl, ?_⟩) hHeld ?_ ?_
          rotate_left
          · rintro w' ⟨s0, s1, s2⟩
            go_simp
            with_reducible rfl
          rotate_left
          · simp only [Act.put, qa, qb, qc, i64_w, i32_w]
            rfl
          refine pure_ (i := 6) (N := some 62) (v := ?_) (a' := ?_) (qd 9 127) rfl rfl (any_of HT_.out (by kernel_rfl)) (fun _ _ _ h => h) (Or.inl ⟨by rfl, ?_⟩) ?_ ?_
          rotate_left
          · intro w'
            go_simp
            with_reducible rfl
          rotate_left
          · simp only [Act.put, qa, qb, qc, i64_w, i32_w]
            rfl
          refine take_ (i := 7) (N := some 63) (v := ?_) (a' := ?_) (qd 9 255) rfl rfl (take_ofW HT_.out HW_.out (by kernel_rfl)) (fun _ _ _ h => h) (Or.inl ⟨by rfl, ?_⟩) hHeld ?_ ?_
          rotate_left
          · rintro w' ⟨s0, s1, s2⟩
            go_simp
            with_reducible rfl
          rotate_left
          · simp only [Act.put, qa, qb, qc, i64_w, i32_w]
            rfl
          refine pure_ (i := 8) (N := some 64) (v := ?_) (a' := ?_) (qd 9 511) rfl rfl (any_of HT_.out (by kernel_rfl)) (fun _ _ _ h => h) (Or.inl ⟨by rfl, ?_⟩) ?_ ?_
          rotate_left
          · intro w'
            go_simp
            with_reducible rfl
          rotate_left
          · simp only [Act.put, qa, qb, qc, i64_w, i32_w]
            rfl
          refine done_ (done_of HT_.out (by kernel_rfl)) ?_
          clear hHeld
          by_cases hc : b < a
          · go_wp2
            have HD7 := Aside0.mk HD6.out.drew
            clear HD6
            have p1 := (blk_cell HD7.out.pu 0).trans rfl
            have p2 := (blk_cell HD7.out.ru i).trans (rowI_get S'.su i (by rw [HD7.out.lens.2.1]; exact hlt))
            have p3 := (blk_cell HD7.out.pf 0).trans rfl
            rw [← EA.out] at p2
            refine start_ (n := 13) (S := fun w' => w'.cell? ⟨B + 1, 0, none⟩ = some (.slice (some ⟨gu, 0, none⟩) n n) ∧ w'.cell? ⟨gu, i, none⟩ = some (.int .i64 a) ∧ w'.cell? ⟨B + 2, 0, none⟩ = some (.slice (some ⟨gf, 0, none⟩) n n)) (ds := [12]) #[false, false, false, false, false, false, false, false, false, false, false, false, false] (by kernel_rfl) rfl rfl ⟨p1, p2, p3⟩ (fun hHeld => ?_)
            refine with_tabW vi12tab vi12bits (fun HT_ HW_ => ?_)
            generalize w6.drew = w7 at HD7 hHeld ⊢
            refine pure_ (i := 1) (N := some 66) (v := ?_) (a' := ?_) (qd 13 2) rfl rfl (any_of HT_.out (by kernel_rfl)) (fun _ _ _ h => h) (Or.inl ⟨by rfl, ?_⟩) ?_ ?_
            rotate_left
            · intro w'
              go_simp
              with_reducible rfl
            rotate_left
            · simp only [Act.put, qa, qb, qc, i64_w, i32_w]
              rfl
            refine pure_ (i := 3) (N := some 68) (v := ?_) (a' := ?_) (qd 13 10) rfl rfl (any_of HT_.out (by kernel_rfl)) (fun _ _ _ h => h) (Or.inl ⟨by rfl, ?_⟩) ?_ ?_
            rotate_left
            · intro w'
              go_simp
              with_reducible rfl
            rotate_left
            · simp only [Act.put, qa, qb, qc, i64_w, i32_w]
              rfl
            refine pure_ (i := 5) (N := some 70) (v := ?_) (a' := ?_) (qd 13 42) rfl rfl (any_of HT_.out (by kernel_rfl)) (fun _ _ _ h => h) (Or.inl ⟨by rfl, ?_⟩) ?_ ?_
            rotate_left
            · intro w'
              go_simp
              with_reducible rfl
            rotate_left
            · simp only [Act.put, qa, qb, qc, i64_w, i32_w]
              rfl
            refine pure_ (i := 8) (N := some 73) (v := ?_) (a' := ?_) (qd 13 298) rfl rfl (any_of HT_.out (by kernel_rfl)) (fun _ _ _ h => h) (Or.inl ⟨by rfl, ?_⟩) ?_ ?_
            rotate_left
            · intro w'
              go_simp
              with_reducible rfl
            rotate_left
            · simp only [Act.put, qa, qb, qc, i64_w, i32_w]
              rfl
            refine take_ (i := 0) (N := some 65) (v := ?_) (a' := ?_) (qd 13 299) rfl rfl (take_ofW HT_.out HW_.out (by kernel_rfl)) (fun _ _ _ h => h) (Or.inl ⟨by rfl, ?_⟩) hHeld ?_ ?_
            rotate_left
            · rintro w' ⟨s0, s1, s2⟩
              go_simp
              with_reducible rfl
            rotate_left
            · simp only [Act.put, qa, qb, qc, i64_w, i32_w]
              rfl
            refine take_ (i := 2) (N := some 67) (v := ?_) (a' := ?_) (qd 13 303) rfl rfl (take_ofW HT_.out HW_.out (by kernel_rfl)) (fun _ _ _ h => h) (Or.inl ⟨by rfl, ?_⟩) hHeld ?_ ?_
            rotate_left
            · rintro w' ⟨s0, s1, s2⟩
              go_simp
              with_reducible rfl
            rotate_left
            · simp only [Act.put, qa, qb, qc, i64_w, i32_w]
              rfl
            refine take_ (i := 4) (N := some 69) (v := ?_) (a' := ?_) (qd 13 319) rfl rfl (take_ofW HT_.out HW_.out (by kernel_rfl)) (fun _ _ _ h => h) (Or.inl ⟨by rfl, ?_⟩) hHeld ?_ ?_
            rotate_left
            · rintro w' ⟨s0, s1, s2⟩
              go_simp
              with_reducible rfl
            rotate_left
            · simp only [Act.put, qa, qb, qc, i64_w, i32_w]
              rfl
            refine pure_ (i := 6) (N := some 71) (v := ?_) (a' := ?_) (qd 13 383) rfl rfl (any_of HT_.out (by kernel_rfl)) (fun _ _ _ h => h) (Or.inl ⟨by rfl, ?_⟩) ?_ ?_
            rotate_left
            · intro w'
              go_simp
              with_reducible rfl
            rotate_left
            · simp only [Act.put, qa, qb, qc, i64_w, i32_w]
              rfl
            refine take_ (i := 7) (N := some 72) (v := ?_) (a' := ?_) (qd 13 511) rfl rfl (take_ofW HT_.out HW_.out (by kernel_rfl)) (fun _ _ _ h => h) (Or.inl ⟨by rfl, ?_⟩) hHeld ?_ ?_
            rotate_left
            · rintro w' ⟨s0, s1, s2⟩
              go_simp
              with_reducible rfl
            rotate_left
            · simp only [Act.put, qa, qb, qc, i64_w, i32_w]
              rfl
            refine pure_ (i := 9) (N := some 74) (v := ?_) (a' := ?_) (qd 13 1023) rfl rfl (any_of HT_.out (by kernel_rfl)) (fun _ _ _ h => h) (Or.inl ⟨by rfl, ?_⟩) ?_ ?_
            rotate_left
            · intro w'
              go_simp
              with_reducible rfl
            rotate_left
            · simp only [Act.put, qa, qb, qc, i64_w, i32_w]
              rfl
            refine one_ (i := 10) (N := none) (qd 13 2047) rfl rfl (one_of HT_.out (by kernel_rfl)) (by decide) (fun K hK => ?_)
            have hcz := (blk_cell HD7.out.ru t).trans (rowI_get S'.su t (by rw [HD7.out.lens.2.1]; exact ht))
            have hfz := blk_frozen HD7.out.ru t
            refine skip_ (w1 := ?_) (by rfl) rfl ?_ ?_
            rotate_left
            · go_simp
              rfl
            have HD8 := Aside0.mk (HD7.out.setSu t a)
            have p4 : ({ S' with su := S'.su.set t a } : Dst).su.getD i 0 = a := by
              show (S'.su.set t a).getD i 0 = a
              rw [getD_set]
              split
              · rfl
              · exact EA.out.symm
            refine hK.out _ _ ⟨(blk_cell HD8.out.pu 0).trans rfl, ((blk_cell HD8.out.ru i).trans (rowI_get _ i (by rw [HD8.out.lens.2.1]; exact hlt))).trans (by rw [p4]), (blk_cell HD8.out.pf 0).trans rfl⟩ (fun hHeld => ?_)
            clear hK K hcz hfz HD7 p4
            generalize w7.setCell ⟨gu, t, none⟩ (.int .i64 a) = w8 at HD8 hHeld ⊢
            refine pure_ (i := 11) (N := some 75) (v := ?_) (a' := ?_) (qd 13 4095) rfl rfl (any_of HT_.out (by kernel_rfl)) (fun _ _ _ h => h) (Or.inl ⟨by rfl, ?_⟩) ?_ ?_
            rotate_left
            · intro w'
              go_simp
              with_reducible rfl
            rotate_left
            · simp only [Act.put, qa, qb, qc, i64_w, i32_w]
              rfl
            refine last_ (i := 12) (N := none) (qd 13 8191) rfl rfl (one_of HT_.out (by kernel_rfl)) (by decide) (fun K hK => ?_)
            have hcz := (blk_cell HD8.out.rf t).trans (rowI_get S'.fr t (by rw [HD8.out.lens.2.2]; exact ht))
            have hfz := blk_frozen HD8.out.rf t
            refine skip_ (w1 := ?_) (by rfl) rfl ?_ ?_
            rotate_left
            · go_simp
              rfl
            refine hK.out _ _ ?_
            have HD9 := Aside0.mk (HD8.out.setFr t i)
            clear hK K hcz hfz HD8
            refine done_ (done_of HT_.out (by kernel_rfl)) ?_
            generalize w8.setCell ⟨gf, t, none⟩ (.int .i64 (i : Int)) = w9 at HD9 ⊢
            go_wp2
            refine ⟨⟨i + 1, by omega, rfl, topF t i S', ⟨loopF_ok HL.out hb1.out ER.out⟩, ?_⟩, by simp [intOf]; omega⟩
            have e : topF t i S' = { S' with su := S'.su.set t a, fr := S'.fr.set t i } := by
              unfold topF
              rw [← EA.out, ← EB.out, if_pos hc]
            rw [e]
            exact HD9
          · go_wp2
            refine ⟨⟨i + 1, by omega, rfl, S', ⟨?_⟩, HD6⟩, by simp [intOf]; omega⟩
            have h := loopF_ok HL.out hb1.out ER.out
            have e : topF t i S' = S' := if_neg (by rw [← EA.out, ← EB.out]; exact hc)
            rwa [e] at h
      · have hb2 : nx i t = false := Bool.eq_false_iff.2 hb
        rw [hb2] at q8
        clear hb2
        have hb1 := Aside0.mk hb
        clear hb
        go_wp2
        exact ⟨⟨i + 1, by omega, rfl, Si, ⟨loopF_no HL.out hb1.out⟩, HDi⟩, by simp [intOf]; omega⟩
    · obtain rfl : i = n := by omega
      obtain ⟨inv, pai⟩ := loopF_keeps (fun p S S' => visitF_keeps f p S S') (HINV.out.opened t) i Si HL.out
      have PAI := Aside0.mk pai
      obtain ⟨v, pp, pr⟩ := HDi.out.pa
      obtain ⟨m, em⟩ : ∃ m, m = S.pa.length := ⟨_, rfl⟩
      have hl : Si.pa.length = m + 1 := by rw [pai, em]; simp [openF]
      obtain ⟨gp, cap, rfl, gb, gl, _⟩ := Kd.R_form pr (by omega)
      obtain ⟨_, hlc, _⟩ := Kd.R_reads' pr
      rw [hl] at pp pr hlc
      have q1 := (blk_cell pp 0).trans rfl
      have q2 := blk_frozen pp 0
      have PR := Aside0.mk pr
      have PP := Aside0.mk pp
      have HLE := Aside0.mk hl
      have hm1 : (m : Int) ≤ (cap : Int) := by omega
      have hm2 : 0 ≤ (m : Int) := by omega
      have hm3 : m ≤ 99 := by have := HP.out; omega
      clear inv pai pp pr hl em
      go_wp2
      have HD5 := Aside0.mk (HDi.out.setPa (Kd.R_take PR.out (m := m) (by rw [HLE.out]; omega))).drew
      clear HDi PR PP q1 q2
      obtain ⟨A0, c0, At, ct, Af, cf, hsb, _, _, hT, hct, _, _⟩ := HS.out
      rw [← HN.out] at hsb hT hct
      have hbw : Below w0.heap.size w0 (wr.setCell ⟨B + 8, 0, none⟩ (.slice (some ⟨gp, 0, none⟩) m cap)).drew := below_is HBB.out HD5.out.below
      obtain ⟨b, eb⟩ : ∃ b, b = Si.su.getD t 0 := ⟨_, rfl⟩
      obtain ⟨ad, tx, e1, hx, _, r1, _⟩ := at_N89 (Kd.C_below hT hbw) t ht
      cases e1
      have p1 := (blk_cell HD5.out.pu 0).trans rfl
      have p2 := (blk_cell HD5.out.ru t).trans (rowI_get Si.su t (by have := HD5.out.lens.2.1; exact this ▸ ht))
      rw [← eb] at p2
      have p3 := (blk_cell HD5.out.bo 0).trans HD5.out.ord.ptr
      have p4 := (blk_cell (blk_below hsb hbw) 1).trans rfl
      have EB := Aside0.mk eb
      have EX := Aside0.mk hx
      clear eb hx hsb hT hbw
      refine start_ (n := 17) (S := fun w' => w'.cell? ⟨B + 1, 0, none⟩ = some (.slice (some ⟨gu, 0, none⟩) i i) ∧ w'.cell? ⟨gu, t, none⟩ = some (.int .i64 b) ∧ w'.cell? ⟨B, 0, none⟩ = some (.pointer (some ⟨g, 0, none⟩)) ∧ w'.cell? ⟨g, 1, none⟩ = some (.slice (some ad) i ct) ∧ w'.cell? ⟨(ad.add (t * 5)).block, (ad.add (t * 5)).off + 1, none⟩ = some (.int .i64 tx.f0.f1)) (ds := [16]) #[false, false, false, false, false, false, false, false, false, false, false, false, false, false, false, false, false] (by kernel_rfl) rfl rfl ⟨p1, p2, p3, p4, r1⟩ (fun hHeld => ?_)
      refine with_tabW vi15tab vi15bits (fun HT_ HW_ => ?_)
      generalize (wr.setCell ⟨B + 8, 0, none⟩ (.slice (some ⟨gp, 0, none⟩) m cap)).drew = w6 at HD5 hHeld ⊢
      refine pure_ (i := 1) (N := some 83) (v := ?_) (a' := ?_) (qd 17 2) rfl rfl (any_of HT_.out (by kernel_rfl)) (fun _ _ _ h => h) (Or.inl ⟨by rfl, ?_⟩) ?_ ?_
      rotate_left
      · intro w'
        go_simp
        with_reducible rfl
      rotate_left
      · simp only [Act.put, qa, qb, qc, i64_w, i32_w]
        rfl
      refine pure_ (i := 4) (N := some 86) (v := ?_) (a' := ?_) (qd 17 18) rfl rfl (any_of HT_.out (by kernel_rfl)) (fun _ _ _ h => h) (Or.inl ⟨by rfl, ?_⟩) ?_ ?_
      rotate_left
      · intro w'
        go_simp
        with_reducible rfl
      rotate_left
      · simp only [Act.put, qa, qb, qc, i64_w, i32_w]
        rfl
      refine pure_ (i := 9) (N := some 91) (v := ?_) (a' := ?_) (qd 17 530) rfl rfl (any_of HT_.out (by kernel_rfl)) (fun _ _ _ h => h) (Or.inl ⟨by rfl, ?_⟩) ?_ ?_
      rotate_left
      · intro w'
        go_simp
        with_reducible rfl
      rotate_left
      · simp only [Act.put, qa, qb, qc, i64_w, i32_w]
        rfl
      refine take_ (i := 0) (N := some 82) (v := ?_) (a' := ?_) (qd 17 531) rfl rfl (take_ofW HT_.out HW_.out (by kernel_rfl)) (fun _ _ _ h => h) (Or.inl ⟨by rfl, ?_⟩) hHeld ?_ ?_
      rotate_left
      · rintro w' ⟨s0, s1, s2, s3, s4⟩
        go_simp
        with_reducible rfl
      rotate_left
      · simp only [Act.put, qa, qb, qc, i64_w, i32_w]
        rfl
      refine pure_ (i := 2) (N := some 84) (v := ?_) (a' := ?_) (qd 17 535) rfl rfl (any_of HT_.out (by kernel_rfl)) (fun _ _ _ h => h) (Or.inl ⟨by rfl, ?_⟩) ?_ ?_
      rotate_left
      · intro w'
        go_simp
        with_reducible rfl
      rotate_left
      · simp only [Act.put, qa, qb, qc, i64_w, i32_w]
        rfl
      refine take_ (i := 3) (N := some 85) (v := ?_) (a' := ?_) (qd 17 543) rfl rfl (take_ofW HT_.out HW_.out (by kernel_rfl)) (fun _ _ _ h => h) (Or.inl ⟨by rfl, ?_⟩) hHeld ?_ ?_
      rotate_left
      · rintro w' ⟨s0, s1, s2, s3, s4⟩
        go_simp
        with_reducible rfl
      rotate_left
      · simp only [Act.put, qa, qb, qc, i64_w, i32_w]
        rfl
      refine take_ (i := 5) (N := some 87) (v := ?_) (a' := ?_) (qd 17 575) rfl rfl (take_ofW HT_.out HW_.out (by kernel_rfl)) (fun _ _ _ h => h) (Or.inl ⟨by rfl, ?_⟩) hHeld ?_ ?_
      rotate_left
      · rintro w' ⟨s0, s1, s2, s3, s4⟩
        go_simp
        with_reducible rfl
      rotate_left
      · simp only [Act.put, qa, qb, qc, i64_w, i32_w]
        rfl
      refine pure_ (i := 6) (N := some 88) (v := ?_) (a' := ?_) (qd 17 639) rfl rfl (any_of HT_.out (by kernel_rfl)) (fun _ _ _ h => h) (Or.inl ⟨by rfl, ?_⟩) ?_ ?_
      rotate_left
      · intro w'
        go_simp
        with_reducible rfl
      rotate_left
      · simp only [Act.put, qa, qb, qc, i64_w, i32_w]
        rfl
      refine pure_ (i := 7) (N := some 89) (v := ?_) (a' := ?_) (qd 17 767) rfl rfl (any_of HT_.out (by kernel_rfl)) (fun _ _ _ h => h) (Or.inl ⟨by rfl, ?_⟩) ?_ ?_
      rotate_left
      · intro w'
        go_simp
        with_reducible rfl
      rotate_left
      · simp only [Act.put, qa, qb, qc, i64_w, i32_w]
        rfl
      refine take_ (i := 8) (N := some 90) (v := ?_) (a' := ?_) (qd 17 1023) rfl rfl (take_ofW HT_.out HW_.out (by kernel_rfl)) (fun _ _ _ h => h) (Or.inl ⟨by rfl, ?_⟩) hHeld ?_ ?_
      rotate_left
      · rintro w' ⟨s0, s1, s2, s3, s4⟩
        go_simp
        with_reducible rfl
      rotate_left
      · simp only [Act.put, qa, qb, qc, i64_w, i32_w]
        rfl
      refine pure_ (i := 10) (N := some 92) (v := ?_) (a' := ?_) (qd 17 2047) rfl rfl (any_of HT_.out (by kernel_rfl)) (fun _ _ _ h => h) (Or.inl ⟨by rfl, ?_⟩) ?_ ?_
      rotate_left
      · intro w'
        go_simp
        with_reducible rfl
      rotate_left
      · simp only [Act.put, qa, qb, qc, i64_w, i32_w]
        rfl
      refine pure_ (i := 11) (N := some 93) (v := ?_) (a' := ?_) (qd 17 4095) rfl rfl (any_of HT_.out (by kernel_rfl)) (fun _ _ _ h => h) (Or.inl ⟨by rfl, ?_⟩) ?_ ?_
      rotate_left
      · intro w'
        go_simp
        with_reducible rfl
      rotate_left
      · simp only [Act.put, qa, qb, qc, i64_w, i32_w]
        rfl
      refine pure_ (i := 12) (N := some 94) (v := ?_) (a' := ?_) (qd 17 8191) rfl rfl (any_of HT_.out (by kernel_rfl)) (fun _ _ _ h => h) (Or.inl ⟨by rfl, ?_⟩) ?_ ?_
      rotate_left
      · intro w'
        go_simp
        with_reducible rfl
      rotate_left
      · simp only [Act.put, qa, qb, qc, i64_w, i32_w]
        rfl
      refine take_ (i := 13) (N := some 95) (v := ?_) (a' := ?_) (qd 17 16383) rfl rfl (take_ofW HT_.out HW_.out (by kernel_rfl)) (fun _ _ _ h => h) (Or.inl ⟨by rfl, ?_⟩) hHeld ?_ ?_
      rotate_left
      · rintro w' ⟨s0, s1, s2, s3, s4⟩
        go_simp
        with_reducible rfl
      rotate_left
      · simp only [Act.put, qa, qb, qc, i64_w, i32_w]
        rfl
      refine pure_ (i := 14) (N := some 96) (v := ?_) (a' := ?_) (qd 17 32767) rfl rfl (any_of HT_.out (by kernel_rfl)) (fun _ _ _ h => h) (Or.inl ⟨by rfl, ?_⟩) ?_ ?_
      rotate_left
      · intro w'
        go_simp
        with_reducible rfl
      rotate_left
      · simp only [Act.put, qa, qb, qc, i64_w, i32_w]
        rfl
      refine pure_ (i := 15) (N := some 97) (v := ?_) (a' := ?_) (qd 17 65535) rfl rfl (any_of HT_.out (by kernel_rfl)) (fun _ _ _ h => h) (Or.inl ⟨by rfl, ?_⟩) ?_ ?_
      rotate_left
      · intro w'
        go_simp
        with_reducible rfl
      rotate_left
      · simp only [Act.put, qa, qb, qc, i64_w, i32_w]
        rfl
      refine last_ (i := 16) (N := none) (qd 17 131071) rfl rfl (one_of HT_.out (by kernel_rfl)) (by decide) (fun K hK => ?_)
      have hcz := (blk_cell HD5.out.ru t).trans (rowI_get Si.su t (by have := HD5.out.lens.2.1; exact this ▸ ht))
      have hfz := blk_frozen HD5.out.ru t
      refine skip_ (w1 := ?_) (by rfl) rfl ?_ ?_
      rotate_left
      · go_simp
        rfl
      refine hK.out _ _ ?_
      have HD6 := Aside0.mk (HD5.out.setSu t (wrap64 (b + tx.f0.f1)))
      clear hK K hcz hfz HD5 hHeld
      refine done_ (done_of HT_.out (by kernel_rfl)) ?_
      generalize w6.setCell ⟨gu, t, none⟩ (.int .i64 (wrap64 (b + tx.f0.f1))) = w7 at HD6 ⊢
      have q1 := (blk_cell HD6.out.ps 0).trans rfl
      have q2 := (blk_cell HD6.out.rs t).trans (rowI_get Si.st t (by have := HD6.out.lens.1; exact this ▸ ht))
      have q3 := blk_frozen HD6.out.rs t
      go_wp2
      have hl := HR.out
      rw [HL.out] at hl
      obtain rfl : Dre.ok (shutF (timeT (tasksN J J.length)) t Si) = r := Option.some.inj hl
      have HD7 := HD6.out.setSt t 2
      have e : shutF (timeT (tasksN J J.length)) t Si = { st := Si.st.set t 2, su := Si.su.set t (wrap64 (b + tx.f0.f1)), fr := Si.fr, pa := Si.pa.take m } := by
        unfold shutF
        rw [HLE.out, Nat.add_sub_cancel, EB.out, EX.out]
        rfl
      rw [e]
      first
        | go_end0
        | ((try simp only [Exit.inBlock, Exit.then]); refine bodyPost_ret (results_none rfl _ _ _) rfl ?_)
        | ((try simp only [Exit.inBlock, Exit.then]); refine bodyPost_end (results_none rfl _ _ _) rfl ?_)
      exact ⟨⟨_, rfl⟩, HD7⟩
end Go.Proofs.Ytipkhaicjjeieaa.V
