/- Walks of the shop's functions: texts behind each other, joined. Conditions stand in each theorem. -/
import Derived.Test.YtipkhaicjjeieaaKSShRi
import Derived.Test.YtipkhaicjjeieaaKSShAl
import Derived.Deep.SlicePairs
import Derived.Deep.Matrix
import Derived.ProofKit
section
namespace Go.Proofs.Ytipkhaicjjeieaa.V
set_option linter.unusedSimpArgs false
set_option linter.unusedVariables false
open Go.RowKit Go.Proofs.YtipkhaicjjeieaaW.PrintWords Go.Proofs.YtipkhaicjjeieaaW.PrintLast Go.Proofs.YtipkhaicjjeieaaW.PrintMore
theorem RowN.of_blk {w : World} {g : Nat} {l : List Int} (h : w.heap[g]? = some (.cells (rowI l) 3 (0, 0))) (hl : l.length ≤ 1000000) {m : Nat} (e : l.length = m) : RowN w (some ⟨g, 0, none⟩) m m l := by
  subst e
  exact ⟨Nat.le_refl _, C_row h hl, fun _ => ⟨_, _, rfl, h⟩⟩
structure Fi (w0 w : World) (At : Option Addr) (ct nj n g3 g6 g7 g10 bn : Nat) (vf : Value) (l : List Int) : Prop where
  below : Below w0.heap.size w0 w
  lo : w0.heap.size ≤ bn
  ne : g3 ≠ bn ∧ g6 ≠ bn ∧ g7 ≠ bn ∧ g10 ≠ bn
  r3 : w.heap[g3]? = some (.cells (rowI (List.replicate nj 0)) 3 (0, 0))
  r6 : w.heap[g6]? = some (.cells (rowI (List.replicate nj 0)) 3 (0, 0))
  r7 : w.heap[g7]? = some (.cells (rowI (List.replicate 4 0)) 3 (0, 0))
  r10 : w.heap[g10]? = some (.cells (rowI (List.replicate n 0)) 3 (0, 0))
  p : w.heap[bn]? = some (.cells #[.slice At n ct, vf, .slice (some ⟨g3, 0, none⟩) nj nj, .slice (some ⟨g6, 0, none⟩) nj nj, .slice (some ⟨g7, 0, none⟩) 4 4, .slice (some ⟨g10, 0, none⟩) n n, .int .i64 0] 65 (0, 0))
  f : Kd.R (Kd.int .i64) 3 w w0.heap.size (fun k => k ≠ bn ∧ k ≠ g3 ∧ k ≠ g6 ∧ k ≠ g7 ∧ k ≠ g10) vf l
section
variable {w0 w w1 : World} {At : Option Addr} {ct nj n g3 g6 g7 g10 bn : Nat} {vf : Value} {l : List Int}
theorem Fi.start {W' : World} (hm : Mk5 w0 W' nj n (some g3) (some g6) (some g7) (some g10) (some bn)) : Fi w0 (W'.setRow bn #[.slice At n ct, .slice none 0 0, .slice (some ⟨g3, 0, none⟩) nj nj, .slice (some ⟨g6, 0, none⟩) nj nj, .slice (some ⟨g7, 0, none⟩) 4 4, .slice (some ⟨g10, 0, none⟩) n n, .int .i64 0]) At ct nj n g3 g6 g7 g10 bn (.slice none 0 0) [] := by
  obtain ⟨h0, h1⟩ := hm.nb _ rfl
  have ne : ∀ g l, W'.heap[g]? = some (.cells (rowI l) 3 (0, 0)) → g ≠ bn := fun g l h e => by
    rw [e, h1] at h
    simp at h
  have n3 := ne _ _ (hm.r3 _ rfl)
  have n6 := ne _ _ (hm.r6 _ rfl)
  have n7 := ne _ _ (hm.r7 _ rfl)
  have n10 := ne _ _ (hm.r10 _ rfl)
  exact ⟨below_setRow hm.below h0 _, h0, ⟨n3, n6, n7, n10⟩, by rw [setRow_other _ _ _ _ n3]; exact hm.r3 _ rfl, by rw [setRow_other _ _ _ _ n6]; exact hm.r6 _ rfl, by rw [setRow_other _ _ _ _ n7]; exact hm.r7 _ rfl, by rw [setRow_other _ _ _ _ n10]; exact hm.r10 _ rfl, setRow_heap _ _ _ _ _ _ h1, Kd.R_nil _ _ _ _ _⟩
theorem Fi.lt (h : Fi w0 w At ct nj n g3 g6 g7 g10 bn vf l) : bn < w.heap.size ∧ g3 < w.heap.size ∧ g6 < w.heap.size ∧ g7 < w.heap.size ∧ g10 < w.heap.size := ⟨blk_lt h.p, blk_lt h.r3, blk_lt h.r6, blk_lt h.r7, blk_lt h.r10⟩
theorem Fi.grown {v1 : Value} {x : Int} (h : Fi w0 w At ct nj n g3 g6 g7 g10 bn vf l) (hb : Below w0.heap.size w0 w1) (hg : w.grownBy w1 vf.ownBlock) (ho : Kd.R (Kd.int .i64) 3 w1 w0.heap.size (fun k => k ≠ bn ∧ k ≠ g3 ∧ k ≠ g6 ∧ k ≠ g7 ∧ k ≠ g10) v1 (l ++ [x])) : Fi w0 (w1.setCell ⟨bn, 1, none⟩ v1) At ct nj n g3 g6 g7 g10 bn v1 (l ++ [x]) := by
  have ok := h.f.1
  have nb : some bn ≠ vf.ownBlock := fun e => (ok _ e.symm).1 rfl
  have n3 : some g3 ≠ vf.ownBlock := fun e => (ok _ e.symm).2.1 rfl
  have n6 : some g6 ≠ vf.ownBlock := fun e => (ok _ e.symm).2.2.1 rfl
  have n7 : some g7 ≠ vf.ownBlock := fun e => (ok _ e.symm).2.2.2.1 rfl
  have n10 : some g10 ≠ vf.ownBlock := fun e => (ok _ e.symm).2.2.2.2 rfl
  exact ⟨hb.setCell h.lo _, h.lo, h.ne, blk_far (blk_grown h.r3 hg n3) h.ne.1 _, blk_far (blk_grown h.r6 hg n6) h.ne.2.1 _, blk_far (blk_grown h.r7 hg n7) h.ne.2.2.1 _, blk_far (blk_grown h.r10 hg n10) h.ne.2.2.2 _, blk_put (blk_grown h.p hg nb) 1 v1 rfl, Kd.R_far ho (fun k hk => hk.1) _⟩
end
def RefPost (w : World) (J : List (List S40)) (r : List Int × Int) (e : Ending) (w' : World) : Prop :=
  Below w.heap.size w w' ∧ (ofErr J ≠ 0 → e = .returned (.tuple #[.slice none 0 0, .int .i64 0, .int .i64 (ofErr J)])) ∧
    (ofErr J = 0 → ∃ A c, e = .returned (.tuple #[.slice A r.1.length c, .int .i64 r.2, .int .i64 0]) ∧ RowN w' A r.1.length c r.1)
def rs13T : Bool × List (List Nat × List Nat) := (true, [([], []), ([0], [0]), ([], []), ([2], [2]), ([1, 0, 1], [1]), ([3, 4, 0, 1, 2, 3, 4], [3]), ([5, 0, 1, 2, 3, 4, 5], [])])
def rs13B : List Nat := [0, 1, 0, 4, 3, 31, 63]
theorem rs13tab : rtab .any (opsOf Try.f16 13) = rs13T := by kernel_rfl
theorem rs13bits : waitsOk rs13T.2 rs13B = true := by kernel_rfl
set_option maxHeartbeats 4000000 in
set_option maxRecDepth 100000 in
theorem ref_Solve.calls (A0 : Option Addr) (c0 : Nat) (J : List (List S40)) (w : World) (hr : Kd.C (Kd.slice 40 k40) w A0 J.length J) (hc : J.length ≤ c0) (hm : J.length ≤ 1000) (hl : ∀ i, (J.getD i []).length ≤ 1000) :
    Calls Try.prog 16 #[.slice A0 J.length c0] w (RefPost w J (searchP J (baseN J J.length) (P0 J) ([], -1))) := by
  have HR := Aside0.mk hr
  have HC := Aside0.mk hc
  obtain ⟨kg, hkg⟩ := good_f J hm hl
  have HG := Aside0.mk (tinplateref06_Good.calls kg A0 c0 J (ofErr J) w hr hc hkg)
  clear hr hc hkg
  by_cases he : ofErr J = 0
  · have hf := ofErr_fit he
    obtain ⟨r, er⟩ : ∃ r, r = searchP J (baseN J J.length) (P0 J) ([], -1) := ⟨_, rfl⟩
    rw [← er]
    have HSR : Aside0 (SearchAt J (searchP J (baseN J J.length)) (P0 J)) := ⟨search_ok J hf _ N0 (P0 J) (ok_N0 hf) ⟨fun j _ => getD_rep _ _, fun j _ => getD_rep _ _, fun j _ => getD_rep _ _, fun j k _ _ => getD_rep _ _, by simp [P0], rfl⟩⟩
    have HE := Aside0.mk he
    have ER := Aside0.mk er
    have HF := Aside0.mk hf
    rw [he] at HG
    obtain ⟨ka, hka⟩ := all_f J hm hl
    have HKA := Aside0.mk hka
    obtain ⟨n, en⟩ : ∃ n, n = baseN J J.length := ⟨_, rfl⟩
    obtain ⟨nj, enj⟩ : ∃ nj, nj = J.length := ⟨_, rfl⟩
    have EN := Aside0.mk en
    have ENJ := Aside0.mk enj
    have hn10 : n ≤ 10 := by rw [en]; exact hf.nl
    have hj4 : nj ≤ 4 := by rw [enj]; exact hf.jl
    have hlen : (T40 J).length = n := by rw [T40_len, en]
    have HLEN := Aside0.mk hlen
    rw [← enj] at HG HC ⊢
    clear he er hf hka en enj hlen
    go_enter Try.func16, Try.ntmps16
    go_wp2_with (first
      | ((with_reducible refine HG.out.mono ?_); rintro e w1 ⟨rfl, hb1⟩; have HB1 := Aside0.mk hb1; clear hb1; have HAL := Aside0.mk (tinplateref06_All.calls ka A0 c0 J (T40 J) w1 (Kd.C_below HR.out HB1.out) (by rw [← ENJ.out]; exact HC.out) HKA.out); rw [← ENJ.out] at HAL)
      | ((with_reducible refine HAL.out.mono ?_); rintro e w2 ⟨v0, rfl, ho, hb2⟩; obtain ⟨At, ct, e0, hct, hCT⟩ := Kd.R_reads ho; rw [HLEN.out] at e0 hct hCT; subst e0; have HT := Aside0.mk (And.intro hCT hct); have HB2 := Aside0.mk (below_step HB1.out hb2); clear ho hb2 hct hCT))
    refine rs_mk (fun c a a' w hd h => ⟨hd.trans h.1, h.2⟩) w2 A0 At c0 ct nj n hj4 hn10 _ _ _ _ _ _ _ _ _ _ _ _ ?_
    intro g3 g6 g7 g10 bn W' hm5 hb5
    have F0 := Aside0.mk (Fi.start (At := At) (ct := ct) hm5)
    clear hm5 hb5
    generalize W'.setRow bn #[.slice At n ct, .slice none 0 0, .slice (some ⟨g3, 0, none⟩) nj nj, .slice (some ⟨g6, 0, none⟩) nj nj, .slice (some ⟨g7, 0, none⟩) 4 4, .slice (some ⟨g10, 0, none⟩) n n, .int .i64 0] = W5 at F0 ⊢
    go_wp2
    go_loopw [8, 9] (fun v8 v9 w' => ∃ i : Nat, i ≤ nj ∧ v8 = .int .i64 (baseN J i : Int) ∧ v9 = .int .i64 i ∧ ∃ vf, Aside0 (Fi w2 w' At ct nj n g3 g6 g7 g10 bn vf (firstsN J i))) (fun _ v _ => nj - (intOf v).toNat)
    case atStart => exact ⟨0, Nat.zero_le _, rfl, rfl, _, F0⟩
    case round =>
      clear F0
      obtain ⟨i, hi, rfl, rfl, vf, F⟩ := hrel
      by_cases hlt : i < nj
      · have hii : (i : Int) < (nj : Int) := Int.ofNat_lt.2 hlt
        have hlJ : i < J.length := by rw [← ENJ.out]; exact hlt
        obtain ⟨ad, r1, Ajb, cjb, eA, er1, hr1, hr2, hr3⟩ := at_NL2 HR.out i hlJ
        subst eA
        have hb10 : baseN J i ≤ 10 := by
          have := base_lt J hlJ
          have := EN.out
          omega
        have hr4 : r1.length ≤ 4 := by rw [er1]; exact HF.out.rl i
        have e2 : baseN J (i + 1) = baseN J i + r1.length := by
          unfold baseN
          rw [tasksN, List.length_append, jobT_len, er1]
        have ER1 := Aside0.mk er1
        have HJ := Aside0.mk (pw_cell_below HB2.out hr1)
        clear er1 hr1 hr3 hr2
        obtain ⟨Af, cf, ef⟩ := Kd.R_slice F.out.f
        subst ef
        have q1 : wr.cell? ⟨bn, 1, none⟩ = some (.slice Af (firstsN J i).length cf) := (blk_cell F.out.p 1).trans rfl
        obtain ⟨ba, eba⟩ : ∃ ba, ba = baseN J i := ⟨_, rfl⟩
        have EBA := Aside0.mk eba
        rw [← eba] at hb10 e2 ⊢
        clear eba
        refine wp_seq_k fun K1 hK1 => ?_
        have HK1 := Aside0.mk hK1
        clear hK1
        go_wp2
        refine HK1.out _ _ ?_
        clear HK1
        refine wp_seq_k fun K2 hK2 => ?_
        have HK2 := Aside0.mk hK2
        clear hK2
        refine wp_block ?_
        refine wp_seq_k fun K3 hK3 => ?_
        have HK3 := Aside0.mk hK3
        clear hK3
        go_wp2_with (first
          | ((with_reducible refine gate_builtin (b := .append) (xs := #[.tmp 37, .tmp 39]) rfl ?_); at_builtin; refine Kd.R_append (Kd.int .i64) (w0 := w2) w2.heap.size rfl (.tmp 37) (.tmp 39) 26 3 (.int .i64 0) 8 rfl Try.underlying26 info3 rfl (by decide) (by decide) (.slice Af (firstsN J i).length cf) (firstsN J i) (ba : Int) [.int .i64 (ba : Int)] (fun k => k ≠ bn ∧ k ≠ g3 ∧ k ≠ g6 ∧ k ≠ g7 ∧ k ≠ g10) (fun _ => False) rfl rfl ?aP (fun _ hk => hk.elim) (fun k hk => by have := F.out.lt; omega) F.out.f F.out.below F.out.below.size ?aL ?_; (case aP => exact rfl); (case aL => have := firstsN_len J i; omega); intro v4 w4 ho hb hg hat; obtain ⟨A4, c4, e4⟩ := Kd.R_slice ho; rw [List.length_append, List.length_singleton] at e4; subst e4; have F2 := Aside0.mk (F.out.grown hb hg ho); have q5 := (blk_cell (blk_grown F.out.p hg (fun e => (F.out.f.1 _ e.symm).1 rfl)) 1).trans rfl; have q6 := blk_frozen (blk_grown F.out.p hg (fun e => (F.out.f.1 _ e.symm).1 rfl)) 1; clear ho hb hg hat q1 F))
        refine HK3.out _ _ ?_
        clear HK3
        generalize w4.setCell ⟨bn, 1, none⟩ (.slice A4 ((firstsN J i).length + 1) c4) = w5 at F2 ⊢
        have q7 : w5.cell? (ad.add i) = some (.slice Ajb r1.length cjb) := pw_cell_below F2.out.below HJ.out
        have hwb : wrap64 ((ba : Int) + (r1.length : Int)) = (ba : Int) + (r1.length : Int) := wr64_in _ (by omega)
        go_wp2
        refine HK2.out _ _ ?_
        clear HK2
        have hwi : wrap64 ((i : Int) + 1) = (i : Int) + 1 := wr64_in _ (by omega)
        go_wp2
        go_roundw
        case rel =>
          refine ⟨i + 1, hlt, ?_, ?_, .slice A4 ((firstsN J i).length + 1) c4, ?_⟩
          · rw [e2]
            simp
          · simp
          · have e : firstsN J (i + 1) = firstsN J i ++ [(ba : Int)] := by rw [EBA.out]; rfl
            rw [e]
            exact F2
        case measure =>
          simp only [intOf, Int.toNat_natCast]
          omega
      · obtain rfl : i = nj := Nat.le_antisymm hi (Nat.le_of_not_lt hlt)
        have D0 : decide ((i : Int) < (i : Int)) = false := decide_eq_false (Int.lt_irrefl _)
        obtain ⟨Af, cf, ef⟩ := Kd.R_slice F.out.f
        rw [firstsN_len] at ef
        subst ef
        have hF' := F.out
        rw [ENJ.out, EN.out] at hF'
        have hD : Dat wr J (P0 J) A0 c0 At ct Af cf (some ⟨g3, 0, none⟩) J.length (some ⟨g6, 0, none⟩) J.length (some ⟨g7, 0, none⟩) 4 (some ⟨g10, 0, none⟩) (baseN J J.length) := by
          have hb := below_step HB2.out hF'.below
          have hj := HF.out.jl
          have hn := HF.out.nl
          have hT := HT.out
          rw [EN.out] at hT
          refine ⟨Kd.C_below HR.out hb, by rw [← ENJ.out]; exact HC.out, Kd.C_below hT.1 hF'.below, hT.2, RowN.of_R hF'.f, RowN.of_blk hF'.r3 (by simp; omega) (by simp), RowN.of_blk hF'.r6 (by simp; omega) (by simp), RowN.of_blk hF'.r7 (by simp) (by simp), RowN.of_blk hF'.r10 ?_ (by simp)⟩
          unfold baseN
          simp
          omega
        have HCALL : Aside0 (Calls Try.prog 34 #[.agg #[.slice At n ct, .slice Af i cf, .slice (some ⟨g3, 0, none⟩) i i, .slice (some ⟨g6, 0, none⟩) i i, .slice (some ⟨g7, 0, none⟩) 4 4, .slice (some ⟨g10, 0, none⟩) n n, .int .i64 0], .slice A0 i c0, .agg #[.slice none 0 0, .int .i64 (-1)]] wr (SrPost wr r)) := ⟨by
          have h := HSR.out wr ([], -1) none 0 A0 c0 At ct Af cf _ _ _ _ _ _ _ _ hD ⟨Nat.le_refl _, ⟨rfl, by simp, fun q => by cases q⟩, fun q => by cases q⟩ (fun q => by simp at q)
          rw [← EN.out, ← ENJ.out] at h
          rw [ER.out, ← EN.out]
          exact h⟩
        have HFF := Aside0.mk hF'.below
        clear hF' hD
        go_wp2_with (first
          | (refine wpList_load_row rfl 65 (.tmp 7) rfl bn rfl 65 #[.slice At n ct, .slice Af i cf, .slice (some ⟨g3, 0, none⟩) i i, .slice (some ⟨g6, 0, none⟩) i i, .slice (some ⟨g7, 0, none⟩) 4 4, .slice (some ⟨g10, 0, none⟩) n n, .int .i64 0] (0, 0) _ F.out.p Try.underlying65 rfl info65z ?_)
          | ((with_reducible refine HCALL.out.mono ?_); rintro e w6 ⟨hb6, A8, c8, rfl, hr8⟩; have HB6 := Aside0.mk (below_step (below_step HB2.out HFF.out) hb6); have HR8 := Aside0.mk hr8; have HN8 := Aside0.mk (blk_new w6 (Obj.cells #[.slice none 0 0, .int .i64 0] 67)); clear hb6 hr8)
          | (refine wpList_store_row rfl 67 (.tmp 10) (.tmp 52) rfl w6.heap.size #[.slice A8 r.1.length c8, .int .i64 r.2] rfl rfl 67 #[.slice none 0 0, .int .i64 0] HN8.out info67z rfl (by simp [Value.oneCell']) ?_))
        have HX := Aside0.mk (blk_drew (setRow_heap _ _ _ #[.slice A8 r.1.length c8, .int .i64 r.2] _ _ HN8.out))
        have HBX := Aside0.mk (below_drew1 (below_setRow (below_alloc HB6.out (Obj.cells #[.slice none 0 0, .int .i64 0] 67)) HB6.out.size #[.slice A8 r.1.length c8, .int .i64 r.2]))
        have HRX : Aside0 (RowN ((w6.alloc (Obj.cells #[.slice none 0 0, .int .i64 0] 67)).setRow w6.heap.size #[.slice A8 r.1.length c8, .int .i64 r.2]).drew A8 r.1.length c8 r.1) := ⟨((HR8.out.below (below_alloc (Below.refl _ _) _)).setRow HN8.out (by decide)).below (below_drew1 (Below.refl _ _))⟩
        have c1 : ((w6.alloc (Obj.cells #[.slice none 0 0, .int .i64 0] 67)).setRow w6.heap.size #[.slice A8 r.1.length c8, .int .i64 r.2]).drew.cell? ⟨w6.heap.size, 0, none⟩ = some (.slice A8 r.1.length c8) := (blk_cell HX.out 0).trans rfl
        have c2 : ((w6.alloc (Obj.cells #[.slice none 0 0, .int .i64 0] 67)).setRow w6.heap.size #[.slice A8 r.1.length c8, .int .i64 r.2]).drew.cell? ⟨w6.heap.size, 1, none⟩ = some (.int .i64 r.2) := (blk_cell HX.out 1).trans rfl
        refine start_ (n := 7) (S := fun w' => w'.cell? ⟨w6.heap.size, 0, none⟩ = some (.slice A8 r.1.length c8) ∧ w'.cell? ⟨w6.heap.size, 1, none⟩ = some (.int .i64 r.2)) (ds := []) #[false, false, false, false, false, false, false] (by kernel_rfl) rfl rfl ⟨c1, c2⟩ (fun hHeld => ?_)
        refine with_tabW rs13tab rs13bits (fun HT_ HW_ => ?_)
        clear c1 c2 HX
        generalize ((w6.alloc (Obj.cells #[.slice none 0 0, .int .i64 0] 67)).setRow w6.heap.size #[.slice A8 r.1.length c8, .int .i64 r.2]).drew = w7 at HBX HRX hHeld ⊢
        refine pure_ (i := 0) (N := some 53) (v := ?_) (a' := ?_) (qd 7 1) rfl rfl (any_of HT_.out (by kernel_rfl)) (fun _ _ _ h => h) (Or.inl ⟨by rfl, ?_⟩) ?_ ?_
        rotate_left
        · intro w'
          go_simp
          with_reducible rfl
        rotate_left
        · simp only [Act.put, qa, qb, qc, i64_w, i32_w]
          rfl
        refine pure_ (i := 2) (N := some 55) (v := ?_) (a' := ?_) (qd 7 5) rfl rfl (any_of HT_.out (by kernel_rfl)) (fun _ _ _ h => h) (Or.inl ⟨by rfl, ?_⟩) ?_ ?_
        rotate_left
        · intro w'
          go_simp
          with_reducible rfl
        rotate_left
        · simp only [Act.put, qa, qb, qc, i64_w, i32_w]
          rfl
        refine take_ (i := 1) (N := some 54) (v := ?_) (a' := ?_) (qd 7 7) rfl rfl (take_ofW HT_.out HW_.out (by kernel_rfl)) (fun _ _ _ h => h) (Or.inl ⟨by rfl, ?_⟩) hHeld ?_ ?_
        rotate_left
        · rintro w' ⟨s0, s1⟩
          go_simp
          with_reducible rfl
        rotate_left
        · simp only [Act.put, qa, qb, qc, i64_w, i32_w]
          rfl
        refine pure_ (i := 4) (N := some 2) (v := ?_) (a' := ?_) (qd 7 23) rfl rfl (any_of HT_.out (by kernel_rfl)) (fun _ _ _ h => h) (Or.inl ⟨by rfl, ?_⟩) ?_ ?_
        rotate_left
        · intro w'
          go_simp
          with_reducible rfl
        rotate_left
        · simp only [Act.put, qa, qb, qc, i64_w, i32_w]
          rfl
        refine take_ (i := 3) (N := some 56) (v := ?_) (a' := ?_) (qd 7 31) rfl rfl (take_ofW HT_.out HW_.out (by kernel_rfl)) (fun _ _ _ h => h) (Or.inl ⟨by rfl, ?_⟩) hHeld ?_ ?_
        rotate_left
        · rintro w' ⟨s0, s1⟩
          go_simp
          with_reducible rfl
        rotate_left
        · simp only [Act.put, qa, qb, qc, i64_w, i32_w]
          rfl
        refine pure_ (i := 5) (N := some 3) (v := ?_) (a' := ?_) (qd 7 63) rfl rfl (any_of HT_.out (by kernel_rfl)) (fun _ _ _ h => h) (Or.inl ⟨by rfl, ?_⟩) ?_ ?_
        rotate_left
        · intro w'
          go_simp
          with_reducible rfl
        rotate_left
        · simp only [Act.put, qa, qb, qc, i64_w, i32_w]
          rfl
        refine pure_ (i := 6) (N := some 4) (v := ?_) (a' := ?_) (qd 7 127) rfl rfl (any_of HT_.out (by kernel_rfl)) (fun _ _ _ h => h) (Or.inl ⟨by rfl, ?_⟩) ?_ ?_
        rotate_left
        · intro w'
          go_simp
          with_reducible rfl
        rotate_left
        · simp only [Act.put, qa, qb, qc, i64_w, i32_w]
          rfl
        refine done_ (done_of HT_.out (by kernel_rfl)) ?_
        go_wp2
        go_ret3
        exact ⟨HBX.out, fun h => absurd HE.out h, fun _ => ⟨A8, c8, rfl, HRX.out⟩⟩
  · obtain ⟨x, ex⟩ : ∃ x, x = ofErr J := ⟨_, rfl⟩
    rw [← ex] at he HG
    have d1 : (x != 0) = true := bne_iff_ne.2 he
    have EX := Aside0.mk ex
    have HE := Aside0.mk he
    clear ex he
    go_enter Try.func16, Try.ntmps16
    go_wp2_with (first
      | ((with_reducible refine HG.out.mono ?_); rintro e w1 ⟨rfl, hb1⟩; have HB1 := Aside0.mk hb1; clear hb1))
    go_ret3
    exact ⟨HB1.out, fun _ => by rw [← EX.out]; rfl, fun h => absurd (EX.out.trans h) HE.out⟩
set_option linter.unusedSimpArgs false
set_option linter.unusedVariables false
open Go.RowKit Go.Proofs.YtipkhaicjjeieaaW.PrintWords Go.Proofs.YtipkhaicjjeieaaW.PrintLast Go.Proofs.YtipkhaicjjeieaaW.PrintMore
set_option maxHeartbeats 2000000 in
set_option maxRecDepth 100000 in
theorem law_ShopSolves.calls (A0 : Option Addr) (c0 : Nat) (J : List (List S40)) (w : World) (hr : Kd.C (Kd.slice 40 k40) w A0 J.length J) (hc : J.length ≤ c0) :
    Calls Try.prog 3 #[.slice A0 J.length c0] w fun e w' => e = .returned (.bool true) ∧ Below w.heap.size w w' := by
  have HR := Aside0.mk hr
  have HC := Aside0.mk hc
  obtain ⟨kf, b, hkf, hfew⟩ := few_f J
  have HFW := Aside0.mk (tinplatelaw06_few.calls kf A0 c0 J b w hr hc hkf)
  clear hr hc hkf
  cases b with
  | false =>
    go_enter Try.func3, Try.ntmps3
    go_wp2_with (first
      | ((with_reducible refine HFW.out.mono ?_); rintro e w1 ⟨rfl, hb1⟩; have HB1 := Aside0.mk hb1.below; clear hb1)
      | ((with_reducible refine (law06_alive.calls _).mono ?_); rintro e w2 ⟨rfl, hb2⟩; have HB2 := Aside0.mk hb2; clear hb2))
    go_ret
    exact ⟨rfl, below_step HB1.out HB2.out⟩
  | true =>
    obtain ⟨h20, hl20⟩ := hfew rfl
    have hm : J.length ≤ 1000 := by omega
    have hl : ∀ i, (J.getD i []).length ≤ 1000 := fun i => by have := hl20 i; omega
    obtain ⟨kc, hkc⟩ := copied_f J hm hl
    obtain ⟨ke, hke⟩ := equal_f J hm hl
    have HKC := Aside0.mk hkc
    have HKE := Aside0.mk hke
    have HL := Aside0.mk (And.intro hm hl)
    clear hfew hkc hke hl20
    by_cases he : ofErr J = 0
    · obtain ⟨l, m, hb1, hb2, hs, hlen⟩ := searches (ofErr_fit he)
      have HB1_ : Aside0 ((bestF J).best = some l) := ⟨hb1⟩
      have HB2_ : Aside0 ((bestF J).least = m) := ⟨hb2⟩
      have HS_ := Aside0.mk hs
      have HE := Aside0.mk he
      have hn := (ofErr_fit he).nl
      have hl10 : l.length ≤ 1000 := by rw [hlen]; unfold baseN; omega
      obtain ⟨ks, hks⟩ := same_f l hl10
      have HKS := Aside0.mk hks
      clear hb1 hb2 hs he hlen hn hl10 hks
      go_enter Try.func3, Try.ntmps3
      go_wp2_with (first
        | ((with_reducible refine HFW.out.mono ?_); rintro e w1 ⟨rfl, hb1⟩; have HB1 := Aside0.mk hb1.below; clear hb1)
        | ((with_reducible refine (tinplatelaw06_copied.calls kc A0 c0 J J w1 (Kd.C_below HR.out HB1.out) HC.out HKC.out).mono ?_); rintro e w2 ⟨v0, rfl, ho2, hb2⟩; obtain ⟨A1, c1, e2, hc2, hC2⟩ := Kd.S_reads ho2; subst e2; have HC2 := Aside0.mk hC2; have HL2 := Aside0.mk hc2; have HB2 := Aside0.mk (below_step HB1.out hb2); clear ho2 hb2 hc2 hC2)
        | ((with_reducible refine (shop_Solve.calls A1 c1 J w2 HC2.out HL2.out HL.out.1).mono ?_); rintro e w3 ⟨hb3, _, h3⟩; obtain ⟨v3, rfl, hv3⟩ := h3 HE.out; rw [HB1_.out] at hv3; rw [HB2_.out]; obtain ⟨A7, c7, e7, hc7, hC7⟩ := Kd.R_reads hv3; subst e7; have HV3 := Aside0.mk (And.intro hc7 hC7); have HB3 := Aside0.mk hb3; clear hb3 h3 hv3 hc7 hC7)
        | ((with_reducible refine (ref_Solve.calls A0 c0 J w3 (Kd.C_below HR.out (below_step HB2.out HB3.out)) HC.out HL.out.1 HL.out.2).mono ?_); rw [HS_.out]; rintro e w4 ⟨hb4, _, h4⟩; obtain ⟨A8, c8, rfl, hr8⟩ := h4 HE.out; (have HV8 : Aside0 (l.length ≤ c8 ∧ Kd.C (Kd.int .i64) w4 A8 l.length l) := ⟨hr8.1, hr8.2.1⟩); have HV4 := Aside0.mk (Kd.C_below HV3.out.2 hb4); have HBS := Aside0.mk (below_step HB3.out hb4); have HB4 := Aside0.mk (below_step HB2.out (below_step HB3.out hb4)); clear hb4 h4 hr8)
        | ((with_reducible refine (tinplatelaw06_same.calls ks A7 c7 l A8 c8 l true w4 HV4.out HV3.out.1 HV8.out.2 HV8.out.1 HKS.out).mono ?_); rintro e w5 ⟨rfl, hb5⟩; have HB5 := Aside0.mk hb5.below; clear hb5)
        | ((with_reducible refine (tinplatelaw06_equal.calls ke A1 c1 J A0 c0 J true _ (Kd.C_below HC2.out (below_step HBS.out HB5.out)) HL2.out (Kd.C_below HR.out (below_step HB4.out HB5.out)) HC.out HKE.out).mono ?_); rintro e w6 ⟨rfl, hb6⟩; have HB6 := Aside0.mk (below_step HB4.out (below_step HB5.out hb6.below)); clear hb6)
        | ((with_reducible refine (law06_alive.calls _).mono ?_); rintro e w7 ⟨rfl, hb7⟩; have HB7 := Aside0.mk (below_step HB6.out hb7); clear hb7))
      go_ret
      exact ⟨rfl, HB7.out⟩
    · have HE := Aside0.mk he
      obtain ⟨ks, hks⟩ := same_f [] (by simp)
      have HKS := Aside0.mk hks
      obtain ⟨er, eer⟩ : ∃ er, er = ofErr J := ⟨_, rfl⟩
      have EER := Aside0.mk eer
      clear he hks eer
      go_enter Try.func3, Try.ntmps3
      go_wp2_with (first
        | ((with_reducible refine HFW.out.mono ?_); rintro e w1 ⟨rfl, hb1⟩; have HB1 := Aside0.mk hb1.below; clear hb1)
        | ((with_reducible refine (tinplatelaw06_copied.calls kc A0 c0 J J w1 (Kd.C_below HR.out HB1.out) HC.out HKC.out).mono ?_); rintro e w2 ⟨v0, rfl, ho2, hb2⟩; obtain ⟨A1, c1, e2, hc2, hC2⟩ := Kd.S_reads ho2; subst e2; have HC2 := Aside0.mk hC2; have HL2 := Aside0.mk hc2; have HB2 := Aside0.mk (below_step HB1.out hb2); clear ho2 hb2 hc2 hC2)
        | ((with_reducible refine (shop_Solve.calls A1 c1 J w2 HC2.out HL2.out HL.out.1).mono ?_); rintro e w3 ⟨hb3, h3, _⟩; rw [← EER.out] at h3; have h3 := h3 (by rw [EER.out]; exact HE.out); subst h3; have HB3 := Aside0.mk hb3; clear hb3)
        | ((with_reducible refine (ref_Solve.calls A0 c0 J w3 (Kd.C_below HR.out (below_step HB2.out HB3.out)) HC.out HL.out.1 HL.out.2).mono ?_); rintro e w4 ⟨hb4, h4, _⟩; rw [← EER.out] at h4; have h4 := h4 (by rw [EER.out]; exact HE.out); subst h4; have HBS := Aside0.mk (below_step HB3.out hb4); have HB4 := Aside0.mk (below_step HB2.out (below_step HB3.out hb4)); clear hb4; (have HSM : Aside0 (Calls Try.prog 17 #[.slice none 0 0, .slice none 0 0] w4 (fun e w' => e = .returned (.bool true) ∧ Drawn0 w4 w')) := ⟨tinplatelaw06_same.calls ks none 0 [] none 0 [] true w4 (Kd.C_nil _ _) (Nat.le_refl _) (Kd.C_nil _ _) (Nat.le_refl _) HKS.out⟩))
        | ((with_reducible refine HSM.out.mono ?_); rintro e w5 ⟨rfl, hb5⟩; have HB5 := Aside0.mk hb5.below; clear hb5)
        | ((with_reducible refine (tinplatelaw06_equal.calls ke A1 c1 J A0 c0 J true _ (Kd.C_below HC2.out (below_step HBS.out HB5.out)) HL2.out (Kd.C_below HR.out (below_step HB4.out HB5.out)) HC.out HKE.out).mono ?_); rintro e w6 ⟨rfl, hb6⟩; have HB6 := Aside0.mk (below_step HB4.out (below_step HB5.out hb6.below)); clear hb6)
        | ((with_reducible refine (law06_alive.calls _).mono ?_); rintro e w7 ⟨rfl, hb7⟩; have HB7 := Aside0.mk (below_step HB6.out hb7); clear hb7))
      go_ret
      exact ⟨rfl, HB7.out⟩
set_option linter.unusedSimpArgs false
set_option linter.unusedVariables false
open Go.RowKit Go.Deep Go.ChangeShapes Go.WideShapes Go.Proofs.YtipkhaicjjeieaaW.PrintWords Go.Proofs.YtipkhaicjjeieaaW.PrintLast Go.Proofs.YtipkhaicjjeieaaW.PrintMore
section
variable {H : Type} {enc : TypeId × Value → H} {P : Program} {W : World} {base : Nat} {held : Bool}
theorem reads_tasks {e q : TypeId} {f0 f1 : Field} (he : P.underlying e = some (.slice q)) (hq : P.underlying q = some (.struct #[f0, f1])) (cq : P.cellsOf q = 2) (o0 : f0.offset = 0) (o1 : f1.offset = 1) (c0 : P.cellsOf f0.type = 1) (c1 : P.cellsOf f1.type = 1) (u0 : P.underlying f0.type = some (.int .i64)) (u1 : P.underlying f1.type = some (.int .i64))
    {fuel : Nat} {v : Value} {x : DataW H × List MemPlace} (h : DataW.trod enc P W base (fun _ => true) held fuel e [v] = some x) : ∃ (r : List S40) (A : Option Addr) (c : Nat), v = .slice A r.length c ∧ r.length ≤ c ∧ k40.C W A r.length r := by
  rcases open_slice_pairs he hq cq o0 o1 c0 c1 h with ⟨hcs, _⟩ | ⟨a, len, cap, m, n, V0, V1, D0, D1, P0, P1, hcs, _, hl, hm, hmm, _, hx⟩
  · simp only [List.cons.injEq, and_true] at hcs
    subst hcs
    exact ⟨[], none, 0, rfl, Nat.le_refl _, ⟨rfl, Nat.zero_le _, fun hn => absurd hn (by simp)⟩⟩
  · simp only [List.cons.injEq, and_true] at hcs
    subst hcs
    have hlm : len ≤ m := by rw [hmm]; simpa using hl
    have each : ∀ i, i < len → ∃ y : Int × Int, W.cell? (a.add (i * 2)) = some (.int .i64 y.1) ∧ W.cell? (a.add (i * 2 + 1)) = some (.int .i64 y.2) := by
      intro i hi
      obtain ⟨h0, h1, h2, h3⟩ := hx i (by omega)
      obtain ⟨z0, e0, _⟩ := DataW.trod_int u0 h2
      obtain ⟨z1, e1, _⟩ := DataW.trod_int u1 h3
      simp only [List.cons.injEq, and_true] at e0 e1
      exact ⟨(z0, z1), by rw [h0, e0], by rw [h1, e1]⟩
    obtain ⟨y, hy⟩ := choose_lt each
    have hlen : ((List.range len).map fun i => (⟨(y i).1, (y i).2⟩ : S40)).length = len := by simp
    refine ⟨(List.range len).map fun i => ⟨(y i).1, (y i).2⟩, some a, cap, by rw [hlen], by rw [hlen]; exact hl, ?_⟩
    rw [hlen]
    refine ⟨hlen, by unfold maxLen at hm; omega, fun _ => ⟨a, rfl, fun j p hp => ?_⟩⟩
    have hj : j < len := by
      have := (List.getElem?_eq_some_iff.1 hp).1
      simpa using this
    have ep : p = ⟨(y j).1, (y j).2⟩ := by
      rw [List.getElem?_map, List.getElem?_range hj] at hp
      simpa using hp.symm
    subst ep
    obtain ⟨g0, g1⟩ := hy j hj
    refine ⟨_, rfl, k40_mk W _, fun i u hu => ?_⟩
    have es : k40.sz = 2 := rfl
    rw [es]
    match i, hu with
    | 0, hu => cases hu; exact g0
    | 1, hu => cases hu; exact g1
theorem reads_task_rows {t e q : TypeId} {f0 f1 : Field} (hq40 : q = 40) (ht : P.underlying t = some (.slice e)) (ce : P.cellsOf e = 1) (he : P.underlying e = some (.slice q)) (hq : P.underlying q = some (.struct #[f0, f1])) (cq : P.cellsOf q = 2) (o0 : f0.offset = 0) (o1 : f1.offset = 1) (c0 : P.cellsOf f0.type = 1) (c1 : P.cellsOf f1.type = 1) (u0 : P.underlying f0.type = some (.int .i64)) (u1 : P.underlying f1.type = some (.int .i64))
    {a : Option Addr} {len cap : Nat} {d : DataW H} {ps : List MemPlace} (h : DataW.Trod enc P W base (fun _ => true) held t (.slice a len cap) d ps) :
    ∃ l : List (List S40), len = l.length ∧ Kd.C (Kd.slice 40 k40) W a l.length l ∧ l.length ≤ cap := by
  subst hq40
  obtain ⟨fuel, hf⟩ := h
  rcases open_slice1 ht ce hf with ⟨hcs, _⟩ | ⟨b, len', cap', m, n, V, D, Pl, hcs, _, hl, hm, hmm, _, hx⟩
  · simp [Value.cells] at hcs
    obtain ⟨rfl, rfl, rfl⟩ := hcs
    exact ⟨[], rfl, ⟨rfl, Nat.zero_le _, fun hn => absurd hn (by simp)⟩, Nat.zero_le _⟩
  · simp [Value.cells] at hcs
    obtain ⟨rfl, rfl, rfl⟩ := hcs
    have hlm : len ≤ m := by rw [hmm]; simpa using hl
    have each : ∀ i, i < len → ∃ y : List S40 × Option Addr × Nat, W.cell? (b.add i) = some (.slice y.2.1 y.1.length y.2.2) ∧ y.1.length ≤ y.2.2 ∧ k40.C W y.2.1 y.1.length y.1 := by
      intro i hi
      obtain ⟨h0, h1⟩ := hx i (by omega)
      obtain ⟨r, A, c, ev, h2, h3⟩ := reads_tasks he hq cq o0 o1 c0 c1 u0 u1 h1
      exact ⟨(r, A, c), by rw [h0, ev], h2, h3⟩
    obtain ⟨y, hy⟩ := choose_lt each
    have hlen : ((List.range len).map fun i => (y i).1).length = len := by simp
    refine ⟨(List.range len).map fun i => (y i).1, hlen.symm, ?_, by rw [hlen]; exact hl⟩
    rw [hlen]
    refine ⟨hlen, by unfold maxLen at hm; omega, fun _ => ⟨b, rfl, fun j p hp => ?_⟩⟩
    have hj : j < len := by
      have := (List.getElem?_eq_some_iff.1 hp).1
      simpa using this
    have ep : p = (y j).1 := by
      rw [List.getElem?_map, List.getElem?_range hj] at hp
      simpa using hp.symm
    subst ep
    obtain ⟨g0, g1, g2⟩ := hy j hj
    refine ⟨[.slice (y j).2.1 (y j).1.length (y j).2.2], rfl, ⟨(y j).2.1, (y j).2.2, rfl, g1, g2⟩, fun i u hu => ?_⟩
    match i, hu with
    | 0, hu =>
      cases hu
      show W.cell? (b.add (j * 1 + 0)) = _
      rw [Nat.mul_one, Nat.add_zero]
      exact g0
end
end Go.Proofs.Ytipkhaicjjeieaa.V
end
