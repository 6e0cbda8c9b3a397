/- Walks of the shop's functions, tenth text: a visit of the search for the longest chains. -/
import Derived.Test.YtipkhaicjjeieaaKLShI
namespace Go.Proofs.Ytipkhaicjjeieaa.V
set_option linter.unusedSimpArgs false
set_option linter.unusedVariables false
open Go.RowKit Go.Proofs.YtipkhaicjjeieaaW.PrintWords Go.Proofs.YtipkhaicjjeieaaW.PrintLast Go.Proofs.YtipkhaicjjeieaaW.PrintMore
def VisitPost (w0 : World) (B gu gf g : Nat) (o : Array Value) (nx : Nat → Nat → Bool) (n : Nat) (r : Dre) (e : Ending) (w' : World) : Prop :=
  match r with
  | .ok S' => (∃ v, e = .returned v) ∧ Dfs w0 B gu gf g o nx n w' S'
  | .cyc l => ∃ A c, e = .panicked [{ v := .iface 128 (.agg #[.slice A l.length c]), recovered := false }] ∧ Kd.R (Kd.int .i64) 3 w' B (fun _ => True) (.slice A l.length c) l ∧ Below B w0 w'
theorem slices_Clone_drop.calls (A : Option Addr) (c m : Nat) (l : List Int) (w : World) (hr : Kd.C (Kd.int .i64) w A (l.drop m).length (l.drop m)) (hc : l.length - m ≤ c) (hm : l.length ≤ 1000) :
    Calls Try.prog 68 #[.slice A (l.length - m) c] w fun e w' => ∃ v0_ : Value, e = .returned v0_ ∧ Kd.R (Kd.int .i64) 3 w' w.heap.size (fun _ => True) v0_ (l.drop m) ∧ Below w.heap.size w w' := by
  have h := slices_Clone.calls A c (l.drop m) w hr (by rw [List.length_drop]; exact hc) (by rw [List.length_drop]; omega)
  rwa [List.length_drop] at h
set_option maxHeartbeats 8000000 in
set_option maxRecDepth 100000 in
theorem visit_cyc (w0 : World) (B gu gf g n : Nat) (o : Array Value) (nx : Nat → Nat → Bool) (t : Nat) (S : Dst) (w : World) (hd : Dfs w0 B gu gf g o nx n w S) (ht : t < n) (hp : S.pa.length ≤ 100) (h1 : S.st.getD t 0 = 1) (hi : 0 ≤ indexN S.pa t S.pa.length) :
    Calls Try.prog 78 #[.int .i64 t, .pointer (some ⟨B + 7, 0, none⟩), .pointer (some ⟨B + 8, 0, none⟩), .pointer (some ⟨B + 2, 0, none⟩), .pointer (some ⟨B + 3, 0, none⟩), .pointer (some ⟨B, 0, none⟩), .pointer (some ⟨B + 9, 0, none⟩), .pointer (some ⟨B + 1, 0, none⟩)] w
      (VisitPost w0 B gu gf g o nx n (.cyc (S.pa.drop (indexN S.pa t S.pa.length).toNat ++ [(t : Int)]))) := by
  obtain ⟨v, pp, pr⟩ := hd.pa
  obtain ⟨l, el⟩ : ∃ l, l = S.pa := ⟨_, rfl⟩
  rw [← el] at pr hp hi ⊢
  have EL := Aside0.mk el
  clear el
  obtain ⟨k, ek⟩ : ∃ k : Nat, (k : Int) = indexN l t l.length := ⟨_, Int.toNat_of_nonneg hi⟩
  have hk := (indexN_lt l t l.length).2
  rw [← ek] at hk ⊢
  have hkn : k < l.length := by omega
  obtain ⟨gp, cap, rfl, gb, gl, _⟩ := Kd.R_form pr (by omega)
  obtain ⟨_, hlc, hC⟩ := Kd.R_reads' pr
  have q1 : w.cell? ⟨B + 7, 0, none⟩ = some (.slice (some ⟨B + 6, 0, none⟩) n n) := (blk_cell hd.ps 0).trans rfl
  have q2 := (blk_cell hd.rs t).trans (rowI_get S.st t (by rw [hd.lens.1]; exact ht))
  rw [h1] at q2
  have q3 : w.cell? ⟨B + 8, 0, none⟩ = some (.slice (some ⟨gp, 0, none⟩) l.length cap) := (blk_cell pp 0).trans rfl
  have hti : (t : Int) < (n : Int) := by omega
  have hcut := Kd.C_drop hC (m := k) (c := cap) (by omega) hlc
  rw [if_neg (by omega)] at hcut
  have eA : (some (⟨gp, 0, none⟩ : Addr)).map (·.add (k * (Kd.int .i64).sz)) = some ⟨gp, k, none⟩ := by
    show some (Addr.add ⟨gp, 0, none⟩ (k * 1)) = _
    rw [Nat.mul_one]
    cases k with
    | zero => rfl
    | succ j => rw [addS, Nat.zero_add]
  rw [eA] at hcut
  have HD := Aside0.mk hd
  have HC := Aside0.mk hC
  have HCUT := Aside0.mk hcut
  have EK := Aside0.mk ek
  have HP := Aside0.mk hp
  have hk2 : (k : Int) ≤ (l.length : Int) := by omega
  have hk3 : (l.length : Int) ≤ (cap : Int) := by omega
  have hk4 : 0 ≤ (k : Int) := by omega
  clear ek hd pp pr hC hcut hp hi
  go_enter Try.func78, Try.ntmps78
  go_wp2_with (first
    | ((with_reducible refine (slices_Index.calls (some ⟨gp, 0, none⟩) cap l t _ HC.out hlc (by have := HP.out; omega)).mono ?_); rw [← EK.out]; rintro e w1 ⟨rfl, hb1⟩; have HB1 := Aside0.mk hb1; have q4 := pw_cell_below hb1 q3; have Z1 : B ≤ w1.heap.size := (by have := HD.out.sz; have := below_size hb1; omega); have HW1 := Aside0.mk (below_then HD.out.below (by have := HD.out.sz; omega) hb1); clear hb1 q3)
    | ((with_reducible refine (slices_Clone_drop.calls (some ⟨gp, k, none⟩) (cap - k) k l _ (Kd.C_below HCUT.out HB1.out) (by omega) (by have := HP.out; omega)).mono ?_); rintro e w2 ⟨v1, rfl, ho, hb2⟩; have Z2 : B ≤ w2.heap.size := (by have := below_size hb2; omega); have HW2 := Aside0.mk (below_then HW1.out Z1 hb2); have HO2 := Aside0.mk (Kd.R_lower ho Z1); clear ho hb2 q4)
    | ((with_reducible refine gate_builtin (b := .append) (xs := #[.tmp 22, .tmp 24]) rfl ?_); at_builtin; refine Kd.R_append (Kd.int .i64) (w0 := w0) B rfl (.tmp 22) (.tmp 24) 26 3 (.int .i64 0) 8 rfl Try.underlying26 info3 rfl (by decide) (by decide) v1 (l.drop k) (t : Int) [.int .i64 (t : Int)] (fun _ => True) (fun _ => False) rfl rfl ?aP (fun _ hk => hk.elim) (fun _ _ => trivial) HO2.out HW2.out Z2 ?aL ?_; (case aP => exact rfl); (case aL => have := HP.out; have := List.length_drop (i := k) (l := l); omega); intro v3 w3 ho hb hg hat; obtain ⟨A3, c3, rfl⟩ := Kd.R_slice ho; have HO3 := Aside0.mk ho; have HW3 := Aside0.mk hb; clear ho hb hg hat)
    )
  show _ ∧ _
  have eL : (l.drop k ++ [(t : Int)]).length = l.length - k + 1 := by rw [List.length_append, List.length_drop, List.length_singleton]
  exact ⟨rfl, A3, c3, by rw [eL], HO3.out, HW3.out⟩
set_option maxHeartbeats 8000000 in
set_option maxRecDepth 100000 in
theorem visit_done (w0 : World) (B gu gf g n : Nat) (o : Array Value) (nx : Nat → Nat → Bool) (t : Nat) (S : Dst) (w : World) (hd : Dfs w0 B gu gf g o nx n w S) (ht : t < n) (h1 : S.st.getD t 0 = 2) :
    Calls Try.prog 78 #[.int .i64 t, .pointer (some ⟨B + 7, 0, none⟩), .pointer (some ⟨B + 8, 0, none⟩), .pointer (some ⟨B + 2, 0, none⟩), .pointer (some ⟨B + 3, 0, none⟩), .pointer (some ⟨B, 0, none⟩), .pointer (some ⟨B + 9, 0, none⟩), .pointer (some ⟨B + 1, 0, none⟩)] w
      (VisitPost w0 B gu gf g o nx n (.ok S)) := by
  have q1 : w.cell? ⟨B + 7, 0, none⟩ = some (.slice (some ⟨B + 6, 0, none⟩) n n) := (blk_cell hd.ps 0).trans rfl
  have q2 := (blk_cell hd.rs t).trans (rowI_get S.st t (by rw [hd.lens.1]; exact ht))
  rw [h1] at q2
  have hti : (t : Int) < (n : Int) := by omega
  have HD := Aside0.mk hd
  clear hd
  go_enter Try.func78, Try.ntmps78
  go_wp2
  (try simp only [Exit.inBlock, Exit.then])
  refine bodyPost_ret (results_none rfl _ _ _) rfl ?_
  exact ⟨⟨_, rfl⟩, HD.out⟩
end Go.Proofs.Ytipkhaicjjeieaa.V
