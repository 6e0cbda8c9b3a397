/- What the line's Eigen answers: an error, or a column of the slack's closure at the first critical vertex, less its least entry. Bounds stand in each theorem. -/
import Derived.Test.YthjmfbmffchicaaKRRefK
import Derived.Test.YthjmfbmffchicaaKRPot
import Derived.Test.YthjmfbmffchicaaKRf4
namespace Go.Proofs.Ythjmfbmffchicaa.Pure
open Go.RowKit Go.Proofs.Ythjmfbmffchicaa.V Go.Proofs.YthjmfbmffchicaaW.PrintWords Go.Proofs.YthjmfbmffchicaaW.PrintLast Go.Proofs.YthjmfbmffchicaaW.PrintMore
open Go.Proofs.Ythjmfbmffchicaa.Mp
def Conn (n : Nat) (a : Nat → Nat → Int) : Prop := ∀ i j, i < n → j < n → ∃ L v, Wk n a v L ∧ v 0 = j ∧ v L = i
theorem zero_wk {n : Nat} {a : Nat → Nat → Int} {v : Nat → Nat} {L : Nat} : Wk n (zerof a) v L ↔ Wk n a v L := by
  have e : ∀ i j, zerof a i j = NEV ↔ a i j = NEV := fun i j => by
    unfold zerof mapf
    by_cases h : a i j = NEV
    · rw [if_pos h]; exact ⟨fun _ => h, fun _ => rfl⟩
    · rw [if_neg h]; exact ⟨fun h2 => absurd (show (0 : Int) = NEV from h2) (by decide), fun h2 => absurd h2 h⟩
  exact ⟨fun h => ⟨h.lt, fun t ht h2 => h.arc t ht ((e _ _).2 h2)⟩, fun h => ⟨h.lt, fun t ht h2 => h.arc t ht ((e _ _).1 h2)⟩⟩
theorem conn_iff {n : Nat} (_hn : n ≤ 6) (a : Nat → Nat → Int) : (∀ i j, i < n → j < n → fwk (zerof a) n i j ≠ NEV) ↔ Conn n a := by
  have hz : BdM n n 0 (zerof a) := zero_bd n a
  constructor
  · intro h i j hi hj
    rcases fwk_att (a := zerof a) n (by omega) i j hi hj with e | ⟨L, v, hv, v0, vL, _⟩
    · exact absurd e (h i j hi hj)
    · exact ⟨L, v, zero_wk.1 hv, v0, vL⟩
  · intro h i j hi hj
    obtain ⟨L, v, hv, v0, vL⟩ := h i j hi hj
    have := (walk_star hz (by omega) (by omega) (zero_nopos n a) (by omega) (by omega) L (zero_wk.2 hv)).1
    rwa [v0, vL] at this
theorem Conn.star {n : Nat} {a : Nat → Nat → Int} (h : Conn n a) {num den : Int} (hn : n ≤ 6) (ha : BdM n n 1000 a) (ht : Top n a (Seen n (n + 1) 0) num den) (i j : Nat) (hi : i < n) (hj : j < n) : fwk (slackf num den a) n i j ≠ NEV := by
  have t6 := pow6 hn
  obtain ⟨L, v, hv, v0, vL⟩ := h i j hi hj
  have := (walk_star (slack_bd ha ht) (by omega) (by omega) (slack_nopos hn ha ht) (by omega) (by omega) L (slack_wk' ha ht hv)).1
  rwa [v0, vL] at this
structure EigIs (n : Nat) (a : Nat → Nat → Int) (num den : Int) (c : Nat) (m : Int) : Prop where
  top : Top n a (Seen n (n + 1) 0) num den
  conn : Conn n a
  lt : c < n
  head : rd (critL n (slackf num den a) (fwk (slackf num den a) n) n) 0 = (c : Int)
  crit : ∃ j, j < n ∧ pl (slackf num den a c j) (fwk (slackf num den a) n j c) = 0
  le : ∀ i, i < n → m ≤ fwk (slackf num den a) n i c
  mem : ∃ i, i < n ∧ m = fwk (slackf num den a) n i c
def eigv (n : Nat) (a : Nat → Nat → Int) (num den : Int) (c : Nat) (m : Int) (i : Nat) : Int := fwk (slackf num den a) n i c - m
theorem Eigen_no {A : List (List Int)} (ra : Rows A) (h : ¬ ∃ n, Arg n A) : Ev (fun k => line_Eigen.f k A) ([], 2) ∧ Ev (fun k => line_Speed.f k A) (0, 0, 2) := by
  have eo := ((of_f A ra).resolve_left (fun h2 => h h2.1)).2
  have e1 : Ev (fun k => line_looked.f k A) ([], 0, 0, [], [], 2) := by
    unfold line_looked.f
    exact Ev.bind eo (ev_some fun k => if_neg (by decide))
  constructor
  · unfold line_Eigen.f
    exact Ev.bind e1 (ev_some fun k => if_neg (by decide))
  · unfold line_Speed.f
    exact Ev.bind eo (ev_some fun k => if_neg (by decide))
theorem eig_bd {n : Nat} (hn : n ≤ 6) {a : Nat → Nat → Int} (ha : BdM n n 1000 a) {num den : Int} (ht : Top n a (Seen n (n + 1) 0) num den) : BdM n n 768000 (fwk (slackf num den a) n) := fun i j hi hj => by
  have t6 := pow6 hn
  exact (fwk_bd (slack_bd ha ht) (by omega) n (by omega) i j hi hj).mono (by omega)
theorem Eigen_f {n : Nat} {A : List (List Int)} (hA : Arg n A) (ra : Rows A) :
    ((∀ k i, Seen n (n + 1) 0 k i → powf n (ent A) k i i = NEV) ∧ Ev (fun k => line_Eigen.f k A) ([], 10) ∧ Ev (fun k => line_Speed.f k A) (0, 0, 10)) ∨
    ∃ num den, Top n (ent A) (Seen n (n + 1) 0) num den ∧ Ev (fun k => line_Speed.f k A) (num, den, 0) ∧
      ((¬ Conn n (ent A) ∧ Ev (fun k => line_Eigen.f k A) ([], 10)) ∨
       ∃ c m, EigIs n (ent A) num den c m ∧ Ev (fun k => line_Eigen.f k A) (vec n (eigv n (ent A) num den c m), 0)) := by
  have h6 := hA.six
  have h1 := hA.one
  have eo := ((of_f A ra).resolve_right (fun h => h.1 ⟨n, hA⟩)).2
  rcases looked_f hA ra with ⟨h, el, x, y, ep⟩ | ⟨num, den, ht, ep, el⟩
  · refine .inl ⟨h, ?_, ?_⟩
    · unfold line_Eigen.f
      exact Ev.bind el (ev_some fun k => if_neg (by decide))
    · unfold line_Speed.f
      exact Ev.bind eo (Ev.congr (fun k => if_pos rfl) (Ev.bind ep (ev_some fun k => if_neg (by simp))))
  · refine .inr ⟨num, den, ht, ?_, ?_⟩
    · unfold line_Speed.f
      exact Ev.bind eo (Ev.congr (fun k => if_pos rfl) (Ev.bind ep (ev_some fun k => if_pos rfl)))
    obtain ⟨b, hb, hbi⟩ := connected_f hA
    rw [conn_iff h6] at hbi
    cases b with
    | false =>
      refine .inl ⟨fun h => absurd (hbi.2 h) (by decide), ?_⟩
      unfold line_Eigen.f
      exact Ev.bind el (Ev.congr (fun k => if_pos rfl) (Ev.bind hb (ev_some fun k => if_neg (by decide))))
    | true =>
      have hc := hbi.1 rfl
      have hbd := slack_bd hA.bd ht
      have hB := eig_bd h6 hA.bd ht
      have ev := vertices_f (n := n) (by omega) A num den hbd hB (by omega) (by omega) (by omega)
      obtain ⟨c, hcn, ⟨j, hj, hcj⟩, hlen, hrd⟩ := critL_head (crit_ex h6 hA.bd ht)
      have fin : ∀ i, i < n → -768000 ≤ fwk (slackf num den (ent A)) n i c ∧ fwk (slackf num den (ent A)) n i c ≤ 768000 := fun i hi => (hB i c hi hcn).resolve_left (hc.star h6 hA.bd ht i c hi hcn)
      have hcol : ∀ i, i < n → (colv n (fwk (slackf num den (ent A)) n) c).getD i 0 = fwk (slackf num den (ent A)) n i c := fun i hi => vec_get _ hi
      have hle := fun i (hi : i < n) => least_le (colv n (fwk (slackf num den (ent A)) n) c) (n - 1) i (by omega)
      obtain ⟨q, hq, hmem⟩ := least_mem (colv n (fwk (slackf num den (ent A)) n) c) (n - 1)
      have emin := Min_f (colv n (fwk (slackf num den (ent A)) n) c) n (by omega) h1 (vec_length _ _)
      revert hle hmem emin
      generalize least (colv n (fwk (slackf num den (ent A)) n) c) (n - 1) = m
      intro hle hmem emin
      rw [hcol q (by omega)] at hmem
      have hle' : ∀ i, i < n → m ≤ fwk (slackf num den (ent A)) n i c := fun i hi => by rw [← hcol i hi]; exact hle i hi
      have hm := fin q (by omega)
      refine .inr ⟨c, m, ⟨ht, hc, hcn, hrd, ⟨j, hj, beq_iff_eq.1 hcj⟩, hle', q, by omega, hmem⟩, ?_⟩
      have e1 := Eigen_l1 (n := n) (by omega) (fun i => fwk (slackf num den (ent A)) n i c) m (fun i hi => by have := fin i hi; omega) n 0 (by omega)
      have e0 : lessv n (fun i => fwk (slackf num den (ent A)) n i c) m 0 = colv n (fwk (slackf num den (ent A)) n) c := vec_congr fun q _ => if_neg (by omega)
      rw [e0] at e1
      have e2 := Eigen_l0 (n := n) (by omega) A (mat n (slackf num den (ent A))) num den (fwk (slackf num den (ent A)) n) c hcn _ (Ev.bind emin e1) n 0 (by omega)
      unfold line_Eigen.f
      refine Ev.bind el (Ev.congr (fun k => if_pos rfl) (Ev.bind hb (Ev.congr (fun k => if_pos rfl) (Ev.bind ev ?_))))
      refine Ev.congr (fun k => ?_) e2
      have hl := hA.is.1
      rw [if_pos (by omega), if_pos (by omega), toN, if_pos (by omega), hl, hrd]
      have e3 : List.replicate n (0 : Int) = vpart n (fun q => fwk (slackf num den (ent A)) n q c) 0 := by
        apply List.ext_getElem
        · rw [List.length_replicate, vpart_length]
        · intro i h1 h2; simp [vpart, vec]
      rw [e3]
      simp only [Option.bind_some]
      rw [vpart_length]
      rfl
end Go.Proofs.Ythjmfbmffchicaa.Pure
