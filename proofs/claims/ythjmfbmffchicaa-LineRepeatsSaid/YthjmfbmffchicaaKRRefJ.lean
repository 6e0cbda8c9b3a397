/- What the line's Eigen computes: a column of the slack's closure, less its least entry. Bounds stand in each theorem. -/
import Derived.Test.YthjmfbmffchicaaKRf5
import Derived.Test.YthjmfbmffchicaaKRRefH
import Derived.Test.YthjmfbmffchicaaKRRefI
namespace Go.Proofs.Ythjmfbmffchicaa.Pure
open Go.RowKit Go.Proofs.Ythjmfbmffchicaa.V Go.Proofs.YthjmfbmffchicaaW.PrintWords Go.Proofs.YthjmfbmffchicaaW.PrintLast Go.Proofs.YthjmfbmffchicaaW.PrintMore
open Go.Proofs.Ythjmfbmffchicaa.Mp
def colv (n : Nat) (d : Nat → Nat → Int) (c : Nat) : List Int := vec n (fun i => d i c)
def lessv (n : Nat) (f : Nat → Int) (m : Int) (i : Nat) : List Int := vec n (fun q => if q < i then f q - m else f q)
theorem lessv_set (n : Nat) (f : Nat → Int) (m : Int) (i : Nat) : (lessv n f m i).set i (f i - m) = lessv n f m (i + 1) := by
  refine range_map_set n _ _ i _ (fun _ => if_pos (by omega)) (fun b _ hb => ?_)
  by_cases h : b < i
  · rw [if_pos (by omega), if_pos h]
  · rw [if_neg (by omega), if_neg h]
theorem Eigen_l1 {n : Nat} (hn : n ≤ 1000) (f : Nat → Int) (m : Int) (hf : ∀ i, i < n → -9223372036854775808 ≤ f i - m ∧ f i - m ≤ 9223372036854775807) : ∀ d i, i + d = n →
    Ev (fun k => line_Eigen.l1 k (lessv n f m i) m (n : Int) (i : Int)) (vec n (fun q => f q - m), 0) := by
  intro d
  induction d with
  | zero =>
    intro i hi
    obtain rfl : i = n := by omega
    refine ev_now fun k => ?_
    simp only [line_Eigen.l1]
    rw [if_neg (by omega)]
    have : lessv i f m i = vec i (fun q => f q - m) := vec_congr fun q hq => if_pos hq
    rw [this]
  | succ d ih =>
    intro i hi
    have hl : (lessv n f m i).length = n := vec_length _ _
    have hb := hf i (by omega)
    refine Ev.step (fun k => ?_) (ih (i + 1) (by omega))
    simp only [line_Eigen.l1]
    have e : (lessv n f m i).getD i 0 = f i := by
      unfold lessv
      rw [vec_get _ (by omega), if_neg (by omega)]
    rw [if_pos (by omega), if_pos (by omega), if_pos (by omega), rdI, e, wr1 i (by omega), wr hb.1 hb.2, toN, lessv_set]
theorem Eigen_l0 {n : Nat} (hn : n ≤ 1000) (L S : List (List Int)) (u v : Int) (d : Nat → Nat → Int) (c : Nat) (hc : c < n) (r : List Int × Int)
    (hr : Ev (fun k => (slices_Min_int_int.f k (colv n d c)).bind fun t => line_Eigen.l1 k (colv n d c) t (n : Int) ((0 : Nat) : Int)) r) : ∀ e i, i + e = n →
    Ev (fun k => line_Eigen.l0 k (c : Int) (vpart n (fun q => d q c) i) (n : Int) (i : Int) L u v S (mat n d)) r := by
  intro e
  induction e with
  | zero =>
    intro i hi
    obtain rfl : i = n := by omega
    have e1 : vpart i (fun q => d q c) i = colv i d c := vec_congr fun q hq => if_pos hq
    refine Ev.step (fun k => ?_) hr
    simp only [line_Eigen.l0]
    rw [if_neg (by omega), e1, show (colv i d c).length = i from vec_length _ _]
    rfl
  | succ e ih =>
    intro i hi
    have hi' : i < n := by omega
    have hl := vpart_length n (fun q => d q c) i
    refine Ev.step (fun k => ?_) (ih (i + 1) (by omega))
    simp only [line_Eigen.l0]
    rw [if_pos (by omega), if_pos (by omega), if_pos (by rw [mat_length]; omega), if_pos (by omega), rdL, rdI, mat_get _ hi', vec_length, if_pos (by omega), if_pos (by omega), vec_get _ hc, wr1 i (by omega), toN]
    have := vpart_set n (fun q => d q c) i
    rw [this]
end Go.Proofs.Ythjmfbmffchicaa.Pure
