/- Two matrices and a row that stand below a bound, and a matrix whose blocks all stand above it: a write into the latter leaves the former as they are. -/
import Derived.Test.YthjmfbmffchicaaKPAid
import Derived.Test.YthjmfbmffchicaaKPWApart
namespace Go.Proofs.YthjmfbmffchicaaW.PrintWords
open Go.RowKit
def Far (s : Nat) (W : World) (F9 F10 : Nat → Prop) (c : Value) (lc : List (List Int)) (d : Value) (ld : List (List Int)) (y : Value) (ly : List Int) (p : Value) (lp : List (List Int)) : Prop :=
  ∃ B, s ≤ B ∧ Kd.S (Kd.slice 3 (Kd.int .i64)) 26 W s (fun k => F9 k ∧ k < B) c lc ∧ Kd.S (Kd.slice 3 (Kd.int .i64)) 26 W s (fun k => F10 k ∧ k < B) d ld ∧ Kd.R (Kd.int .i64) 3 W s (fun k => True ∧ k < B) y ly ∧ Kd.S (Kd.slice 3 (Kd.int .i64)) 26 W B (fun _ => True) p lp
section
variable {s : Nat} {W w1 : World} {F9 F10 G9 G10 : Nat → Prop} {c d y p : Value} {lc ld lp : List (List Int)} {ly : List Int}
theorem Far.new (h9 : Kd.S (Kd.slice 3 (Kd.int .i64)) 26 W s F9 c lc) (h10 : Kd.S (Kd.slice 3 (Kd.int .i64)) 26 W s F10 d ld) (h11 : Kd.R (Kd.int .i64) 3 W s (fun _ => True) y ly)
    (hb : Below W.heap.size W w1) (ho : Kd.S (Kd.slice 3 (Kd.int .i64)) 26 w1 W.heap.size (fun _ => True) p lp) (hs : s ≤ W.heap.size) :
    Far s w1 (fun k => F9 k ∧ some k ≠ p.ownBlock) (fun k => F10 k ∧ some k ≠ p.ownBlock) c lc d ld y ly p lp :=
  ⟨W.heap.size, hs, Kd.S_mono (Kd.S_elder' (v := p) (Kd.S_bound h9) (Kd.S_base ho) hb) (fun _ hk => ⟨⟨hk.1.1, hk.2⟩, hk.1.2.2.1⟩),
    Kd.S_mono (Kd.S_elder' (v := p) (Kd.S_bound h10) (Kd.S_base ho) hb) (fun _ hk => ⟨⟨hk.1.1, hk.2⟩, hk.1.2.2.1⟩),
    Kd.R_below (Kd.R_mono (Kd.R_bound h11) (fun _ hk => ⟨trivial, hk.2.2.1⟩)) hb, ho⟩
theorem Far.below (h : Far s W F9 F10 c lc d ld y ly p lp) (hb : Below W.heap.size W w1) : Far s w1 F9 F10 c lc d ld y ly p lp := by
  obtain ⟨B, hs, z9, z10, z11, z12⟩ := h
  exact ⟨B, hs, Kd.S_below z9 hb, Kd.S_below z10 hb, Kd.R_below z11 hb, Kd.S_below z12 hb⟩
theorem Far.alloc (h : Far s W F9 F10 c lc d ld y ly p lp) (o : Obj) : Far s (W.alloc o) F9 F10 c lc d ld y ly p lp := Far.below h (below_alloc (Below.refl _ _) o)
theorem Far.drew (h : Far s W F9 F10 c lc d ld y ly p lp) : Far s W.drew F9 F10 c lc d ld y ly p lp := Far.below h (below_drew (Below.refl _ _))
theorem Far.drewN (h : Far s W F9 F10 c lc d ld y ly p lp) (m : Nat) : Far s (W.drewN m) F9 F10 c lc d ld y ly p lp := Far.below h (pw_below_drewN (Below.refl _ _) m)
theorem Far.mono (h : Far s W F9 F10 c lc d ld y ly p lp) (h9 : ∀ k, F9 k → G9 k) (h10 : ∀ k, F10 k → G10 k) : Far s W G9 G10 c lc d ld y ly p lp := by
  obtain ⟨B, hs, z9, z10, z11, z12⟩ := h
  exact ⟨B, hs, Kd.S_mono z9 (fun k hk => ⟨h9 k hk.1, hk.2⟩), Kd.S_mono z10 (fun k hk => ⟨h10 k hk.1, hk.2⟩), z11, z12⟩
theorem far_S {B : Nat} (h : Kd.S (Kd.slice 3 (Kd.int .i64)) 26 W s (fun k => F9 k ∧ k < B) c lc) (hb : Below B W w1) : Kd.S (Kd.slice 3 (Kd.int .i64)) 26 w1 s F9 c lc :=
  Kd.S_mono (Kd.S_step h (fun k hk _ => hb.block k hk.2)) (fun _ hk => hk.1)
theorem far_R {B : Nat} (h : Kd.R (Kd.int .i64) 3 W s (fun k => True ∧ k < B) y ly) (hb : Below B W w1) : Kd.R (Kd.int .i64) 3 w1 s (fun _ => True) y ly :=
  Kd.R_mono (Kd.R_step h (fun k hk _ => hb.block k hk.2)) (fun _ hk => hk.1)
end
end Go.Proofs.YthjmfbmffchicaaW.PrintWords
