/-
  No cell of these rows narrows 'for every input' (looked for: loops, veiled, ifaces, maps, wideKeys, modest, calm, conditions, laid).
  DERIVED. THE GIVEN ROWS OF THIS SEAT. 9 by the template 'for every input the law returns true; each argument reads behind the call as it read before'; 0 by the template 'total and deterministic' (their statements: YtipkhaicjjeieaaTotals.lean).
  GIVEN WITH THE SEED: the statements are not yours to turn. If you find one false, say at which input.
  Laid BY PROGRAM, IN A SANDBOX (cutbox-rows.mjs): the forced cells as the released guide's own fill.sh prints them over the translation 6609487ee34cc1ee… (all of the seat's roots in one cut). By AI agents, Wed Nov 11 2026. No macro, syntax, notation, axiom, sorry.
-/
import Derived.Test.YtipkhaicjjeieaaChecked
import GoSem.Claim
import GoSem.ClaimJoined
import GoSem.ClaimMapViews
import Derived.JoinedTies
import Derived.KernelRfl
namespace Go.Proofs.Ytipkhaicjjeieaa
/- THE CELL 'sum', in the pinned program and in every row, IS THE sha256 OF THE DUMP (.gsa) THAT YtipkhaicjjeieaaProg.lean LOADS. Nothing in Lean hashes anything: it is a label: what it is worth is what the hold of that sum in a sandbox is worth. -/
noncomputable def Try.pinned : Pinned := { name := "ytipkhaicjjeieaa", sum := "6609487ee34cc1eed1be87d5aa47c9e3a2347a942cfe333fa9ee932754d3c7e7", checked := Try.checked }
namespace Rows
def none {H : Type} : Left H := { results := [], args := [] }

/-- 'tinplatelaw06.ShopSolves': WHATEVER THE INPUT: true; the input reads as it did. -/
def shopSolvesSpec : ChangeSpec := { name := "shopSolves", fn := fun _ => fun
  | [d] => { results := [.lit (.bool true)], args := [d] }
  | _ => none }
def shopSolvesRow : OpenClaim := { program := "ytipkhaicjjeieaa", sum := "6609487ee34cc1eed1be87d5aa47c9e3a2347a942cfe333fa9ee932754d3c7e7", func := "tinplate/tinplatelaw06.ShopSolves", spec := "shopSolves", unfollowed := true, recurses := true, apart := false }
def ShopSolvesSaid : Prop := shopSolvesRow.holds Try.pinned (OpenSpec.ofChange shopSolvesSpec)

/-- ITS FALSE NEIGHBOUR: 'it returns false'. Refute it at one input. -/
def shopSolvesWrong : ChangeSpec := { name := "shopSolves", fn := fun _ => fun
  | [d] => { results := [.lit (.bool false)], args := [d] }
  | _ => none }
def ShopSolvesWrongFalsely : Prop := shopSolvesRow.holds Try.pinned (OpenSpec.ofChange shopSolvesWrong)

/-- 'tinplatelaw06.ShopChecks': WHATEVER THE INPUT: true; the input reads as it did. -/
def shopChecksSpec : ChangeSpec := { name := "shopChecks", fn := fun _ => fun
  | [d1, d2, d3] => { results := [.lit (.bool true)], args := [d1, d2, d3] }
  | _ => none }
def shopChecksRow : OpenClaim := { program := "ytipkhaicjjeieaa", sum := "6609487ee34cc1eed1be87d5aa47c9e3a2347a942cfe333fa9ee932754d3c7e7", func := "tinplate/tinplatelaw06.ShopChecks", spec := "shopChecks", unfollowed := true, recurses := true, apart := false }
def ShopChecksSaid : Prop := shopChecksRow.holds Try.pinned (OpenSpec.ofChange shopChecksSpec)

/-- ITS FALSE NEIGHBOUR: 'it returns false'. Refute it at one input. -/
def shopChecksWrong : ChangeSpec := { name := "shopChecks", fn := fun _ => fun
  | [d1, d2, d3] => { results := [.lit (.bool false)], args := [d1, d2, d3] }
  | _ => none }
def ShopChecksWrongFalsely : Prop := shopChecksRow.holds Try.pinned (OpenSpec.ofChange shopChecksWrong)

/-- 'tinplatelaw06.ShopLimit': WHATEVER THE INPUT: true; the input reads as it did. -/
def shopLimitSpec : ChangeSpec := { name := "shopLimit", fn := fun _ => fun
  | [d1, d2] => { results := [.lit (.bool true)], args := [d1, d2] }
  | _ => none }
def shopLimitRow : OpenClaim := { program := "ytipkhaicjjeieaa", sum := "6609487ee34cc1eed1be87d5aa47c9e3a2347a942cfe333fa9ee932754d3c7e7", func := "tinplate/tinplatelaw06.ShopLimit", spec := "shopLimit", unfollowed := true, recurses := true, apart := false }
def ShopLimitSaid : Prop := shopLimitRow.holds Try.pinned (OpenSpec.ofChange shopLimitSpec)

/-- ITS FALSE NEIGHBOUR: 'it returns false'. Refute it at one input. -/
def shopLimitWrong : ChangeSpec := { name := "shopLimit", fn := fun _ => fun
  | [d1, d2] => { results := [.lit (.bool false)], args := [d1, d2] }
  | _ => none }
def ShopLimitWrongFalsely : Prop := shopLimitRow.holds Try.pinned (OpenSpec.ofChange shopLimitWrong)

/-- 'tinplatelaw06.ShopMotions': WHATEVER THE INPUT: true; the input reads as it did. -/
def shopMotionsSpec : ChangeSpec := { name := "shopMotions", fn := fun _ => fun
  | [d1, d2] => { results := [.lit (.bool true)], args := [d1, d2] }
  | _ => none }
def shopMotionsRow : OpenClaim := { program := "ytipkhaicjjeieaa", sum := "6609487ee34cc1eed1be87d5aa47c9e3a2347a942cfe333fa9ee932754d3c7e7", func := "tinplate/tinplatelaw06.ShopMotions", spec := "shopMotions", unfollowed := true, recurses := true, apart := false }
def ShopMotionsSaid : Prop := shopMotionsRow.holds Try.pinned (OpenSpec.ofChange shopMotionsSpec)

/-- ITS FALSE NEIGHBOUR: 'it returns false'. Refute it at one input. -/
def shopMotionsWrong : ChangeSpec := { name := "shopMotions", fn := fun _ => fun
  | [d1, d2] => { results := [.lit (.bool false)], args := [d1, d2] }
  | _ => none }
def ShopMotionsWrongFalsely : Prop := shopMotionsRow.holds Try.pinned (OpenSpec.ofChange shopMotionsWrong)

/-- 'tinplatelaw06.ShopSound': WHATEVER THE INPUT: true; the input reads as it did. -/
def shopSoundSpec : ChangeSpec := { name := "shopSound", fn := fun _ => fun
  | [d1, d2, d3, d4] => { results := [.lit (.bool true)], args := [d1, d2, d3, d4] }
  | _ => none }
def shopSoundRow : OpenClaim := { program := "ytipkhaicjjeieaa", sum := "6609487ee34cc1eed1be87d5aa47c9e3a2347a942cfe333fa9ee932754d3c7e7", func := "tinplate/tinplatelaw06.ShopSound", spec := "shopSound", unfollowed := true, recurses := true, apart := false }
def ShopSoundSaid : Prop := shopSoundRow.holds Try.pinned (OpenSpec.ofChange shopSoundSpec)

/-- ITS FALSE NEIGHBOUR: 'it returns false'. Refute it at one input. -/
def shopSoundWrong : ChangeSpec := { name := "shopSound", fn := fun _ => fun
  | [d1, d2, d3, d4] => { results := [.lit (.bool false)], args := [d1, d2, d3, d4] }
  | _ => none }
def ShopSoundWrongFalsely : Prop := shopSoundRow.holds Try.pinned (OpenSpec.ofChange shopSoundWrong)

/-- 'tinplatelaw06.ShopLeast': WHATEVER THE INPUT: true; the input reads as it did. -/
def shopLeastSpec : ChangeSpec := { name := "shopLeast", fn := fun _ => fun
  | [d1, d2] => { results := [.lit (.bool true)], args := [d1, d2] }
  | _ => none }
def shopLeastRow : OpenClaim := { program := "ytipkhaicjjeieaa", sum := "6609487ee34cc1eed1be87d5aa47c9e3a2347a942cfe333fa9ee932754d3c7e7", func := "tinplate/tinplatelaw06.ShopLeast", spec := "shopLeast", unfollowed := true, recurses := true, apart := false }
def ShopLeastSaid : Prop := shopLeastRow.holds Try.pinned (OpenSpec.ofChange shopLeastSpec)

/-- ITS FALSE NEIGHBOUR: 'it returns false'. Refute it at one input. -/
def shopLeastWrong : ChangeSpec := { name := "shopLeast", fn := fun _ => fun
  | [d1, d2] => { results := [.lit (.bool false)], args := [d1, d2] }
  | _ => none }
def ShopLeastWrongFalsely : Prop := shopLeastRow.holds Try.pinned (OpenSpec.ofChange shopLeastWrong)

/-- 'tinplatelaw06.ShopBounds': WHATEVER THE INPUT: true; the input reads as it did. -/
def shopBoundsSpec : ChangeSpec := { name := "shopBounds", fn := fun _ => fun
  | [d1, d2] => { results := [.lit (.bool true)], args := [d1, d2] }
  | _ => none }
def shopBoundsRow : OpenClaim := { program := "ytipkhaicjjeieaa", sum := "6609487ee34cc1eed1be87d5aa47c9e3a2347a942cfe333fa9ee932754d3c7e7", func := "tinplate/tinplatelaw06.ShopBounds", spec := "shopBounds", unfollowed := true, recurses := true, apart := false }
def ShopBoundsSaid : Prop := shopBoundsRow.holds Try.pinned (OpenSpec.ofChange shopBoundsSpec)

/-- ITS FALSE NEIGHBOUR: 'it returns false'. Refute it at one input. -/
def shopBoundsWrong : ChangeSpec := { name := "shopBounds", fn := fun _ => fun
  | [d1, d2] => { results := [.lit (.bool false)], args := [d1, d2] }
  | _ => none }
def ShopBoundsWrongFalsely : Prop := shopBoundsRow.holds Try.pinned (OpenSpec.ofChange shopBoundsWrong)

/-- 'tinplatelaw06.ShopProves': WHATEVER THE INPUT: true; the input reads as it did. -/
def shopProvesSpec : ChangeSpec := { name := "shopProves", fn := fun _ => fun
  | [d1, d2] => { results := [.lit (.bool true)], args := [d1, d2] }
  | _ => none }
def shopProvesRow : OpenClaim := { program := "ytipkhaicjjeieaa", sum := "6609487ee34cc1eed1be87d5aa47c9e3a2347a942cfe333fa9ee932754d3c7e7", func := "tinplate/tinplatelaw06.ShopProves", spec := "shopProves", unfollowed := true, recurses := true, apart := false }
def ShopProvesSaid : Prop := shopProvesRow.holds Try.pinned (OpenSpec.ofChange shopProvesSpec)

/-- ITS FALSE NEIGHBOUR: 'it returns false'. Refute it at one input. -/
def shopProvesWrong : ChangeSpec := { name := "shopProves", fn := fun _ => fun
  | [d1, d2] => { results := [.lit (.bool false)], args := [d1, d2] }
  | _ => none }
def ShopProvesWrongFalsely : Prop := shopProvesRow.holds Try.pinned (OpenSpec.ofChange shopProvesWrong)

/-- 'tinplatelaw06.ShopLooks': WHATEVER THE INPUT: true; the input reads as it did. -/
def shopLooksSpec : ChangeSpec := { name := "shopLooks", fn := fun _ => fun
  | [d1, d2, d3] => { results := [.lit (.bool true)], args := [d1, d2, d3] }
  | _ => none }
def shopLooksRow : OpenClaim := { program := "ytipkhaicjjeieaa", sum := "6609487ee34cc1eed1be87d5aa47c9e3a2347a942cfe333fa9ee932754d3c7e7", func := "tinplate/tinplatelaw06.ShopLooks", spec := "shopLooks", unfollowed := true, recurses := true, apart := false }
def ShopLooksSaid : Prop := shopLooksRow.holds Try.pinned (OpenSpec.ofChange shopLooksSpec)

/-- ITS FALSE NEIGHBOUR: 'it returns false'. Refute it at one input. -/
def shopLooksWrong : ChangeSpec := { name := "shopLooks", fn := fun _ => fun
  | [d1, d2, d3] => { results := [.lit (.bool false)], args := [d1, d2, d3] }
  | _ => none }
def ShopLooksWrongFalsely : Prop := shopLooksRow.holds Try.pinned (OpenSpec.ofChange shopLooksWrong)

/- THE SECOND FORM. 'bulk': how many values and letters a reading holds, each counted each time it is reached (what is shared counts as often as it is met; a slice's spare places count too). A statement '..UptoSaid' is the law's where the arguments, and the package variables that the reading takes, are together of bulk at most 1048576: NARROWER than '..Said'. Prove '..Said' where nothing that the law and all that it calls make is longer than what came in: it says more and counts as full. Else prove '..UptoSaid'. A law counts once. -/
mutual
def uptoBulk {H : Type} : DataW H → Nat
  | .lit (.string bytes) => bytes.length + 1
  | .lit _ => 1
  | .nil => 1
  | .ptr d => uptoBulk d + 1
  | .slice elems spare => uptoBulkAll elems + uptoBulkAll spare + 1
  | .agg parts => uptoBulkAll parts + 1
  | .iface _ d => uptoBulk d + 1
  | .map entries => uptoBulkEntries entries + 1
  | .held _ => 1
def uptoBulkAll {H : Type} : List (DataW H) → Nat
  | [] => 0
  | d :: r => uptoBulk d + uptoBulkAll r
def uptoBulkEntries {H : Type} : List (Lit × DataW H) → Nat
  | [] => 0
  | x :: r => uptoBulkEntry x + uptoBulkEntries r
def uptoBulkEntry {H : Type} : Lit × DataW H → Nat
  | (.string bytes, d) => bytes.length + uptoBulk d + 1
  | (_, d) => uptoBulk d + 1
 end
def uptoSmall : (H : Type) → List (DataW H) → Bool := fun _ ds => decide (uptoBulkAll ds ≤ 1048576)
def OpenSpec.upto (s : _root_.Go.ChangeSpec) : _root_.Go.OpenSpec := { _root_.Go.OpenSpec.ofChange s with cond := some uptoSmall }

/-- 'tinplatelaw06.ShopSolves', WHERE WHAT IT READS IS OF BULK AT MOST 1048576: true; the input reads as it did. -/
def shopSolvesUptoRow : OpenClaim := { program := "ytipkhaicjjeieaa", sum := "6609487ee34cc1eed1be87d5aa47c9e3a2347a942cfe333fa9ee932754d3c7e7", func := "tinplate/tinplatelaw06.ShopSolves", spec := "shopSolves", unfollowed := true, recurses := true, apart := false, narrowed := true }
def ShopSolvesUptoSaid : Prop := shopSolvesUptoRow.holds Try.pinned (OpenSpec.upto shopSolvesSpec)

/-- 'tinplatelaw06.ShopChecks', WHERE WHAT IT READS IS OF BULK AT MOST 1048576: true; the input reads as it did. -/
def shopChecksUptoRow : OpenClaim := { program := "ytipkhaicjjeieaa", sum := "6609487ee34cc1eed1be87d5aa47c9e3a2347a942cfe333fa9ee932754d3c7e7", func := "tinplate/tinplatelaw06.ShopChecks", spec := "shopChecks", unfollowed := true, recurses := true, apart := false, narrowed := true }
def ShopChecksUptoSaid : Prop := shopChecksUptoRow.holds Try.pinned (OpenSpec.upto shopChecksSpec)

/-- 'tinplatelaw06.ShopLimit', WHERE WHAT IT READS IS OF BULK AT MOST 1048576: true; the input reads as it did. -/
def shopLimitUptoRow : OpenClaim := { program := "ytipkhaicjjeieaa", sum := "6609487ee34cc1eed1be87d5aa47c9e3a2347a942cfe333fa9ee932754d3c7e7", func := "tinplate/tinplatelaw06.ShopLimit", spec := "shopLimit", unfollowed := true, recurses := true, apart := false, narrowed := true }
def ShopLimitUptoSaid : Prop := shopLimitUptoRow.holds Try.pinned (OpenSpec.upto shopLimitSpec)

/-- 'tinplatelaw06.ShopMotions', WHERE WHAT IT READS IS OF BULK AT MOST 1048576: true; the input reads as it did. -/
def shopMotionsUptoRow : OpenClaim := { program := "ytipkhaicjjeieaa", sum := "6609487ee34cc1eed1be87d5aa47c9e3a2347a942cfe333fa9ee932754d3c7e7", func := "tinplate/tinplatelaw06.ShopMotions", spec := "shopMotions", unfollowed := true, recurses := true, apart := false, narrowed := true }
def ShopMotionsUptoSaid : Prop := shopMotionsUptoRow.holds Try.pinned (OpenSpec.upto shopMotionsSpec)

/-- 'tinplatelaw06.ShopSound', WHERE WHAT IT READS IS OF BULK AT MOST 1048576: true; the input reads as it did. -/
def shopSoundUptoRow : OpenClaim := { program := "ytipkhaicjjeieaa", sum := "6609487ee34cc1eed1be87d5aa47c9e3a2347a942cfe333fa9ee932754d3c7e7", func := "tinplate/tinplatelaw06.ShopSound", spec := "shopSound", unfollowed := true, recurses := true, apart := false, narrowed := true }
def ShopSoundUptoSaid : Prop := shopSoundUptoRow.holds Try.pinned (OpenSpec.upto shopSoundSpec)

/-- 'tinplatelaw06.ShopLeast', WHERE WHAT IT READS IS OF BULK AT MOST 1048576: true; the input reads as it did. -/
def shopLeastUptoRow : OpenClaim := { program := "ytipkhaicjjeieaa", sum := "6609487ee34cc1eed1be87d5aa47c9e3a2347a942cfe333fa9ee932754d3c7e7", func := "tinplate/tinplatelaw06.ShopLeast", spec := "shopLeast", unfollowed := true, recurses := true, apart := false, narrowed := true }
def ShopLeastUptoSaid : Prop := shopLeastUptoRow.holds Try.pinned (OpenSpec.upto shopLeastSpec)

/-- 'tinplatelaw06.ShopBounds', WHERE WHAT IT READS IS OF BULK AT MOST 1048576: true; the input reads as it did. -/
def shopBoundsUptoRow : OpenClaim := { program := "ytipkhaicjjeieaa", sum := "6609487ee34cc1eed1be87d5aa47c9e3a2347a942cfe333fa9ee932754d3c7e7", func := "tinplate/tinplatelaw06.ShopBounds", spec := "shopBounds", unfollowed := true, recurses := true, apart := false, narrowed := true }
def ShopBoundsUptoSaid : Prop := shopBoundsUptoRow.holds Try.pinned (OpenSpec.upto shopBoundsSpec)

/-- 'tinplatelaw06.ShopProves', WHERE WHAT IT READS IS OF BULK AT MOST 1048576: true; the input reads as it did. -/
def shopProvesUptoRow : OpenClaim := { program := "ytipkhaicjjeieaa", sum := "6609487ee34cc1eed1be87d5aa47c9e3a2347a942cfe333fa9ee932754d3c7e7", func := "tinplate/tinplatelaw06.ShopProves", spec := "shopProves", unfollowed := true, recurses := true, apart := false, narrowed := true }
def ShopProvesUptoSaid : Prop := shopProvesUptoRow.holds Try.pinned (OpenSpec.upto shopProvesSpec)

/-- 'tinplatelaw06.ShopLooks', WHERE WHAT IT READS IS OF BULK AT MOST 1048576: true; the input reads as it did. -/
def shopLooksUptoRow : OpenClaim := { program := "ytipkhaicjjeieaa", sum := "6609487ee34cc1eed1be87d5aa47c9e3a2347a942cfe333fa9ee932754d3c7e7", func := "tinplate/tinplatelaw06.ShopLooks", spec := "shopLooks", unfollowed := true, recurses := true, apart := false, narrowed := true }
def ShopLooksUptoSaid : Prop := shopLooksUptoRow.holds Try.pinned (OpenSpec.upto shopLooksSpec)

end Rows
end Go.Proofs.Ytipkhaicjjeieaa
