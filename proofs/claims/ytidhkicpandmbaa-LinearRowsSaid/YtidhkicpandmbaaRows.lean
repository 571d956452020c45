/-
  No cell of these rows narrows 'for every input' (looked for: loops, veiled, ifaces, maps, wideKeys, modest, calm, conditions, laid).
  DERIVED. THE GIVEN ROWS OF THIS SEAT. 5 by the template 'for every input the law returns true; each argument reads behind the call as it read before'; 0 by the template 'total and deterministic' (their statements: YtidhkicpandmbaaTotals.lean).
  GIVEN WITH THE SEED: the statements are not yours to turn. If you find one false, say at which input.
  Laid BY PROGRAM, IN A SANDBOX (cutbox-rows.mjs): the forced cells as the released guide's own fill.sh prints them over the translation 6bfd9e4d6f15b993… (all of the seat's roots in one cut). By AI agents, Wed Nov 11 2026. No macro, syntax, notation, axiom, sorry.
-/
import Derived.Test.YtidhkicpandmbaaChecked
import GoSem.Claim
import GoSem.ClaimJoined
import GoSem.ClaimMapViews
import Derived.JoinedTies
import Derived.KernelRfl
namespace Go.Proofs.Ytidhkicpandmbaa
/- THE CELL 'sum', in the pinned program and in every row, IS THE sha256 OF THE DUMP (.gsa) THAT YtidhkicpandmbaaProg.lean LOADS. Nothing in Lean hashes anything: it is a label: what it is worth is what the hold of that sum in a sandbox is worth. -/
noncomputable def Try.pinned : Pinned := { name := "ytidhkicpandmbaa", sum := "6bfd9e4d6f15b9938653d4cdb21c8910224e652bca4cc8792db591efc0b82a3e", checked := Try.checked }
namespace Rows
def none {H : Type} : Left H := { results := [], args := [] }

/-- 'cruciblelaw27.LinearRows': WHATEVER THE INPUT: true; the input reads as it did. -/
def linearRowsSpec : ChangeSpec := { name := "linearRows", fn := fun _ => fun
  | [d1, d2] => { results := [.lit (.bool true)], args := [d1, d2] }
  | _ => none }
def linearRowsRow : OpenClaim := { program := "ytidhkicpandmbaa", sum := "6bfd9e4d6f15b9938653d4cdb21c8910224e652bca4cc8792db591efc0b82a3e", func := "crucible/cruciblelaw27.LinearRows", spec := "linearRows", unfollowed := true, recurses := true, apart := false }
def LinearRowsSaid : Prop := linearRowsRow.holds Try.pinned (OpenSpec.ofChange linearRowsSpec)

/-- ITS FALSE NEIGHBOUR: 'it returns false'. Refute it at one input. -/
def linearRowsWrong : ChangeSpec := { name := "linearRows", fn := fun _ => fun
  | [d1, d2] => { results := [.lit (.bool false)], args := [d1, d2] }
  | _ => none }
def LinearRowsWrongFalsely : Prop := linearRowsRow.holds Try.pinned (OpenSpec.ofChange linearRowsWrong)

/-- 'cruciblelaw27.LinearFalls': WHATEVER THE INPUT: true; the input reads as it did. -/
def linearFallsSpec : ChangeSpec := { name := "linearFalls", fn := fun _ => fun
  | [d1, d2] => { results := [.lit (.bool true)], args := [d1, d2] }
  | _ => none }
def linearFallsRow : OpenClaim := { program := "ytidhkicpandmbaa", sum := "6bfd9e4d6f15b9938653d4cdb21c8910224e652bca4cc8792db591efc0b82a3e", func := "crucible/cruciblelaw27.LinearFalls", spec := "linearFalls", unfollowed := true, recurses := true, apart := false }
def LinearFallsSaid : Prop := linearFallsRow.holds Try.pinned (OpenSpec.ofChange linearFallsSpec)

/-- ITS FALSE NEIGHBOUR: 'it returns false'. Refute it at one input. -/
def linearFallsWrong : ChangeSpec := { name := "linearFalls", fn := fun _ => fun
  | [d1, d2] => { results := [.lit (.bool false)], args := [d1, d2] }
  | _ => none }
def LinearFallsWrongFalsely : Prop := linearFallsRow.holds Try.pinned (OpenSpec.ofChange linearFallsWrong)

/-- 'cruciblelaw27.LinearTunnels': WHATEVER THE INPUT: true; the input reads as it did. -/
def linearTunnelsSpec : ChangeSpec := { name := "linearTunnels", fn := fun _ => fun
  | [d1, d2] => { results := [.lit (.bool true)], args := [d1, d2] }
  | _ => none }
def linearTunnelsRow : OpenClaim := { program := "ytidhkicpandmbaa", sum := "6bfd9e4d6f15b9938653d4cdb21c8910224e652bca4cc8792db591efc0b82a3e", func := "crucible/cruciblelaw27.LinearTunnels", spec := "linearTunnels", unfollowed := true, recurses := true, apart := false }
def LinearTunnelsSaid : Prop := linearTunnelsRow.holds Try.pinned (OpenSpec.ofChange linearTunnelsSpec)

/-- ITS FALSE NEIGHBOUR: 'it returns false'. Refute it at one input. -/
def linearTunnelsWrong : ChangeSpec := { name := "linearTunnels", fn := fun _ => fun
  | [d1, d2] => { results := [.lit (.bool false)], args := [d1, d2] }
  | _ => none }
def LinearTunnelsWrongFalsely : Prop := linearTunnelsRow.holds Try.pinned (OpenSpec.ofChange linearTunnelsWrong)

/-- 'cruciblelaw27.LinearMeans': WHATEVER THE INPUT: true; the input reads as it did. -/
def linearMeansSpec : ChangeSpec := { name := "linearMeans", fn := fun _ => fun
  | [d1, d2] => { results := [.lit (.bool true)], args := [d1, d2] }
  | _ => none }
def linearMeansRow : OpenClaim := { program := "ytidhkicpandmbaa", sum := "6bfd9e4d6f15b9938653d4cdb21c8910224e652bca4cc8792db591efc0b82a3e", func := "crucible/cruciblelaw27.LinearMeans", spec := "linearMeans", unfollowed := true, recurses := true, apart := false }
def LinearMeansSaid : Prop := linearMeansRow.holds Try.pinned (OpenSpec.ofChange linearMeansSpec)

/-- ITS FALSE NEIGHBOUR: 'it returns false'. Refute it at one input. -/
def linearMeansWrong : ChangeSpec := { name := "linearMeans", fn := fun _ => fun
  | [d1, d2] => { results := [.lit (.bool false)], args := [d1, d2] }
  | _ => none }
def LinearMeansWrongFalsely : Prop := linearMeansRow.holds Try.pinned (OpenSpec.ofChange linearMeansWrong)

/-- 'cruciblelaw27.LinearTwice': WHATEVER THE INPUT: true; the input reads as it did. -/
def linearTwiceSpec : ChangeSpec := { name := "linearTwice", fn := fun _ => fun
  | [d1, d2] => { results := [.lit (.bool true)], args := [d1, d2] }
  | _ => none }
def linearTwiceRow : OpenClaim := { program := "ytidhkicpandmbaa", sum := "6bfd9e4d6f15b9938653d4cdb21c8910224e652bca4cc8792db591efc0b82a3e", func := "crucible/cruciblelaw27.LinearTwice", spec := "linearTwice", unfollowed := true, recurses := true, apart := false }
def LinearTwiceSaid : Prop := linearTwiceRow.holds Try.pinned (OpenSpec.ofChange linearTwiceSpec)

/-- ITS FALSE NEIGHBOUR: 'it returns false'. Refute it at one input. -/
def linearTwiceWrong : ChangeSpec := { name := "linearTwice", fn := fun _ => fun
  | [d1, d2] => { results := [.lit (.bool false)], args := [d1, d2] }
  | _ => none }
def LinearTwiceWrongFalsely : Prop := linearTwiceRow.holds Try.pinned (OpenSpec.ofChange linearTwiceWrong)

/- THE SECOND FORM. 'bulk': how many values and letters a reading holds, each counted each time it is reached (what is shared counts as often as it is met; a slice's spare places count too). A statement '..UptoSaid' is the law's where the arguments, and the package variables that the reading takes, are together of bulk at most 1048576: NARROWER than '..Said'. Prove '..Said' where nothing that the law and all that it calls make is longer than what came in: it says more and counts as full. Else prove '..UptoSaid'. A law counts once. -/
mutual
def uptoBulk {H : Type} : DataW H → Nat
  | .lit (.string bytes) => bytes.length + 1
  | .lit _ => 1
  | .nil => 1
  | .ptr d => uptoBulk d + 1
  | .slice elems spare => uptoBulkAll elems + uptoBulkAll spare + 1
  | .agg parts => uptoBulkAll parts + 1
  | .iface _ d => uptoBulk d + 1
  | .map entries => uptoBulkEntries entries + 1
  | .held _ => 1
def uptoBulkAll {H : Type} : List (DataW H) → Nat
  | [] => 0
  | d :: r => uptoBulk d + uptoBulkAll r
def uptoBulkEntries {H : Type} : List (Lit × DataW H) → Nat
  | [] => 0
  | x :: r => uptoBulkEntry x + uptoBulkEntries r
def uptoBulkEntry {H : Type} : Lit × DataW H → Nat
  | (.string bytes, d) => bytes.length + uptoBulk d + 1
  | (_, d) => uptoBulk d + 1
 end
def uptoSmall : (H : Type) → List (DataW H) → Bool := fun _ ds => decide (uptoBulkAll ds ≤ 1048576)
def OpenSpec.upto (s : _root_.Go.ChangeSpec) : _root_.Go.OpenSpec := { _root_.Go.OpenSpec.ofChange s with cond := some uptoSmall }

/-- 'cruciblelaw27.LinearRows', WHERE WHAT IT READS IS OF BULK AT MOST 1048576: true; the input reads as it did. -/
def linearRowsUptoRow : OpenClaim := { program := "ytidhkicpandmbaa", sum := "6bfd9e4d6f15b9938653d4cdb21c8910224e652bca4cc8792db591efc0b82a3e", func := "crucible/cruciblelaw27.LinearRows", spec := "linearRows", unfollowed := true, recurses := true, apart := false, narrowed := true }
def LinearRowsUptoSaid : Prop := linearRowsUptoRow.holds Try.pinned (OpenSpec.upto linearRowsSpec)

/-- 'cruciblelaw27.LinearFalls', WHERE WHAT IT READS IS OF BULK AT MOST 1048576: true; the input reads as it did. -/
def linearFallsUptoRow : OpenClaim := { program := "ytidhkicpandmbaa", sum := "6bfd9e4d6f15b9938653d4cdb21c8910224e652bca4cc8792db591efc0b82a3e", func := "crucible/cruciblelaw27.LinearFalls", spec := "linearFalls", unfollowed := true, recurses := true, apart := false, narrowed := true }
def LinearFallsUptoSaid : Prop := linearFallsUptoRow.holds Try.pinned (OpenSpec.upto linearFallsSpec)

/-- 'cruciblelaw27.LinearTunnels', WHERE WHAT IT READS IS OF BULK AT MOST 1048576: true; the input reads as it did. -/
def linearTunnelsUptoRow : OpenClaim := { program := "ytidhkicpandmbaa", sum := "6bfd9e4d6f15b9938653d4cdb21c8910224e652bca4cc8792db591efc0b82a3e", func := "crucible/cruciblelaw27.LinearTunnels", spec := "linearTunnels", unfollowed := true, recurses := true, apart := false, narrowed := true }
def LinearTunnelsUptoSaid : Prop := linearTunnelsUptoRow.holds Try.pinned (OpenSpec.upto linearTunnelsSpec)

/-- 'cruciblelaw27.LinearMeans', WHERE WHAT IT READS IS OF BULK AT MOST 1048576: true; the input reads as it did. -/
def linearMeansUptoRow : OpenClaim := { program := "ytidhkicpandmbaa", sum := "6bfd9e4d6f15b9938653d4cdb21c8910224e652bca4cc8792db591efc0b82a3e", func := "crucible/cruciblelaw27.LinearMeans", spec := "linearMeans", unfollowed := true, recurses := true, apart := false, narrowed := true }
def LinearMeansUptoSaid : Prop := linearMeansUptoRow.holds Try.pinned (OpenSpec.upto linearMeansSpec)

/-- 'cruciblelaw27.LinearTwice', WHERE WHAT IT READS IS OF BULK AT MOST 1048576: true; the input reads as it did. -/
def linearTwiceUptoRow : OpenClaim := { program := "ytidhkicpandmbaa", sum := "6bfd9e4d6f15b9938653d4cdb21c8910224e652bca4cc8792db591efc0b82a3e", func := "crucible/cruciblelaw27.LinearTwice", spec := "linearTwice", unfollowed := true, recurses := true, apart := false, narrowed := true }
def LinearTwiceUptoSaid : Prop := linearTwiceUptoRow.holds Try.pinned (OpenSpec.upto linearTwiceSpec)

end Rows
end Go.Proofs.Ytidhkicpandmbaa
