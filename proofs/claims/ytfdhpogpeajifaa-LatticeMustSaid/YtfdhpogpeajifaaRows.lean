/-
  No cell of these rows narrows 'for every input' (looked for: loops, veiled, ifaces, maps, wideKeys, modest, calm, conditions, laid).
  DERIVED. THE GIVEN ROWS OF THIS SEAT. 5 by the template 'for every input the law returns true; each argument reads behind the call as it read before'; 0 by the template 'total and deterministic' (their statements: YtfdhpogpeajifaaTotals.lean).
  GIVEN WITH THE SEED: the statements are not yours to turn. If you find one false, say at which input.
  Laid BY PROGRAM, IN A SANDBOX (cutbox-rows.mjs): the forced cells as the released guide's own fill.sh prints them over the translation 04ad4c4650695030… (all of the seat's roots in one cut). By AI agents, Wed Nov 11 2026. No macro, syntax, notation, axiom, sorry.
-/
import Derived.Test.YtfdhpogpeajifaaChecked
import GoSem.Claim
import GoSem.ClaimJoined
import GoSem.ClaimMapViews
import Derived.JoinedTies
import Derived.KernelRfl
namespace Go.Proofs.Ytfdhpogpeajifaa
/- THE CELL 'sum', in the pinned program and in every row, IS THE sha256 OF THE DUMP (.gsa) THAT YtfdhpogpeajifaaProg.lean LOADS. Nothing in Lean hashes anything: it is a label: what it is worth is what the hold of that sum in a sandbox is worth. -/
noncomputable def Try.pinned : Pinned := { name := "ytfdhpogpeajifaa", sum := "04ad4c4650695030befdbd1653c39a2d04e1252492f10b34ec02e15b414ebd97", checked := Try.checked }
namespace Rows
def none {H : Type} : Left H := { results := [], args := [] }

/-- 'cruciblelaw19.LatticeSolves': WHATEVER THE INPUT: true; the input reads as it did. -/
def latticeSolvesSpec : ChangeSpec := { name := "latticeSolves", fn := fun _ => fun
  | [d1, d2] => { results := [.lit (.bool true)], args := [d1, d2] }
  | _ => none }
def latticeSolvesRow : OpenClaim := { program := "ytfdhpogpeajifaa", sum := "04ad4c4650695030befdbd1653c39a2d04e1252492f10b34ec02e15b414ebd97", func := "crucible/cruciblelaw19.LatticeSolves", spec := "latticeSolves", unfollowed := true, recurses := true, apart := false }
def LatticeSolvesSaid : Prop := latticeSolvesRow.holds Try.pinned (OpenSpec.ofChange latticeSolvesSpec)

/-- ITS FALSE NEIGHBOUR: 'it returns false'. Refute it at one input. -/
def latticeSolvesWrong : ChangeSpec := { name := "latticeSolves", fn := fun _ => fun
  | [d1, d2] => { results := [.lit (.bool false)], args := [d1, d2] }
  | _ => none }
def LatticeSolvesWrongFalsely : Prop := latticeSolvesRow.holds Try.pinned (OpenSpec.ofChange latticeSolvesWrong)

/-- 'cruciblelaw19.LatticeMust': WHATEVER THE INPUT: true; the input reads as it did. -/
def latticeMustSpec : ChangeSpec := { name := "latticeMust", fn := fun _ => fun
  | [d1, d2] => { results := [.lit (.bool true)], args := [d1, d2] }
  | _ => none }
def latticeMustRow : OpenClaim := { program := "ytfdhpogpeajifaa", sum := "04ad4c4650695030befdbd1653c39a2d04e1252492f10b34ec02e15b414ebd97", func := "crucible/cruciblelaw19.LatticeMust", spec := "latticeMust", unfollowed := true, recurses := true, apart := false }
def LatticeMustSaid : Prop := latticeMustRow.holds Try.pinned (OpenSpec.ofChange latticeMustSpec)

/-- ITS FALSE NEIGHBOUR: 'it returns false'. Refute it at one input. -/
def latticeMustWrong : ChangeSpec := { name := "latticeMust", fn := fun _ => fun
  | [d1, d2] => { results := [.lit (.bool false)], args := [d1, d2] }
  | _ => none }
def LatticeMustWrongFalsely : Prop := latticeMustRow.holds Try.pinned (OpenSpec.ofChange latticeMustWrong)

/-- 'cruciblelaw19.LatticeFixed': WHATEVER THE INPUT: true; the input reads as it did. -/
def latticeFixedSpec : ChangeSpec := { name := "latticeFixed", fn := fun _ => fun
  | [d1, d2] => { results := [.lit (.bool true)], args := [d1, d2] }
  | _ => none }
def latticeFixedRow : OpenClaim := { program := "ytfdhpogpeajifaa", sum := "04ad4c4650695030befdbd1653c39a2d04e1252492f10b34ec02e15b414ebd97", func := "crucible/cruciblelaw19.LatticeFixed", spec := "latticeFixed", unfollowed := true, recurses := true, apart := false }
def LatticeFixedSaid : Prop := latticeFixedRow.holds Try.pinned (OpenSpec.ofChange latticeFixedSpec)

/-- ITS FALSE NEIGHBOUR: 'it returns false'. Refute it at one input. -/
def latticeFixedWrong : ChangeSpec := { name := "latticeFixed", fn := fun _ => fun
  | [d1, d2] => { results := [.lit (.bool false)], args := [d1, d2] }
  | _ => none }
def LatticeFixedWrongFalsely : Prop := latticeFixedRow.holds Try.pinned (OpenSpec.ofChange latticeFixedWrong)

/-- 'cruciblelaw19.LatticeOrder': WHATEVER THE INPUT: true; the input reads as it did. -/
def latticeOrderSpec : ChangeSpec := { name := "latticeOrder", fn := fun _ => fun
  | [d1, d2] => { results := [.lit (.bool true)], args := [d1, d2] }
  | _ => none }
def latticeOrderRow : OpenClaim := { program := "ytfdhpogpeajifaa", sum := "04ad4c4650695030befdbd1653c39a2d04e1252492f10b34ec02e15b414ebd97", func := "crucible/cruciblelaw19.LatticeOrder", spec := "latticeOrder", unfollowed := true, recurses := true, apart := false }
def LatticeOrderSaid : Prop := latticeOrderRow.holds Try.pinned (OpenSpec.ofChange latticeOrderSpec)

/-- ITS FALSE NEIGHBOUR: 'it returns false'. Refute it at one input. -/
def latticeOrderWrong : ChangeSpec := { name := "latticeOrder", fn := fun _ => fun
  | [d1, d2] => { results := [.lit (.bool false)], args := [d1, d2] }
  | _ => none }
def LatticeOrderWrongFalsely : Prop := latticeOrderRow.holds Try.pinned (OpenSpec.ofChange latticeOrderWrong)

/-- 'cruciblelaw19.LatticeRefuses': WHATEVER THE INPUT: true; the input reads as it did. -/
def latticeRefusesSpec : ChangeSpec := { name := "latticeRefuses", fn := fun _ => fun
  | [d1, d2, d3] => { results := [.lit (.bool true)], args := [d1, d2, d3] }
  | _ => none }
def latticeRefusesRow : OpenClaim := { program := "ytfdhpogpeajifaa", sum := "04ad4c4650695030befdbd1653c39a2d04e1252492f10b34ec02e15b414ebd97", func := "crucible/cruciblelaw19.LatticeRefuses", spec := "latticeRefuses", unfollowed := true, recurses := true, apart := false }
def LatticeRefusesSaid : Prop := latticeRefusesRow.holds Try.pinned (OpenSpec.ofChange latticeRefusesSpec)

/-- ITS FALSE NEIGHBOUR: 'it returns false'. Refute it at one input. -/
def latticeRefusesWrong : ChangeSpec := { name := "latticeRefuses", fn := fun _ => fun
  | [d1, d2, d3] => { results := [.lit (.bool false)], args := [d1, d2, d3] }
  | _ => none }
def LatticeRefusesWrongFalsely : Prop := latticeRefusesRow.holds Try.pinned (OpenSpec.ofChange latticeRefusesWrong)

/- THE SECOND FORM. 'bulk': how many values and letters a reading holds, each counted each time it is reached (what is shared counts as often as it is met; a slice's spare places count too). A statement '..UptoSaid' is the law's where the arguments, and the package variables that the reading takes, are together of bulk at most 1048576: NARROWER than '..Said'. Prove '..Said' where nothing that the law and all that it calls make is longer than what came in: it says more and counts as full. Else prove '..UptoSaid'. A law counts once. -/
mutual
def uptoBulk {H : Type} : DataW H → Nat
  | .lit (.string bytes) => bytes.length + 1
  | .lit _ => 1
  | .nil => 1
  | .ptr d => uptoBulk d + 1
  | .slice elems spare => uptoBulkAll elems + uptoBulkAll spare + 1
  | .agg parts => uptoBulkAll parts + 1
  | .iface _ d => uptoBulk d + 1
  | .map entries => uptoBulkEntries entries + 1
  | .held _ => 1
def uptoBulkAll {H : Type} : List (DataW H) → Nat
  | [] => 0
  | d :: r => uptoBulk d + uptoBulkAll r
def uptoBulkEntries {H : Type} : List (Lit × DataW H) → Nat
  | [] => 0
  | x :: r => uptoBulkEntry x + uptoBulkEntries r
def uptoBulkEntry {H : Type} : Lit × DataW H → Nat
  | (.string bytes, d) => bytes.length + uptoBulk d + 1
  | (_, d) => uptoBulk d + 1
 end
def uptoSmall : (H : Type) → List (DataW H) → Bool := fun _ ds => decide (uptoBulkAll ds ≤ 1048576)
def OpenSpec.upto (s : _root_.Go.ChangeSpec) : _root_.Go.OpenSpec := { _root_.Go.OpenSpec.ofChange s with cond := some uptoSmall }

/-- 'cruciblelaw19.LatticeSolves', WHERE WHAT IT READS IS OF BULK AT MOST 1048576: true; the input reads as it did. -/
def latticeSolvesUptoRow : OpenClaim := { program := "ytfdhpogpeajifaa", sum := "04ad4c4650695030befdbd1653c39a2d04e1252492f10b34ec02e15b414ebd97", func := "crucible/cruciblelaw19.LatticeSolves", spec := "latticeSolves", unfollowed := true, recurses := true, apart := false, narrowed := true }
def LatticeSolvesUptoSaid : Prop := latticeSolvesUptoRow.holds Try.pinned (OpenSpec.upto latticeSolvesSpec)

/-- 'cruciblelaw19.LatticeMust', WHERE WHAT IT READS IS OF BULK AT MOST 1048576: true; the input reads as it did. -/
def latticeMustUptoRow : OpenClaim := { program := "ytfdhpogpeajifaa", sum := "04ad4c4650695030befdbd1653c39a2d04e1252492f10b34ec02e15b414ebd97", func := "crucible/cruciblelaw19.LatticeMust", spec := "latticeMust", unfollowed := true, recurses := true, apart := false, narrowed := true }
def LatticeMustUptoSaid : Prop := latticeMustUptoRow.holds Try.pinned (OpenSpec.upto latticeMustSpec)

/-- 'cruciblelaw19.LatticeFixed', WHERE WHAT IT READS IS OF BULK AT MOST 1048576: true; the input reads as it did. -/
def latticeFixedUptoRow : OpenClaim := { program := "ytfdhpogpeajifaa", sum := "04ad4c4650695030befdbd1653c39a2d04e1252492f10b34ec02e15b414ebd97", func := "crucible/cruciblelaw19.LatticeFixed", spec := "latticeFixed", unfollowed := true, recurses := true, apart := false, narrowed := true }
def LatticeFixedUptoSaid : Prop := latticeFixedUptoRow.holds Try.pinned (OpenSpec.upto latticeFixedSpec)

/-- 'cruciblelaw19.LatticeOrder', WHERE WHAT IT READS IS OF BULK AT MOST 1048576: true; the input reads as it did. -/
def latticeOrderUptoRow : OpenClaim := { program := "ytfdhpogpeajifaa", sum := "04ad4c4650695030befdbd1653c39a2d04e1252492f10b34ec02e15b414ebd97", func := "crucible/cruciblelaw19.LatticeOrder", spec := "latticeOrder", unfollowed := true, recurses := true, apart := false, narrowed := true }
def LatticeOrderUptoSaid : Prop := latticeOrderUptoRow.holds Try.pinned (OpenSpec.upto latticeOrderSpec)

/-- 'cruciblelaw19.LatticeRefuses', WHERE WHAT IT READS IS OF BULK AT MOST 1048576: true; the input reads as it did. -/
def latticeRefusesUptoRow : OpenClaim := { program := "ytfdhpogpeajifaa", sum := "04ad4c4650695030befdbd1653c39a2d04e1252492f10b34ec02e15b414ebd97", func := "crucible/cruciblelaw19.LatticeRefuses", spec := "latticeRefuses", unfollowed := true, recurses := true, apart := false, narrowed := true }
def LatticeRefusesUptoSaid : Prop := latticeRefusesUptoRow.holds Try.pinned (OpenSpec.upto latticeRefusesSpec)

end Rows
end Go.Proofs.Ytfdhpogpeajifaa
