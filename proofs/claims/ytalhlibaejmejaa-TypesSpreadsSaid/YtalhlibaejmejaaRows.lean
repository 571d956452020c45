/-
  No cell of these rows narrows 'for every input' (looked for: loops, veiled, ifaces, maps, wideKeys, modest, calm, conditions, laid).
  DERIVED. THE GIVEN ROWS OF THIS SEAT. 5 by the template 'for every input the law returns true; each argument reads behind the call as it read before'; 0 by the template 'total and deterministic' (their statements: YtalhlibaejmejaaTotals.lean).
  GIVEN WITH THE SEED: the statements are not yours to turn. If you find one false, say at which input.
  Laid BY PROGRAM, IN A SANDBOX (cutbox-rows.mjs): the forced cells as the released guide's own fill.sh prints them over the translation 4b1237e93bddfa58… (all of the seat's roots in one cut). By AI agents, Wed Nov 11 2026. No macro, syntax, notation, axiom, sorry.
-/
import Derived.Test.YtalhlibaejmejaaChecked
import GoSem.Claim
import GoSem.ClaimJoined
import GoSem.ClaimMapViews
import Derived.JoinedTies
import Derived.KernelRfl
namespace Go.Proofs.Ytalhlibaejmejaa
/- THE CELL 'sum', in the pinned program and in every row, IS THE sha256 OF THE DUMP (.gsa) THAT YtalhlibaejmejaaProg.lean LOADS. Nothing in Lean hashes anything: it is a label: what it is worth is what the hold of that sum in a sandbox is worth. -/
noncomputable def Try.pinned : Pinned := { name := "ytalhlibaejmejaa", sum := "4b1237e93bddfa5890a039250fa3a9ee9d14d9f446d1e72caab0ea635fae8cfd", checked := Try.checked }
namespace Rows
def none {H : Type} : Left H := { results := [], args := [] }

/-- 'cruciblelaw10.TypesLayouts': WHATEVER THE INPUT: true; the input reads as it did. -/
def typesLayoutsSpec : ChangeSpec := { name := "typesLayouts", fn := fun _ => fun
  | [d1, d2, d3] => { results := [.lit (.bool true)], args := [d1, d2, d3] }
  | _ => none }
def typesLayoutsRow : OpenClaim := { program := "ytalhlibaejmejaa", sum := "4b1237e93bddfa5890a039250fa3a9ee9d14d9f446d1e72caab0ea635fae8cfd", func := "crucible/cruciblelaw10.TypesLayouts", spec := "typesLayouts", unfollowed := true, recurses := true, apart := false }
def TypesLayoutsSaid : Prop := typesLayoutsRow.holds Try.pinned (OpenSpec.ofChange typesLayoutsSpec)

/-- ITS FALSE NEIGHBOUR: 'it returns false'. Refute it at one input. -/
def typesLayoutsWrong : ChangeSpec := { name := "typesLayouts", fn := fun _ => fun
  | [d1, d2, d3] => { results := [.lit (.bool false)], args := [d1, d2, d3] }
  | _ => none }
def TypesLayoutsWrongFalsely : Prop := typesLayoutsRow.holds Try.pinned (OpenSpec.ofChange typesLayoutsWrong)

/-- 'cruciblelaw10.TypesApart': WHATEVER THE INPUT: true; the input reads as it did. -/
def typesApartSpec : ChangeSpec := { name := "typesApart", fn := fun _ => fun
  | [d1, d2] => { results := [.lit (.bool true)], args := [d1, d2] }
  | _ => none }
def typesApartRow : OpenClaim := { program := "ytalhlibaejmejaa", sum := "4b1237e93bddfa5890a039250fa3a9ee9d14d9f446d1e72caab0ea635fae8cfd", func := "crucible/cruciblelaw10.TypesApart", spec := "typesApart", unfollowed := true, recurses := true, apart := false }
def TypesApartSaid : Prop := typesApartRow.holds Try.pinned (OpenSpec.ofChange typesApartSpec)

/-- ITS FALSE NEIGHBOUR: 'it returns false'. Refute it at one input. -/
def typesApartWrong : ChangeSpec := { name := "typesApart", fn := fun _ => fun
  | [d1, d2] => { results := [.lit (.bool false)], args := [d1, d2] }
  | _ => none }
def TypesApartWrongFalsely : Prop := typesApartRow.holds Try.pinned (OpenSpec.ofChange typesApartWrong)

/-- 'cruciblelaw10.TypesSizes': WHATEVER THE INPUT: true; the input reads as it did. -/
def typesSizesSpec : ChangeSpec := { name := "typesSizes", fn := fun _ => fun
  | [d1, d2] => { results := [.lit (.bool true)], args := [d1, d2] }
  | _ => none }
def typesSizesRow : OpenClaim := { program := "ytalhlibaejmejaa", sum := "4b1237e93bddfa5890a039250fa3a9ee9d14d9f446d1e72caab0ea635fae8cfd", func := "crucible/cruciblelaw10.TypesSizes", spec := "typesSizes", unfollowed := true, recurses := true, apart := false }
def TypesSizesSaid : Prop := typesSizesRow.holds Try.pinned (OpenSpec.ofChange typesSizesSpec)

/-- ITS FALSE NEIGHBOUR: 'it returns false'. Refute it at one input. -/
def typesSizesWrong : ChangeSpec := { name := "typesSizes", fn := fun _ => fun
  | [d1, d2] => { results := [.lit (.bool false)], args := [d1, d2] }
  | _ => none }
def TypesSizesWrongFalsely : Prop := typesSizesRow.holds Try.pinned (OpenSpec.ofChange typesSizesWrong)

/-- 'cruciblelaw10.TypesSpreads': WHATEVER THE INPUT: true; the input reads as it did. -/
def typesSpreadsSpec : ChangeSpec := { name := "typesSpreads", fn := fun _ => fun
  | [d1, d2] => { results := [.lit (.bool true)], args := [d1, d2] }
  | _ => none }
def typesSpreadsRow : OpenClaim := { program := "ytalhlibaejmejaa", sum := "4b1237e93bddfa5890a039250fa3a9ee9d14d9f446d1e72caab0ea635fae8cfd", func := "crucible/cruciblelaw10.TypesSpreads", spec := "typesSpreads", unfollowed := true, recurses := true, apart := false }
def TypesSpreadsSaid : Prop := typesSpreadsRow.holds Try.pinned (OpenSpec.ofChange typesSpreadsSpec)

/-- ITS FALSE NEIGHBOUR: 'it returns false'. Refute it at one input. -/
def typesSpreadsWrong : ChangeSpec := { name := "typesSpreads", fn := fun _ => fun
  | [d1, d2] => { results := [.lit (.bool false)], args := [d1, d2] }
  | _ => none }
def TypesSpreadsWrongFalsely : Prop := typesSpreadsRow.holds Try.pinned (OpenSpec.ofChange typesSpreadsWrong)

/-- 'cruciblelaw10.TypesLie': WHATEVER THE INPUT: true; the input reads as it did. -/
def typesLieSpec : ChangeSpec := { name := "typesLie", fn := fun _ => fun
  | [d1, d2] => { results := [.lit (.bool true)], args := [d1, d2] }
  | _ => none }
def typesLieRow : OpenClaim := { program := "ytalhlibaejmejaa", sum := "4b1237e93bddfa5890a039250fa3a9ee9d14d9f446d1e72caab0ea635fae8cfd", func := "crucible/cruciblelaw10.TypesLie", spec := "typesLie", unfollowed := true, recurses := true, apart := false }
def TypesLieSaid : Prop := typesLieRow.holds Try.pinned (OpenSpec.ofChange typesLieSpec)

/-- ITS FALSE NEIGHBOUR: 'it returns false'. Refute it at one input. -/
def typesLieWrong : ChangeSpec := { name := "typesLie", fn := fun _ => fun
  | [d1, d2] => { results := [.lit (.bool false)], args := [d1, d2] }
  | _ => none }
def TypesLieWrongFalsely : Prop := typesLieRow.holds Try.pinned (OpenSpec.ofChange typesLieWrong)

/- THE SECOND FORM. 'bulk': how many values and letters a reading holds, each counted each time it is reached (what is shared counts as often as it is met; a slice's spare places count too). A statement '..UptoSaid' is the law's where the arguments, and the package variables that the reading takes, are together of bulk at most 1048576: NARROWER than '..Said'. Prove '..Said' where nothing that the law and all that it calls make is longer than what came in: it says more and counts as full. Else prove '..UptoSaid'. A law counts once. -/
mutual
def uptoBulk {H : Type} : DataW H → Nat
  | .lit (.string bytes) => bytes.length + 1
  | .lit _ => 1
  | .nil => 1
  | .ptr d => uptoBulk d + 1
  | .slice elems spare => uptoBulkAll elems + uptoBulkAll spare + 1
  | .agg parts => uptoBulkAll parts + 1
  | .iface _ d => uptoBulk d + 1
  | .map entries => uptoBulkEntries entries + 1
  | .held _ => 1
def uptoBulkAll {H : Type} : List (DataW H) → Nat
  | [] => 0
  | d :: r => uptoBulk d + uptoBulkAll r
def uptoBulkEntries {H : Type} : List (Lit × DataW H) → Nat
  | [] => 0
  | x :: r => uptoBulkEntry x + uptoBulkEntries r
def uptoBulkEntry {H : Type} : Lit × DataW H → Nat
  | (.string bytes, d) => bytes.length + uptoBulk d + 1
  | (_, d) => uptoBulk d + 1
 end
def uptoSmall : (H : Type) → List (DataW H) → Bool := fun _ ds => decide (uptoBulkAll ds ≤ 1048576)
def OpenSpec.upto (s : _root_.Go.ChangeSpec) : _root_.Go.OpenSpec := { _root_.Go.OpenSpec.ofChange s with cond := some uptoSmall }

/-- 'cruciblelaw10.TypesLayouts', WHERE WHAT IT READS IS OF BULK AT MOST 1048576: true; the input reads as it did. -/
def typesLayoutsUptoRow : OpenClaim := { program := "ytalhlibaejmejaa", sum := "4b1237e93bddfa5890a039250fa3a9ee9d14d9f446d1e72caab0ea635fae8cfd", func := "crucible/cruciblelaw10.TypesLayouts", spec := "typesLayouts", unfollowed := true, recurses := true, apart := false, narrowed := true }
def TypesLayoutsUptoSaid : Prop := typesLayoutsUptoRow.holds Try.pinned (OpenSpec.upto typesLayoutsSpec)

/-- 'cruciblelaw10.TypesApart', WHERE WHAT IT READS IS OF BULK AT MOST 1048576: true; the input reads as it did. -/
def typesApartUptoRow : OpenClaim := { program := "ytalhlibaejmejaa", sum := "4b1237e93bddfa5890a039250fa3a9ee9d14d9f446d1e72caab0ea635fae8cfd", func := "crucible/cruciblelaw10.TypesApart", spec := "typesApart", unfollowed := true, recurses := true, apart := false, narrowed := true }
def TypesApartUptoSaid : Prop := typesApartUptoRow.holds Try.pinned (OpenSpec.upto typesApartSpec)

/-- 'cruciblelaw10.TypesSizes', WHERE WHAT IT READS IS OF BULK AT MOST 1048576: true; the input reads as it did. -/
def typesSizesUptoRow : OpenClaim := { program := "ytalhlibaejmejaa", sum := "4b1237e93bddfa5890a039250fa3a9ee9d14d9f446d1e72caab0ea635fae8cfd", func := "crucible/cruciblelaw10.TypesSizes", spec := "typesSizes", unfollowed := true, recurses := true, apart := false, narrowed := true }
def TypesSizesUptoSaid : Prop := typesSizesUptoRow.holds Try.pinned (OpenSpec.upto typesSizesSpec)

/-- 'cruciblelaw10.TypesSpreads', WHERE WHAT IT READS IS OF BULK AT MOST 1048576: true; the input reads as it did. -/
def typesSpreadsUptoRow : OpenClaim := { program := "ytalhlibaejmejaa", sum := "4b1237e93bddfa5890a039250fa3a9ee9d14d9f446d1e72caab0ea635fae8cfd", func := "crucible/cruciblelaw10.TypesSpreads", spec := "typesSpreads", unfollowed := true, recurses := true, apart := false, narrowed := true }
def TypesSpreadsUptoSaid : Prop := typesSpreadsUptoRow.holds Try.pinned (OpenSpec.upto typesSpreadsSpec)

/-- 'cruciblelaw10.TypesLie', WHERE WHAT IT READS IS OF BULK AT MOST 1048576: true; the input reads as it did. -/
def typesLieUptoRow : OpenClaim := { program := "ytalhlibaejmejaa", sum := "4b1237e93bddfa5890a039250fa3a9ee9d14d9f446d1e72caab0ea635fae8cfd", func := "crucible/cruciblelaw10.TypesLie", spec := "typesLie", unfollowed := true, recurses := true, apart := false, narrowed := true }
def TypesLieUptoSaid : Prop := typesLieUptoRow.holds Try.pinned (OpenSpec.upto typesLieSpec)

end Rows
end Go.Proofs.Ytalhlibaejmejaa
