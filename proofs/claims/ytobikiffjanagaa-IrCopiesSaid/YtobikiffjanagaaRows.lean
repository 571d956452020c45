/-
  No cell of these rows narrows 'for every input' (looked for: loops, veiled, ifaces, maps, wideKeys, modest, calm, conditions, laid).
  DERIVED. THE GIVEN ROWS OF THIS SEAT. 5 by the template 'for every input the law returns true; each argument reads behind the call as it read before'; 0 by the template 'total and deterministic' (their statements: YtobikiffjanagaaTotals.lean).
  GIVEN WITH THE SEED: the statements are not yours to turn. If you find one false, say at which input.
  Laid BY PROGRAM, IN A SANDBOX (cutbox-rows.mjs): the forced cells as the released guide's own fill.sh prints them over the translation c30e34656709311b… (all of the seat's roots in one cut). By AI agents, Wed Nov 11 2026. No macro, syntax, notation, axiom, sorry.
-/
import Derived.Test.YtobikiffjanagaaChecked
import GoSem.Claim
import GoSem.ClaimJoined
import GoSem.ClaimMapViews
import Derived.JoinedTies
import Derived.KernelRfl
namespace Go.Proofs.Ytobikiffjanagaa
/- THE CELL 'sum', in the pinned program and in every row, IS THE sha256 OF THE DUMP (.gsa) THAT YtobikiffjanagaaProg.lean LOADS. Nothing in Lean hashes anything: it is a label: what it is worth is what the hold of that sum in a sandbox is worth. -/
noncomputable def Try.pinned : Pinned := { name := "ytobikiffjanagaa", sum := "c30e34656709311beaac61e61e7950dcf8c44c50a170e2a87a49d8575331ea09", checked := Try.checked }
namespace Rows
def none {H : Type} : Left H := { results := [], args := [] }

/-- 'cruciblelaw14.IrChecks': WHATEVER THE INPUT: true; the input reads as it did. -/
def irChecksSpec : ChangeSpec := { name := "irChecks", fn := fun _ => fun
  | [d] => { results := [.lit (.bool true)], args := [d] }
  | _ => none }
def irChecksRow : OpenClaim := { program := "ytobikiffjanagaa", sum := "c30e34656709311beaac61e61e7950dcf8c44c50a170e2a87a49d8575331ea09", func := "crucible/cruciblelaw14.IrChecks", spec := "irChecks", apart := false }
def IrChecksSaid : Prop := irChecksRow.holds Try.pinned (OpenSpec.ofChange irChecksSpec)

/-- ITS FALSE NEIGHBOUR: 'it returns false'. Refute it at one input. -/
def irChecksWrong : ChangeSpec := { name := "irChecks", fn := fun _ => fun
  | [d] => { results := [.lit (.bool false)], args := [d] }
  | _ => none }
def IrChecksWrongFalsely : Prop := irChecksRow.holds Try.pinned (OpenSpec.ofChange irChecksWrong)

/-- 'cruciblelaw14.IrFuncs': WHATEVER THE INPUT: true; the input reads as it did. -/
def irFuncsSpec : ChangeSpec := { name := "irFuncs", fn := fun _ => fun
  | [d1, d2] => { results := [.lit (.bool true)], args := [d1, d2] }
  | _ => none }
def irFuncsRow : OpenClaim := { program := "ytobikiffjanagaa", sum := "c30e34656709311beaac61e61e7950dcf8c44c50a170e2a87a49d8575331ea09", func := "crucible/cruciblelaw14.IrFuncs", spec := "irFuncs", apart := false }
def IrFuncsSaid : Prop := irFuncsRow.holds Try.pinned (OpenSpec.ofChange irFuncsSpec)

/-- ITS FALSE NEIGHBOUR: 'it returns false'. Refute it at one input. -/
def irFuncsWrong : ChangeSpec := { name := "irFuncs", fn := fun _ => fun
  | [d1, d2] => { results := [.lit (.bool false)], args := [d1, d2] }
  | _ => none }
def IrFuncsWrongFalsely : Prop := irFuncsRow.holds Try.pinned (OpenSpec.ofChange irFuncsWrong)

/-- 'cruciblelaw14.IrWays': WHATEVER THE INPUT: true; the input reads as it did. -/
def irWaysSpec : ChangeSpec := { name := "irWays", fn := fun _ => fun
  | [d] => { results := [.lit (.bool true)], args := [d] }
  | _ => none }
def irWaysRow : OpenClaim := { program := "ytobikiffjanagaa", sum := "c30e34656709311beaac61e61e7950dcf8c44c50a170e2a87a49d8575331ea09", func := "crucible/cruciblelaw14.IrWays", spec := "irWays", apart := false }
def IrWaysSaid : Prop := irWaysRow.holds Try.pinned (OpenSpec.ofChange irWaysSpec)

/-- ITS FALSE NEIGHBOUR: 'it returns false'. Refute it at one input. -/
def irWaysWrong : ChangeSpec := { name := "irWays", fn := fun _ => fun
  | [d] => { results := [.lit (.bool false)], args := [d] }
  | _ => none }
def IrWaysWrongFalsely : Prop := irWaysRow.holds Try.pinned (OpenSpec.ofChange irWaysWrong)

/-- 'cruciblelaw14.IrPures': WHATEVER THE INPUT: true; the input reads as it did. -/
def irPuresSpec : ChangeSpec := { name := "irPures", fn := fun _ => fun
  | [d] => { results := [.lit (.bool true)], args := [d] }
  | _ => none }
def irPuresRow : OpenClaim := { program := "ytobikiffjanagaa", sum := "c30e34656709311beaac61e61e7950dcf8c44c50a170e2a87a49d8575331ea09", func := "crucible/cruciblelaw14.IrPures", spec := "irPures", apart := false }
def IrPuresSaid : Prop := irPuresRow.holds Try.pinned (OpenSpec.ofChange irPuresSpec)

/-- ITS FALSE NEIGHBOUR: 'it returns false'. Refute it at one input. -/
def irPuresWrong : ChangeSpec := { name := "irPures", fn := fun _ => fun
  | [d] => { results := [.lit (.bool false)], args := [d] }
  | _ => none }
def IrPuresWrongFalsely : Prop := irPuresRow.holds Try.pinned (OpenSpec.ofChange irPuresWrong)

/-- 'cruciblelaw14.IrCopies': WHATEVER THE INPUT: true; the input reads as it did. -/
def irCopiesSpec : ChangeSpec := { name := "irCopies", fn := fun _ => fun
  | [d1, d2] => { results := [.lit (.bool true)], args := [d1, d2] }
  | _ => none }
def irCopiesRow : OpenClaim := { program := "ytobikiffjanagaa", sum := "c30e34656709311beaac61e61e7950dcf8c44c50a170e2a87a49d8575331ea09", func := "crucible/cruciblelaw14.IrCopies", spec := "irCopies", unfollowed := true, recurses := true, apart := false }
def IrCopiesSaid : Prop := irCopiesRow.holds Try.pinned (OpenSpec.ofChange irCopiesSpec)

/-- ITS FALSE NEIGHBOUR: 'it returns false'. Refute it at one input. -/
def irCopiesWrong : ChangeSpec := { name := "irCopies", fn := fun _ => fun
  | [d1, d2] => { results := [.lit (.bool false)], args := [d1, d2] }
  | _ => none }
def IrCopiesWrongFalsely : Prop := irCopiesRow.holds Try.pinned (OpenSpec.ofChange irCopiesWrong)

/- THE SECOND FORM. 'bulk': how many values and letters a reading holds, each counted each time it is reached (what is shared counts as often as it is met; a slice's spare places count too). A statement '..UptoSaid' is the law's where the arguments, and the package variables that the reading takes, are together of bulk at most 1048576: NARROWER than '..Said'. Prove '..Said' where nothing that the law and all that it calls make is longer than what came in: it says more and counts as full. Else prove '..UptoSaid'. A law counts once. -/
mutual
def uptoBulk {H : Type} : DataW H → Nat
  | .lit (.string bytes) => bytes.length + 1
  | .lit _ => 1
  | .nil => 1
  | .ptr d => uptoBulk d + 1
  | .slice elems spare => uptoBulkAll elems + uptoBulkAll spare + 1
  | .agg parts => uptoBulkAll parts + 1
  | .iface _ d => uptoBulk d + 1
  | .map entries => uptoBulkEntries entries + 1
  | .held _ => 1
def uptoBulkAll {H : Type} : List (DataW H) → Nat
  | [] => 0
  | d :: r => uptoBulk d + uptoBulkAll r
def uptoBulkEntries {H : Type} : List (Lit × DataW H) → Nat
  | [] => 0
  | x :: r => uptoBulkEntry x + uptoBulkEntries r
def uptoBulkEntry {H : Type} : Lit × DataW H → Nat
  | (.string bytes, d) => bytes.length + uptoBulk d + 1
  | (_, d) => uptoBulk d + 1
 end
def uptoSmall : (H : Type) → List (DataW H) → Bool := fun _ ds => decide (uptoBulkAll ds ≤ 1048576)
def OpenSpec.upto (s : _root_.Go.ChangeSpec) : _root_.Go.OpenSpec := { _root_.Go.OpenSpec.ofChange s with cond := some uptoSmall }

/-- 'cruciblelaw14.IrChecks', WHERE WHAT IT READS IS OF BULK AT MOST 1048576: true; the input reads as it did. -/
def irChecksUptoRow : OpenClaim := { program := "ytobikiffjanagaa", sum := "c30e34656709311beaac61e61e7950dcf8c44c50a170e2a87a49d8575331ea09", func := "crucible/cruciblelaw14.IrChecks", spec := "irChecks", apart := false, narrowed := true }
def IrChecksUptoSaid : Prop := irChecksUptoRow.holds Try.pinned (OpenSpec.upto irChecksSpec)

/-- 'cruciblelaw14.IrFuncs', WHERE WHAT IT READS IS OF BULK AT MOST 1048576: true; the input reads as it did. -/
def irFuncsUptoRow : OpenClaim := { program := "ytobikiffjanagaa", sum := "c30e34656709311beaac61e61e7950dcf8c44c50a170e2a87a49d8575331ea09", func := "crucible/cruciblelaw14.IrFuncs", spec := "irFuncs", apart := false, narrowed := true }
def IrFuncsUptoSaid : Prop := irFuncsUptoRow.holds Try.pinned (OpenSpec.upto irFuncsSpec)

/-- 'cruciblelaw14.IrWays', WHERE WHAT IT READS IS OF BULK AT MOST 1048576: true; the input reads as it did. -/
def irWaysUptoRow : OpenClaim := { program := "ytobikiffjanagaa", sum := "c30e34656709311beaac61e61e7950dcf8c44c50a170e2a87a49d8575331ea09", func := "crucible/cruciblelaw14.IrWays", spec := "irWays", apart := false, narrowed := true }
def IrWaysUptoSaid : Prop := irWaysUptoRow.holds Try.pinned (OpenSpec.upto irWaysSpec)

/-- 'cruciblelaw14.IrPures', WHERE WHAT IT READS IS OF BULK AT MOST 1048576: true; the input reads as it did. -/
def irPuresUptoRow : OpenClaim := { program := "ytobikiffjanagaa", sum := "c30e34656709311beaac61e61e7950dcf8c44c50a170e2a87a49d8575331ea09", func := "crucible/cruciblelaw14.IrPures", spec := "irPures", apart := false, narrowed := true }
def IrPuresUptoSaid : Prop := irPuresUptoRow.holds Try.pinned (OpenSpec.upto irPuresSpec)

/-- 'cruciblelaw14.IrCopies', WHERE WHAT IT READS IS OF BULK AT MOST 1048576: true; the input reads as it did. -/
def irCopiesUptoRow : OpenClaim := { program := "ytobikiffjanagaa", sum := "c30e34656709311beaac61e61e7950dcf8c44c50a170e2a87a49d8575331ea09", func := "crucible/cruciblelaw14.IrCopies", spec := "irCopies", unfollowed := true, recurses := true, apart := false, narrowed := true }
def IrCopiesUptoSaid : Prop := irCopiesUptoRow.holds Try.pinned (OpenSpec.upto irCopiesSpec)

end Rows
end Go.Proofs.Ytobikiffjanagaa
