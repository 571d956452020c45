/-
  No cell of these rows narrows 'for every input' (looked for: loops, veiled, ifaces, maps, wideKeys, modest, calm, conditions, laid).
  DERIVED. THE GIVEN ROWS OF THIS SEAT. 4 by the template 'for every input the law returns true; each argument reads behind the call as it read before'; 0 by the template 'total and deterministic' (their statements: YtdbkbdfehbjlbaaTotals.lean).
  GIVEN WITH THE SEED: the statements are not yours to turn. If you find one false, say at which input.
  Laid BY PROGRAM, IN A SANDBOX (cutbox-rows.mjs): the forced cells as the released guide's own fill.sh prints them over the translation b8d23abe4ddcd29f… (all of the seat's roots in one cut). By AI agents, Wed Nov 11 2026. No macro, syntax, notation, axiom, sorry.
-/
import Derived.Test.YtdbkbdfehbjlbaaChecked
import GoSem.Claim
import GoSem.ClaimJoined
import GoSem.ClaimMapViews
import Derived.JoinedTies
import Derived.KernelRfl
namespace Go.Proofs.Ytdbkbdfehbjlbaa
/- THE CELL 'sum', in the pinned program and in every row, IS THE sha256 OF THE DUMP (.gsa) THAT YtdbkbdfehbjlbaaProg.lean LOADS. Nothing in Lean hashes anything: it is a label: what it is worth is what the hold of that sum in a sandbox is worth. -/
noncomputable def Try.pinned : Pinned := { name := "ytdbkbdfehbjlbaa", sum := "b8d23abe4ddcd29f1846f4078b22e5910358bfa630b3428d1639fc65c5997205", checked := Try.checked }
namespace Rows
def none {H : Type} : Left H := { results := [], args := [] }

/-- 'cruciblelaw01.WordAlus': WHATEVER THE INPUT: true; the input reads as it did. -/
def wordAlusSpec : ChangeSpec := { name := "wordAlus", fn := fun _ => fun
  | [d1, d2, d3] => { results := [.lit (.bool true)], args := [d1, d2, d3] }
  | _ => none }
def wordAlusRow : OpenClaim := { program := "ytdbkbdfehbjlbaa", sum := "b8d23abe4ddcd29f1846f4078b22e5910358bfa630b3428d1639fc65c5997205", func := "crucible/cruciblelaw01.WordAlus", spec := "wordAlus", apart := false }
def WordAlusSaid : Prop := wordAlusRow.holds Try.pinned (OpenSpec.ofChange wordAlusSpec)

/-- ITS FALSE NEIGHBOUR: 'it returns false'. Refute it at one input. -/
def wordAlusWrong : ChangeSpec := { name := "wordAlus", fn := fun _ => fun
  | [d1, d2, d3] => { results := [.lit (.bool false)], args := [d1, d2, d3] }
  | _ => none }
def WordAlusWrongFalsely : Prop := wordAlusRow.holds Try.pinned (OpenSpec.ofChange wordAlusWrong)

/-- 'cruciblelaw01.WordRests': WHATEVER THE INPUT: true; the input reads as it did. -/
def wordRestsSpec : ChangeSpec := { name := "wordRests", fn := fun _ => fun
  | [d1, d2] => { results := [.lit (.bool true)], args := [d1, d2] }
  | _ => none }
def wordRestsRow : OpenClaim := { program := "ytdbkbdfehbjlbaa", sum := "b8d23abe4ddcd29f1846f4078b22e5910358bfa630b3428d1639fc65c5997205", func := "crucible/cruciblelaw01.WordRests", spec := "wordRests", apart := false }
def WordRestsSaid : Prop := wordRestsRow.holds Try.pinned (OpenSpec.ofChange wordRestsSpec)

/-- ITS FALSE NEIGHBOUR: 'it returns false'. Refute it at one input. -/
def wordRestsWrong : ChangeSpec := { name := "wordRests", fn := fun _ => fun
  | [d1, d2] => { results := [.lit (.bool false)], args := [d1, d2] }
  | _ => none }
def WordRestsWrongFalsely : Prop := wordRestsRow.holds Try.pinned (OpenSpec.ofChange wordRestsWrong)

/-- 'cruciblelaw01.WordOrders': WHATEVER THE INPUT: true; the input reads as it did. -/
def wordOrdersSpec : ChangeSpec := { name := "wordOrders", fn := fun _ => fun
  | [d1, d2, d3] => { results := [.lit (.bool true)], args := [d1, d2, d3] }
  | _ => none }
def wordOrdersRow : OpenClaim := { program := "ytdbkbdfehbjlbaa", sum := "b8d23abe4ddcd29f1846f4078b22e5910358bfa630b3428d1639fc65c5997205", func := "crucible/cruciblelaw01.WordOrders", spec := "wordOrders", apart := false }
def WordOrdersSaid : Prop := wordOrdersRow.holds Try.pinned (OpenSpec.ofChange wordOrdersSpec)

/-- ITS FALSE NEIGHBOUR: 'it returns false'. Refute it at one input. -/
def wordOrdersWrong : ChangeSpec := { name := "wordOrders", fn := fun _ => fun
  | [d1, d2, d3] => { results := [.lit (.bool false)], args := [d1, d2, d3] }
  | _ => none }
def WordOrdersWrongFalsely : Prop := wordOrdersRow.holds Try.pinned (OpenSpec.ofChange wordOrdersWrong)

/-- 'cruciblelaw01.WordKinds': WHATEVER THE INPUT: true; the input reads as it did. -/
def wordKindsSpec : ChangeSpec := { name := "wordKinds", fn := fun _ => fun
  | [d1, d2, d3] => { results := [.lit (.bool true)], args := [d1, d2, d3] }
  | _ => none }
def wordKindsRow : OpenClaim := { program := "ytdbkbdfehbjlbaa", sum := "b8d23abe4ddcd29f1846f4078b22e5910358bfa630b3428d1639fc65c5997205", func := "crucible/cruciblelaw01.WordKinds", spec := "wordKinds", apart := false }
def WordKindsSaid : Prop := wordKindsRow.holds Try.pinned (OpenSpec.ofChange wordKindsSpec)

/-- ITS FALSE NEIGHBOUR: 'it returns false'. Refute it at one input. -/
def wordKindsWrong : ChangeSpec := { name := "wordKinds", fn := fun _ => fun
  | [d1, d2, d3] => { results := [.lit (.bool false)], args := [d1, d2, d3] }
  | _ => none }
def WordKindsWrongFalsely : Prop := wordKindsRow.holds Try.pinned (OpenSpec.ofChange wordKindsWrong)

/- THE SECOND FORM. 'bulk': how many values and letters a reading holds, each counted each time it is reached (what is shared counts as often as it is met; a slice's spare places count too). A statement '..UptoSaid' is the law's where the arguments, and the package variables that the reading takes, are together of bulk at most 1048576: NARROWER than '..Said'. Prove '..Said' where nothing that the law and all that it calls make is longer than what came in: it says more and counts as full. Else prove '..UptoSaid'. A law counts once. -/
mutual
def uptoBulk {H : Type} : DataW H → Nat
  | .lit (.string bytes) => bytes.length + 1
  | .lit _ => 1
  | .nil => 1
  | .ptr d => uptoBulk d + 1
  | .slice elems spare => uptoBulkAll elems + uptoBulkAll spare + 1
  | .agg parts => uptoBulkAll parts + 1
  | .iface _ d => uptoBulk d + 1
  | .map entries => uptoBulkEntries entries + 1
  | .held _ => 1
def uptoBulkAll {H : Type} : List (DataW H) → Nat
  | [] => 0
  | d :: r => uptoBulk d + uptoBulkAll r
def uptoBulkEntries {H : Type} : List (Lit × DataW H) → Nat
  | [] => 0
  | x :: r => uptoBulkEntry x + uptoBulkEntries r
def uptoBulkEntry {H : Type} : Lit × DataW H → Nat
  | (.string bytes, d) => bytes.length + uptoBulk d + 1
  | (_, d) => uptoBulk d + 1
 end
def uptoSmall : (H : Type) → List (DataW H) → Bool := fun _ ds => decide (uptoBulkAll ds ≤ 1048576)
def OpenSpec.upto (s : _root_.Go.ChangeSpec) : _root_.Go.OpenSpec := { _root_.Go.OpenSpec.ofChange s with cond := some uptoSmall }

/-- 'cruciblelaw01.WordAlus', WHERE WHAT IT READS IS OF BULK AT MOST 1048576: true; the input reads as it did. -/
def wordAlusUptoRow : OpenClaim := { program := "ytdbkbdfehbjlbaa", sum := "b8d23abe4ddcd29f1846f4078b22e5910358bfa630b3428d1639fc65c5997205", func := "crucible/cruciblelaw01.WordAlus", spec := "wordAlus", apart := false, narrowed := true }
def WordAlusUptoSaid : Prop := wordAlusUptoRow.holds Try.pinned (OpenSpec.upto wordAlusSpec)

/-- 'cruciblelaw01.WordRests', WHERE WHAT IT READS IS OF BULK AT MOST 1048576: true; the input reads as it did. -/
def wordRestsUptoRow : OpenClaim := { program := "ytdbkbdfehbjlbaa", sum := "b8d23abe4ddcd29f1846f4078b22e5910358bfa630b3428d1639fc65c5997205", func := "crucible/cruciblelaw01.WordRests", spec := "wordRests", apart := false, narrowed := true }
def WordRestsUptoSaid : Prop := wordRestsUptoRow.holds Try.pinned (OpenSpec.upto wordRestsSpec)

/-- 'cruciblelaw01.WordOrders', WHERE WHAT IT READS IS OF BULK AT MOST 1048576: true; the input reads as it did. -/
def wordOrdersUptoRow : OpenClaim := { program := "ytdbkbdfehbjlbaa", sum := "b8d23abe4ddcd29f1846f4078b22e5910358bfa630b3428d1639fc65c5997205", func := "crucible/cruciblelaw01.WordOrders", spec := "wordOrders", apart := false, narrowed := true }
def WordOrdersUptoSaid : Prop := wordOrdersUptoRow.holds Try.pinned (OpenSpec.upto wordOrdersSpec)

/-- 'cruciblelaw01.WordKinds', WHERE WHAT IT READS IS OF BULK AT MOST 1048576: true; the input reads as it did. -/
def wordKindsUptoRow : OpenClaim := { program := "ytdbkbdfehbjlbaa", sum := "b8d23abe4ddcd29f1846f4078b22e5910358bfa630b3428d1639fc65c5997205", func := "crucible/cruciblelaw01.WordKinds", spec := "wordKinds", apart := false, narrowed := true }
def WordKindsUptoSaid : Prop := wordKindsUptoRow.holds Try.pinned (OpenSpec.upto wordKindsSpec)

end Rows
end Go.Proofs.Ytdbkbdfehbjlbaa
