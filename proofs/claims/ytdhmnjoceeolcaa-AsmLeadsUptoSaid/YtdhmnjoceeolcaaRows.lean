/-
  No cell of these rows narrows 'for every input' (looked for: loops, veiled, ifaces, maps, wideKeys, modest, calm, conditions, laid).
  DERIVED. THE GIVEN ROWS OF THIS SEAT. 4 by the template 'for every input the law returns true; each argument reads behind the call as it read before'; 0 by the template 'total and deterministic' (their statements: YtdhmnjoceeolcaaTotals.lean).
  GIVEN WITH THE SEED: the statements are not yours to turn. If you find one false, say at which input.
  Laid BY PROGRAM, IN A SANDBOX (cutbox-rows.mjs): the forced cells as the released guide's own fill.sh prints them over the translation cd2df6c654b40499… (all of the seat's roots in one cut). By AI agents, Wed Nov 11 2026. No macro, syntax, notation, axiom, sorry.
-/
import Derived.Test.YtdhmnjoceeolcaaChecked
import GoSem.Claim
import GoSem.ClaimJoined
import GoSem.ClaimMapViews
import Derived.JoinedTies
import Derived.KernelRfl
namespace Go.Proofs.Ytdhmnjoceeolcaa
/- THE CELL 'sum', in the pinned program and in every row, IS THE sha256 OF THE DUMP (.gsa) THAT YtdhmnjoceeolcaaProg.lean LOADS. Nothing in Lean hashes anything: it is a label: what it is worth is what the hold of that sum in a sandbox is worth. -/
noncomputable def Try.pinned : Pinned := { name := "ytdhmnjoceeolcaa", sum := "cd2df6c654b40499cb8ab5111bdc2e9fbafee2b8d6a1b60aaa5dc6a78a23ee4e", checked := Try.checked }
namespace Rows
def none {H : Type} : Left H := { results := [], args := [] }

/-- 'cruciblelaw06.AsmAssembles': WHATEVER THE INPUT: true; the input reads as it did. -/
def asmAssemblesSpec : ChangeSpec := { name := "asmAssembles", fn := fun _ => fun
  | [d] => { results := [.lit (.bool true)], args := [d] }
  | _ => none }
def asmAssemblesRow : OpenClaim := { program := "ytdhmnjoceeolcaa", sum := "cd2df6c654b40499cb8ab5111bdc2e9fbafee2b8d6a1b60aaa5dc6a78a23ee4e", func := "crucible/cruciblelaw06.AsmAssembles", spec := "asmAssembles", recurses := true, apart := false }
def AsmAssemblesSaid : Prop := asmAssemblesRow.holds Try.pinned (OpenSpec.ofChange asmAssemblesSpec)

/-- ITS FALSE NEIGHBOUR: 'it returns false'. Refute it at one input. -/
def asmAssemblesWrong : ChangeSpec := { name := "asmAssembles", fn := fun _ => fun
  | [d] => { results := [.lit (.bool false)], args := [d] }
  | _ => none }
def AsmAssemblesWrongFalsely : Prop := asmAssemblesRow.holds Try.pinned (OpenSpec.ofChange asmAssemblesWrong)

/-- 'cruciblelaw06.AsmNames': WHATEVER THE INPUT: true; the input reads as it did. -/
def asmNamesSpec : ChangeSpec := { name := "asmNames", fn := fun _ => fun
  | [d1, d2] => { results := [.lit (.bool true)], args := [d1, d2] }
  | _ => none }
def asmNamesRow : OpenClaim := { program := "ytdhmnjoceeolcaa", sum := "cd2df6c654b40499cb8ab5111bdc2e9fbafee2b8d6a1b60aaa5dc6a78a23ee4e", func := "crucible/cruciblelaw06.AsmNames", spec := "asmNames", apart := false }
def AsmNamesSaid : Prop := asmNamesRow.holds Try.pinned (OpenSpec.ofChange asmNamesSpec)

/-- ITS FALSE NEIGHBOUR: 'it returns false'. Refute it at one input. -/
def asmNamesWrong : ChangeSpec := { name := "asmNames", fn := fun _ => fun
  | [d1, d2] => { results := [.lit (.bool false)], args := [d1, d2] }
  | _ => none }
def AsmNamesWrongFalsely : Prop := asmNamesRow.holds Try.pinned (OpenSpec.ofChange asmNamesWrong)

/-- 'cruciblelaw06.AsmPlaces': WHATEVER THE INPUT: true; the input reads as it did. -/
def asmPlacesSpec : ChangeSpec := { name := "asmPlaces", fn := fun _ => fun
  | [d1, d2] => { results := [.lit (.bool true)], args := [d1, d2] }
  | _ => none }
def asmPlacesRow : OpenClaim := { program := "ytdhmnjoceeolcaa", sum := "cd2df6c654b40499cb8ab5111bdc2e9fbafee2b8d6a1b60aaa5dc6a78a23ee4e", func := "crucible/cruciblelaw06.AsmPlaces", spec := "asmPlaces", recurses := true, apart := false }
def AsmPlacesSaid : Prop := asmPlacesRow.holds Try.pinned (OpenSpec.ofChange asmPlacesSpec)

/-- ITS FALSE NEIGHBOUR: 'it returns false'. Refute it at one input. -/
def asmPlacesWrong : ChangeSpec := { name := "asmPlaces", fn := fun _ => fun
  | [d1, d2] => { results := [.lit (.bool false)], args := [d1, d2] }
  | _ => none }
def AsmPlacesWrongFalsely : Prop := asmPlacesRow.holds Try.pinned (OpenSpec.ofChange asmPlacesWrong)

/-- 'cruciblelaw06.AsmLeads': WHATEVER THE INPUT: true; the input reads as it did. -/
def asmLeadsSpec : ChangeSpec := { name := "asmLeads", fn := fun _ => fun
  | [d] => { results := [.lit (.bool true)], args := [d] }
  | _ => none }
def asmLeadsRow : OpenClaim := { program := "ytdhmnjoceeolcaa", sum := "cd2df6c654b40499cb8ab5111bdc2e9fbafee2b8d6a1b60aaa5dc6a78a23ee4e", func := "crucible/cruciblelaw06.AsmLeads", spec := "asmLeads", apart := false }
def AsmLeadsSaid : Prop := asmLeadsRow.holds Try.pinned (OpenSpec.ofChange asmLeadsSpec)

/-- ITS FALSE NEIGHBOUR: 'it returns false'. Refute it at one input. -/
def asmLeadsWrong : ChangeSpec := { name := "asmLeads", fn := fun _ => fun
  | [d] => { results := [.lit (.bool false)], args := [d] }
  | _ => none }
def AsmLeadsWrongFalsely : Prop := asmLeadsRow.holds Try.pinned (OpenSpec.ofChange asmLeadsWrong)

/- THE SECOND FORM. 'bulk': how many values and letters a reading holds, each counted each time it is reached (what is shared counts as often as it is met; a slice's spare places count too). A statement '..UptoSaid' is the law's where the arguments, and the package variables that the reading takes, are together of bulk at most 1048576: NARROWER than '..Said'. Prove '..Said' where nothing that the law and all that it calls make is longer than what came in: it says more and counts as full. Else prove '..UptoSaid'. A law counts once. -/
mutual
def uptoBulk {H : Type} : DataW H → Nat
  | .lit (.string bytes) => bytes.length + 1
  | .lit _ => 1
  | .nil => 1
  | .ptr d => uptoBulk d + 1
  | .slice elems spare => uptoBulkAll elems + uptoBulkAll spare + 1
  | .agg parts => uptoBulkAll parts + 1
  | .iface _ d => uptoBulk d + 1
  | .map entries => uptoBulkEntries entries + 1
  | .held _ => 1
def uptoBulkAll {H : Type} : List (DataW H) → Nat
  | [] => 0
  | d :: r => uptoBulk d + uptoBulkAll r
def uptoBulkEntries {H : Type} : List (Lit × DataW H) → Nat
  | [] => 0
  | x :: r => uptoBulkEntry x + uptoBulkEntries r
def uptoBulkEntry {H : Type} : Lit × DataW H → Nat
  | (.string bytes, d) => bytes.length + uptoBulk d + 1
  | (_, d) => uptoBulk d + 1
 end
def uptoSmall : (H : Type) → List (DataW H) → Bool := fun _ ds => decide (uptoBulkAll ds ≤ 1048576)
def OpenSpec.upto (s : _root_.Go.ChangeSpec) : _root_.Go.OpenSpec := { _root_.Go.OpenSpec.ofChange s with cond := some uptoSmall }

/-- 'cruciblelaw06.AsmAssembles', WHERE WHAT IT READS IS OF BULK AT MOST 1048576: true; the input reads as it did. -/
def asmAssemblesUptoRow : OpenClaim := { program := "ytdhmnjoceeolcaa", sum := "cd2df6c654b40499cb8ab5111bdc2e9fbafee2b8d6a1b60aaa5dc6a78a23ee4e", func := "crucible/cruciblelaw06.AsmAssembles", spec := "asmAssembles", recurses := true, apart := false, narrowed := true }
def AsmAssemblesUptoSaid : Prop := asmAssemblesUptoRow.holds Try.pinned (OpenSpec.upto asmAssemblesSpec)

/-- 'cruciblelaw06.AsmNames', WHERE WHAT IT READS IS OF BULK AT MOST 1048576: true; the input reads as it did. -/
def asmNamesUptoRow : OpenClaim := { program := "ytdhmnjoceeolcaa", sum := "cd2df6c654b40499cb8ab5111bdc2e9fbafee2b8d6a1b60aaa5dc6a78a23ee4e", func := "crucible/cruciblelaw06.AsmNames", spec := "asmNames", apart := false, narrowed := true }
def AsmNamesUptoSaid : Prop := asmNamesUptoRow.holds Try.pinned (OpenSpec.upto asmNamesSpec)

/-- 'cruciblelaw06.AsmPlaces', WHERE WHAT IT READS IS OF BULK AT MOST 1048576: true; the input reads as it did. -/
def asmPlacesUptoRow : OpenClaim := { program := "ytdhmnjoceeolcaa", sum := "cd2df6c654b40499cb8ab5111bdc2e9fbafee2b8d6a1b60aaa5dc6a78a23ee4e", func := "crucible/cruciblelaw06.AsmPlaces", spec := "asmPlaces", recurses := true, apart := false, narrowed := true }
def AsmPlacesUptoSaid : Prop := asmPlacesUptoRow.holds Try.pinned (OpenSpec.upto asmPlacesSpec)

/-- 'cruciblelaw06.AsmLeads', WHERE WHAT IT READS IS OF BULK AT MOST 1048576: true; the input reads as it did. -/
def asmLeadsUptoRow : OpenClaim := { program := "ytdhmnjoceeolcaa", sum := "cd2df6c654b40499cb8ab5111bdc2e9fbafee2b8d6a1b60aaa5dc6a78a23ee4e", func := "crucible/cruciblelaw06.AsmLeads", spec := "asmLeads", apart := false, narrowed := true }
def AsmLeadsUptoSaid : Prop := asmLeadsUptoRow.holds Try.pinned (OpenSpec.upto asmLeadsSpec)

end Rows
end Go.Proofs.Ytdhmnjoceeolcaa
