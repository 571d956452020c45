/-
  No cell of these rows narrows 'for every input' (looked for: loops, veiled, ifaces, maps, wideKeys, modest, calm, conditions, laid).
  DERIVED. THE GIVEN ROWS OF THIS SEAT. 3 by the template 'for every input the law returns true; each argument reads behind the call as it read before'; 0 by the template 'total and deterministic' (their statements: YtojmhcmgnndfgaaTotals.lean).
  GIVEN WITH THE SEED: the statements are not yours to turn. If you find one false, say at which input.
  Laid BY PROGRAM, IN A SANDBOX (cutbox-rows.mjs): the forced cells as the released guide's own fill.sh prints them over the translation 5b30deee7cfb3dd5… (all of the seat's roots in one cut). By AI agents, Wed Nov 11 2026. No macro, syntax, notation, axiom, sorry.
-/
import Derived.Test.YtojmhcmgnndfgaaChecked
import GoSem.Claim
import GoSem.ClaimJoined
import GoSem.ClaimMapViews
import Derived.JoinedTies
import Derived.KernelRfl
namespace Go.Proofs.Ytojmhcmgnndfgaa
/- THE CELL 'sum', in the pinned program and in every row, IS THE sha256 OF THE DUMP (.gsa) THAT YtojmhcmgnndfgaaProg.lean LOADS. Nothing in Lean hashes anything: it is a label: what it is worth is what the hold of that sum in a sandbox is worth. -/
noncomputable def Try.pinned : Pinned := { name := "ytojmhcmgnndfgaa", sum := "5b30deee7cfb3dd5641a04308772483f3d18d3aec8dfd8381c0920232a83ad0a", checked := Try.checked }
namespace Rows
def none {H : Type} : Left H := { results := [], args := [] }

/-- 'cruciblelaw11.ScopePlays': WHATEVER THE INPUT: true; the input reads as it did. -/
def scopePlaysSpec : ChangeSpec := { name := "scopePlays", fn := fun _ => fun
  | [d] => { results := [.lit (.bool true)], args := [d] }
  | _ => none }
def scopePlaysRow : OpenClaim := { program := "ytojmhcmgnndfgaa", sum := "5b30deee7cfb3dd5641a04308772483f3d18d3aec8dfd8381c0920232a83ad0a", func := "crucible/cruciblelaw11.ScopePlays", spec := "scopePlays", apart := false }
def ScopePlaysSaid : Prop := scopePlaysRow.holds Try.pinned (OpenSpec.ofChange scopePlaysSpec)

/-- ITS FALSE NEIGHBOUR: 'it returns false'. Refute it at one input. -/
def scopePlaysWrong : ChangeSpec := { name := "scopePlays", fn := fun _ => fun
  | [d] => { results := [.lit (.bool false)], args := [d] }
  | _ => none }
def ScopePlaysWrongFalsely : Prop := scopePlaysRow.holds Try.pinned (OpenSpec.ofChange scopePlaysWrong)

/-- 'cruciblelaw11.ScopeBlocks': WHATEVER THE INPUT: true; the input reads as it did. -/
def scopeBlocksSpec : ChangeSpec := { name := "scopeBlocks", fn := fun _ => fun
  | [d1, d2] => { results := [.lit (.bool true)], args := [d1, d2] }
  | _ => none }
def scopeBlocksRow : OpenClaim := { program := "ytojmhcmgnndfgaa", sum := "5b30deee7cfb3dd5641a04308772483f3d18d3aec8dfd8381c0920232a83ad0a", func := "crucible/cruciblelaw11.ScopeBlocks", spec := "scopeBlocks", apart := false }
def ScopeBlocksSaid : Prop := scopeBlocksRow.holds Try.pinned (OpenSpec.ofChange scopeBlocksSpec)

/-- ITS FALSE NEIGHBOUR: 'it returns false'. Refute it at one input. -/
def scopeBlocksWrong : ChangeSpec := { name := "scopeBlocks", fn := fun _ => fun
  | [d1, d2] => { results := [.lit (.bool false)], args := [d1, d2] }
  | _ => none }
def ScopeBlocksWrongFalsely : Prop := scopeBlocksRow.holds Try.pinned (OpenSpec.ofChange scopeBlocksWrong)

/-- 'cruciblelaw11.ScopeNobody': WHATEVER THE INPUT: true; the input reads as it did. -/
def scopeNobodySpec : ChangeSpec := { name := "scopeNobody", fn := fun _ => fun
  | [d] => { results := [.lit (.bool true)], args := [d] }
  | _ => none }
def scopeNobodyRow : OpenClaim := { program := "ytojmhcmgnndfgaa", sum := "5b30deee7cfb3dd5641a04308772483f3d18d3aec8dfd8381c0920232a83ad0a", func := "crucible/cruciblelaw11.ScopeNobody", spec := "scopeNobody", apart := false }
def ScopeNobodySaid : Prop := scopeNobodyRow.holds Try.pinned (OpenSpec.ofChange scopeNobodySpec)

/-- ITS FALSE NEIGHBOUR: 'it returns false'. Refute it at one input. -/
def scopeNobodyWrong : ChangeSpec := { name := "scopeNobody", fn := fun _ => fun
  | [d] => { results := [.lit (.bool false)], args := [d] }
  | _ => none }
def ScopeNobodyWrongFalsely : Prop := scopeNobodyRow.holds Try.pinned (OpenSpec.ofChange scopeNobodyWrong)

/- THE SECOND FORM. 'bulk': how many values and letters a reading holds, each counted each time it is reached (what is shared counts as often as it is met; a slice's spare places count too). A statement '..UptoSaid' is the law's where the arguments, and the package variables that the reading takes, are together of bulk at most 1048576: NARROWER than '..Said'. Prove '..Said' where nothing that the law and all that it calls make is longer than what came in: it says more and counts as full. Else prove '..UptoSaid'. A law counts once. -/
mutual
def uptoBulk {H : Type} : DataW H → Nat
  | .lit (.string bytes) => bytes.length + 1
  | .lit _ => 1
  | .nil => 1
  | .ptr d => uptoBulk d + 1
  | .slice elems spare => uptoBulkAll elems + uptoBulkAll spare + 1
  | .agg parts => uptoBulkAll parts + 1
  | .iface _ d => uptoBulk d + 1
  | .map entries => uptoBulkEntries entries + 1
  | .held _ => 1
def uptoBulkAll {H : Type} : List (DataW H) → Nat
  | [] => 0
  | d :: r => uptoBulk d + uptoBulkAll r
def uptoBulkEntries {H : Type} : List (Lit × DataW H) → Nat
  | [] => 0
  | x :: r => uptoBulkEntry x + uptoBulkEntries r
def uptoBulkEntry {H : Type} : Lit × DataW H → Nat
  | (.string bytes, d) => bytes.length + uptoBulk d + 1
  | (_, d) => uptoBulk d + 1
 end
def uptoSmall : (H : Type) → List (DataW H) → Bool := fun _ ds => decide (uptoBulkAll ds ≤ 1048576)
def OpenSpec.upto (s : _root_.Go.ChangeSpec) : _root_.Go.OpenSpec := { _root_.Go.OpenSpec.ofChange s with cond := some uptoSmall }

/-- 'cruciblelaw11.ScopePlays', WHERE WHAT IT READS IS OF BULK AT MOST 1048576: true; the input reads as it did. -/
def scopePlaysUptoRow : OpenClaim := { program := "ytojmhcmgnndfgaa", sum := "5b30deee7cfb3dd5641a04308772483f3d18d3aec8dfd8381c0920232a83ad0a", func := "crucible/cruciblelaw11.ScopePlays", spec := "scopePlays", apart := false, narrowed := true }
def ScopePlaysUptoSaid : Prop := scopePlaysUptoRow.holds Try.pinned (OpenSpec.upto scopePlaysSpec)

/-- 'cruciblelaw11.ScopeBlocks', WHERE WHAT IT READS IS OF BULK AT MOST 1048576: true; the input reads as it did. -/
def scopeBlocksUptoRow : OpenClaim := { program := "ytojmhcmgnndfgaa", sum := "5b30deee7cfb3dd5641a04308772483f3d18d3aec8dfd8381c0920232a83ad0a", func := "crucible/cruciblelaw11.ScopeBlocks", spec := "scopeBlocks", apart := false, narrowed := true }
def ScopeBlocksUptoSaid : Prop := scopeBlocksUptoRow.holds Try.pinned (OpenSpec.upto scopeBlocksSpec)

/-- 'cruciblelaw11.ScopeNobody', WHERE WHAT IT READS IS OF BULK AT MOST 1048576: true; the input reads as it did. -/
def scopeNobodyUptoRow : OpenClaim := { program := "ytojmhcmgnndfgaa", sum := "5b30deee7cfb3dd5641a04308772483f3d18d3aec8dfd8381c0920232a83ad0a", func := "crucible/cruciblelaw11.ScopeNobody", spec := "scopeNobody", apart := false, narrowed := true }
def ScopeNobodyUptoSaid : Prop := scopeNobodyUptoRow.holds Try.pinned (OpenSpec.upto scopeNobodySpec)

end Rows
end Go.Proofs.Ytojmhcmgnndfgaa
