/-
  No cell of these rows narrows 'for every input' (looked for: loops, veiled, ifaces, maps, wideKeys, modest, calm, conditions, laid).
  DERIVED. THE GIVEN ROWS OF THIS SEAT. 6 by the template 'for every input the law returns true; each argument reads behind the call as it read before'; 0 by the template 'total and deterministic' (their statements: YtbhkfdjofopfkaaTotals.lean).
  GIVEN WITH THE SEED: the statements are not yours to turn. If you find one false, say at which input.
  Laid BY PROGRAM, IN A SANDBOX (cutbox-rows.mjs): the forced cells as the released guide's own fill.sh prints them over the translation 0c518ba8857c5122… (all of the seat's roots in one cut). By AI agents, Wed Nov 11 2026. No macro, syntax, notation, axiom, sorry.
-/
import Derived.Test.YtbhkfdjofopfkaaChecked
import GoSem.Claim
import GoSem.ClaimJoined
import GoSem.ClaimMapViews
import Derived.JoinedTies
import Derived.KernelRfl
namespace Go.Proofs.Ytbhkfdjofopfkaa
/- THE CELL 'sum', in the pinned program and in every row, IS THE sha256 OF THE DUMP (.gsa) THAT YtbhkfdjofopfkaaProg.lean LOADS. Nothing in Lean hashes anything: it is a label: what it is worth is what the hold of that sum in a sandbox is worth. -/
noncomputable def Try.pinned : Pinned := { name := "ytbhkfdjofopfkaa", sum := "0c518ba8857c512297125d3508d78706c0b7417aaec9e77b201825dfd1366cee", checked := Try.checked }
namespace Rows
def none {H : Type} : Left H := { results := [], args := [] }

/-- 'cruciblelaw04.MachineRuns': WHATEVER THE INPUT: true; the input reads as it did. -/
def machineRunsSpec : ChangeSpec := { name := "machineRuns", fn := fun _ => fun
  | [d1, d2, d3] => { results := [.lit (.bool true)], args := [d1, d2, d3] }
  | _ => none }
def machineRunsRow : OpenClaim := { program := "ytbhkfdjofopfkaa", sum := "0c518ba8857c512297125d3508d78706c0b7417aaec9e77b201825dfd1366cee", func := "crucible/cruciblelaw04.MachineRuns", spec := "machineRuns", apart := false }
def MachineRunsSaid : Prop := machineRunsRow.holds Try.pinned (OpenSpec.ofChange machineRunsSpec)

/-- ITS FALSE NEIGHBOUR: 'it returns false'. Refute it at one input. -/
def machineRunsWrong : ChangeSpec := { name := "machineRuns", fn := fun _ => fun
  | [d1, d2, d3] => { results := [.lit (.bool false)], args := [d1, d2, d3] }
  | _ => none }
def MachineRunsWrongFalsely : Prop := machineRunsRow.holds Try.pinned (OpenSpec.ofChange machineRunsWrong)

/-- 'cruciblelaw04.MachineInputs': WHATEVER THE INPUT: true; the input reads as it did. -/
def machineInputsSpec : ChangeSpec := { name := "machineInputs", fn := fun _ => fun
  | [d1, d2, d3] => { results := [.lit (.bool true)], args := [d1, d2, d3] }
  | _ => none }
def machineInputsRow : OpenClaim := { program := "ytbhkfdjofopfkaa", sum := "0c518ba8857c512297125d3508d78706c0b7417aaec9e77b201825dfd1366cee", func := "crucible/cruciblelaw04.MachineInputs", spec := "machineInputs", apart := false }
def MachineInputsSaid : Prop := machineInputsRow.holds Try.pinned (OpenSpec.ofChange machineInputsSpec)

/-- ITS FALSE NEIGHBOUR: 'it returns false'. Refute it at one input. -/
def machineInputsWrong : ChangeSpec := { name := "machineInputs", fn := fun _ => fun
  | [d1, d2, d3] => { results := [.lit (.bool false)], args := [d1, d2, d3] }
  | _ => none }
def MachineInputsWrongFalsely : Prop := machineInputsRow.holds Try.pinned (OpenSpec.ofChange machineInputsWrong)

/-- 'cruciblelaw04.MachineMore': WHATEVER THE INPUT: true; the input reads as it did. -/
def machineMoreSpec : ChangeSpec := { name := "machineMore", fn := fun _ => fun
  | [d1, d2, d3] => { results := [.lit (.bool true)], args := [d1, d2, d3] }
  | _ => none }
def machineMoreRow : OpenClaim := { program := "ytbhkfdjofopfkaa", sum := "0c518ba8857c512297125d3508d78706c0b7417aaec9e77b201825dfd1366cee", func := "crucible/cruciblelaw04.MachineMore", spec := "machineMore", apart := false }
def MachineMoreSaid : Prop := machineMoreRow.holds Try.pinned (OpenSpec.ofChange machineMoreSpec)

/-- ITS FALSE NEIGHBOUR: 'it returns false'. Refute it at one input. -/
def machineMoreWrong : ChangeSpec := { name := "machineMore", fn := fun _ => fun
  | [d1, d2, d3] => { results := [.lit (.bool false)], args := [d1, d2, d3] }
  | _ => none }
def MachineMoreWrongFalsely : Prop := machineMoreRow.holds Try.pinned (OpenSpec.ofChange machineMoreWrong)

/-- 'cruciblelaw04.MachineZero': WHATEVER THE INPUT: true; the input reads as it did. -/
def machineZeroSpec : ChangeSpec := { name := "machineZero", fn := fun _ => fun
  | [d1, d2] => { results := [.lit (.bool true)], args := [d1, d2] }
  | _ => none }
def machineZeroRow : OpenClaim := { program := "ytbhkfdjofopfkaa", sum := "0c518ba8857c512297125d3508d78706c0b7417aaec9e77b201825dfd1366cee", func := "crucible/cruciblelaw04.MachineZero", spec := "machineZero", apart := false }
def MachineZeroSaid : Prop := machineZeroRow.holds Try.pinned (OpenSpec.ofChange machineZeroSpec)

/-- ITS FALSE NEIGHBOUR: 'it returns false'. Refute it at one input. -/
def machineZeroWrong : ChangeSpec := { name := "machineZero", fn := fun _ => fun
  | [d1, d2] => { results := [.lit (.bool false)], args := [d1, d2] }
  | _ => none }
def MachineZeroWrongFalsely : Prop := machineZeroRow.holds Try.pinned (OpenSpec.ofChange machineZeroWrong)

/-- 'cruciblelaw04.MachineNobody': WHATEVER THE INPUT: true; the input reads as it did. -/
def machineNobodySpec : ChangeSpec := { name := "machineNobody", fn := fun _ => fun
  | [d] => { results := [.lit (.bool true)], args := [d] }
  | _ => none }
def machineNobodyRow : OpenClaim := { program := "ytbhkfdjofopfkaa", sum := "0c518ba8857c512297125d3508d78706c0b7417aaec9e77b201825dfd1366cee", func := "crucible/cruciblelaw04.MachineNobody", spec := "machineNobody", apart := false }
def MachineNobodySaid : Prop := machineNobodyRow.holds Try.pinned (OpenSpec.ofChange machineNobodySpec)

/-- ITS FALSE NEIGHBOUR: 'it returns false'. Refute it at one input. -/
def machineNobodyWrong : ChangeSpec := { name := "machineNobody", fn := fun _ => fun
  | [d] => { results := [.lit (.bool false)], args := [d] }
  | _ => none }
def MachineNobodyWrongFalsely : Prop := machineNobodyRow.holds Try.pinned (OpenSpec.ofChange machineNobodyWrong)

/-- 'cruciblelaw04.MachineSteps': WHATEVER THE INPUT: true; the input reads as it did. -/
def machineStepsSpec : ChangeSpec := { name := "machineSteps", fn := fun _ => fun
  | [d1, d2, d3] => { results := [.lit (.bool true)], args := [d1, d2, d3] }
  | _ => none }
def machineStepsRow : OpenClaim := { program := "ytbhkfdjofopfkaa", sum := "0c518ba8857c512297125d3508d78706c0b7417aaec9e77b201825dfd1366cee", func := "crucible/cruciblelaw04.MachineSteps", spec := "machineSteps", apart := false }
def MachineStepsSaid : Prop := machineStepsRow.holds Try.pinned (OpenSpec.ofChange machineStepsSpec)

/-- ITS FALSE NEIGHBOUR: 'it returns false'. Refute it at one input. -/
def machineStepsWrong : ChangeSpec := { name := "machineSteps", fn := fun _ => fun
  | [d1, d2, d3] => { results := [.lit (.bool false)], args := [d1, d2, d3] }
  | _ => none }
def MachineStepsWrongFalsely : Prop := machineStepsRow.holds Try.pinned (OpenSpec.ofChange machineStepsWrong)

/- THE SECOND FORM. 'bulk': how many values and letters a reading holds, each counted each time it is reached (what is shared counts as often as it is met; a slice's spare places count too). A statement '..UptoSaid' is the law's where the arguments, and the package variables that the reading takes, are together of bulk at most 1048576: NARROWER than '..Said'. Prove '..Said' where nothing that the law and all that it calls make is longer than what came in: it says more and counts as full. Else prove '..UptoSaid'. A law counts once. -/
mutual
def uptoBulk {H : Type} : DataW H → Nat
  | .lit (.string bytes) => bytes.length + 1
  | .lit _ => 1
  | .nil => 1
  | .ptr d => uptoBulk d + 1
  | .slice elems spare => uptoBulkAll elems + uptoBulkAll spare + 1
  | .agg parts => uptoBulkAll parts + 1
  | .iface _ d => uptoBulk d + 1
  | .map entries => uptoBulkEntries entries + 1
  | .held _ => 1
def uptoBulkAll {H : Type} : List (DataW H) → Nat
  | [] => 0
  | d :: r => uptoBulk d + uptoBulkAll r
def uptoBulkEntries {H : Type} : List (Lit × DataW H) → Nat
  | [] => 0
  | x :: r => uptoBulkEntry x + uptoBulkEntries r
def uptoBulkEntry {H : Type} : Lit × DataW H → Nat
  | (.string bytes, d) => bytes.length + uptoBulk d + 1
  | (_, d) => uptoBulk d + 1
 end
def uptoSmall : (H : Type) → List (DataW H) → Bool := fun _ ds => decide (uptoBulkAll ds ≤ 1048576)
def OpenSpec.upto (s : _root_.Go.ChangeSpec) : _root_.Go.OpenSpec := { _root_.Go.OpenSpec.ofChange s with cond := some uptoSmall }

/-- 'cruciblelaw04.MachineRuns', WHERE WHAT IT READS IS OF BULK AT MOST 1048576: true; the input reads as it did. -/
def machineRunsUptoRow : OpenClaim := { program := "ytbhkfdjofopfkaa", sum := "0c518ba8857c512297125d3508d78706c0b7417aaec9e77b201825dfd1366cee", func := "crucible/cruciblelaw04.MachineRuns", spec := "machineRuns", apart := false, narrowed := true }
def MachineRunsUptoSaid : Prop := machineRunsUptoRow.holds Try.pinned (OpenSpec.upto machineRunsSpec)

/-- 'cruciblelaw04.MachineInputs', WHERE WHAT IT READS IS OF BULK AT MOST 1048576: true; the input reads as it did. -/
def machineInputsUptoRow : OpenClaim := { program := "ytbhkfdjofopfkaa", sum := "0c518ba8857c512297125d3508d78706c0b7417aaec9e77b201825dfd1366cee", func := "crucible/cruciblelaw04.MachineInputs", spec := "machineInputs", apart := false, narrowed := true }
def MachineInputsUptoSaid : Prop := machineInputsUptoRow.holds Try.pinned (OpenSpec.upto machineInputsSpec)

/-- 'cruciblelaw04.MachineMore', WHERE WHAT IT READS IS OF BULK AT MOST 1048576: true; the input reads as it did. -/
def machineMoreUptoRow : OpenClaim := { program := "ytbhkfdjofopfkaa", sum := "0c518ba8857c512297125d3508d78706c0b7417aaec9e77b201825dfd1366cee", func := "crucible/cruciblelaw04.MachineMore", spec := "machineMore", apart := false, narrowed := true }
def MachineMoreUptoSaid : Prop := machineMoreUptoRow.holds Try.pinned (OpenSpec.upto machineMoreSpec)

/-- 'cruciblelaw04.MachineZero', WHERE WHAT IT READS IS OF BULK AT MOST 1048576: true; the input reads as it did. -/
def machineZeroUptoRow : OpenClaim := { program := "ytbhkfdjofopfkaa", sum := "0c518ba8857c512297125d3508d78706c0b7417aaec9e77b201825dfd1366cee", func := "crucible/cruciblelaw04.MachineZero", spec := "machineZero", apart := false, narrowed := true }
def MachineZeroUptoSaid : Prop := machineZeroUptoRow.holds Try.pinned (OpenSpec.upto machineZeroSpec)

/-- 'cruciblelaw04.MachineNobody', WHERE WHAT IT READS IS OF BULK AT MOST 1048576: true; the input reads as it did. -/
def machineNobodyUptoRow : OpenClaim := { program := "ytbhkfdjofopfkaa", sum := "0c518ba8857c512297125d3508d78706c0b7417aaec9e77b201825dfd1366cee", func := "crucible/cruciblelaw04.MachineNobody", spec := "machineNobody", apart := false, narrowed := true }
def MachineNobodyUptoSaid : Prop := machineNobodyUptoRow.holds Try.pinned (OpenSpec.upto machineNobodySpec)

/-- 'cruciblelaw04.MachineSteps', WHERE WHAT IT READS IS OF BULK AT MOST 1048576: true; the input reads as it did. -/
def machineStepsUptoRow : OpenClaim := { program := "ytbhkfdjofopfkaa", sum := "0c518ba8857c512297125d3508d78706c0b7417aaec9e77b201825dfd1366cee", func := "crucible/cruciblelaw04.MachineSteps", spec := "machineSteps", apart := false, narrowed := true }
def MachineStepsUptoSaid : Prop := machineStepsUptoRow.holds Try.pinned (OpenSpec.upto machineStepsSpec)

end Rows
end Go.Proofs.Ytbhkfdjofopfkaa
