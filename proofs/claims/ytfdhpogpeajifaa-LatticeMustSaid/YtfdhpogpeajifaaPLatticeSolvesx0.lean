-- PRINTED BY print.sh 35421559b90ae4d0a3588c463048766b98c2df88dd9212a6774a882060cdf62d: not written by this session
import Derived.Test.YtfdhpogpeajifaaProg
import Derived.Below
import Derived.Deep.Draws
import Derived.Deep.AppendLies
import Derived.Maps.AppendAt
import Derived.OwnWalk
import Derived.Laws.BytesArg
import Derived.Laws.MakeOwn
import Derived.Laws.OwnMore
import Derived.Deep.OwnRows
import Derived.Tactics
import Derived.Lib.ConvBytes
import Derived.Laws.Slices
import Derived.WalkKit
import Derived.KernelRfl
import Derived.RowKit3
import Derived.Deep.LoopGhost
import Derived.Deep.QuietTactic
import Derived.BigQuiet
import Derived.WideLaws
import Derived.Deep.DeepCutAuto
import Derived.Deep.CutBlock
import Derived.Deep.RegionHeld3
import Derived.Laws.Rows
import Derived.Lib.AppendStr
import Derived.ArgAppend
import Derived.Laws.IdiomCopy
import Derived.OrdersHeld
import Derived.Laws.BitsLemmas
import Derived.RowKit
import Derived.Test.YtfdhpogpeajifaaWWords
import Derived.Test.YtfdhpogpeajifaaWLast
import Derived.Test.YtfdhpogpeajifaaWTab
import Derived.Test.YtfdhpogpeajifaaWFour
import Derived.Test.YtfdhpogpeajifaaWQPut
import Derived.Test.YtfdhpogpeajifaaWApart
import Derived.Test.YtfdhpogpeajifaaWArr
import Derived.Test.YtfdhpogpeajifaaWZeros
import Derived.Test.YtfdhpogpeajifaaWFoot
import Derived.Test.YtfdhpogpeajifaaWKept
import Derived.Test.YtfdhpogpeajifaaWShare
import Derived.Test.YtfdhpogpeajifaaWN
import Derived.Test.YtfdhpogpeajifaaWFootNe
import Derived.Test.YtfdhpogpeajifaaWAt
import Derived.Test.YtfdhpogpeajifaaWEqStruct
import Derived.Test.YtfdhpogpeajifaaWRepsOne
import Derived.Test.YtfdhpogpeajifaaWInv
import Derived.Test.YtfdhpogpeajifaaWInvWords
import Derived.Test.YtfdhpogpeajifaaWGuard
import Derived.Test.YtfdhpogpeajifaaWNEv
import Derived.Test.YtfdhpogpeajifaaWMore
namespace Go.Proofs.Ytfdhpogpeajifaa.PLatticeSolves
open Go.RowKit Go.Proofs.YtfdhpogpeajifaaW.PrintWords Go.Proofs.YtfdhpogpeajifaaW.PrintLast Go.Proofs.YtfdhpogpeajifaaW.PrintMore
attribute [local go_sem] max2_int min2_int max_two min_two max_three min_three max_four min_four   -- for this text's walks alone
set_option linter.unusedVariables false
set_option linter.unusedSimpArgs false



def errW : Option Int → Value
  | none => .nilIface
  | some c => .iface 0 (.int .i64 c)
theorem errW_none : errW none = .nilIface := rfl
theorem errW_some (c : Int) : errW (some c) = .iface 0 (.int .i64 c) := rfl

theorem info29 : (Try.prog.info? 29).map (fun i => (i.zero, i.size, i.bytes)) = some (some (.int .u64 0), 1, 8) := by kernel_rfl
-- the values' own types

end Go.Proofs.Ytfdhpogpeajifaa.PLatticeSolves
