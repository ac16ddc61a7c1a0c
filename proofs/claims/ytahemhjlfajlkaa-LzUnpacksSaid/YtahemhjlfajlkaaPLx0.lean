-- Printed by this work's own program (wip/mprint) out of the translation; Lean checks it.
import Derived.Test.YtahemhjlfajlkaaProg
import Derived.Below
import Derived.Deep.Draws
import Derived.Deep.AppendLies
import Derived.Maps.AppendAt
import Derived.OwnWalk
import Derived.Laws.BytesArg
import Derived.Laws.MakeOwn
import Derived.Laws.OwnMore
import Derived.Deep.OwnRows
import Derived.Tactics
import Derived.Lib.ConvBytes
import Derived.Laws.Slices
import Derived.WalkKit
import Derived.KernelRfl
import Derived.RowKit3
import Derived.Deep.LoopGhost
import Derived.Deep.QuietTactic
import Derived.BigQuiet
import Derived.WideLaws
import Derived.Deep.DeepCutAuto
import Derived.Deep.CutBlock
import Derived.Deep.RegionHeld3
import Derived.Laws.Rows
import Derived.Lib.AppendStr
import Derived.ArgAppend
import Derived.Laws.IdiomCopy
import Derived.OrdersHeld
import Derived.Laws.BitsLemmas
import Derived.RowKit
import Derived.Test.YtahemhjlfajlkaaWWords
import Derived.Test.YtahemhjlfajlkaaWLast
import Derived.Test.YtahemhjlfajlkaaWTab
import Derived.Test.YtahemhjlfajlkaaWFour
import Derived.Test.YtahemhjlfajlkaaWQPut
import Derived.Test.YtahemhjlfajlkaaWApart
import Derived.Test.YtahemhjlfajlkaaWArr
import Derived.Test.YtahemhjlfajlkaaWZeros
import Derived.Test.YtahemhjlfajlkaaWFoot
import Derived.Test.YtahemhjlfajlkaaWKept
import Derived.Test.YtahemhjlfajlkaaWShare
import Derived.Test.YtahemhjlfajlkaaWN
import Derived.Test.YtahemhjlfajlkaaWFootNe
import Derived.Test.YtahemhjlfajlkaaWAt
import Derived.Test.YtahemhjlfajlkaaWEqStruct
import Derived.Test.YtahemhjlfajlkaaWRepsOne
import Derived.Test.YtahemhjlfajlkaaWInv
import Derived.Test.YtahemhjlfajlkaaWInvWords
import Derived.Test.YtahemhjlfajlkaaWGuard
import Derived.Test.YtahemhjlfajlkaaWNEv
import Derived.Test.YtahemhjlfajlkaaWMore
namespace Go.Proofs.Ytahemhjlfajlkaa.PL
open Go.RowKit Go.Proofs.YtahemhjlfajlkaaW.PrintWords Go.Proofs.YtahemhjlfajlkaaW.PrintLast Go.Proofs.YtahemhjlfajlkaaW.PrintMore
attribute [local go_sem] max2_int min2_int max_two min_two max_three min_three max_four min_four   -- for this text's walks alone
set_option linter.unusedVariables false
set_option linter.unusedSimpArgs false



def errW : Option Int → Value
  | none => .nilIface
  | some c => .iface 0 (.int .i64 c)
theorem errW_none : errW none = .nilIface := rfl
theorem errW_some (c : Int) : errW (some c) = .iface 0 (.int .i64 c) := rfl

theorem info5 : (Try.prog.info? 5).map (fun i => (i.zero, i.size, i.bytes)) = some (some (.int .u8 0), 1, 1) := by kernel_rfl
-- the values' own types

end Go.Proofs.Ytahemhjlfajlkaa.PL
