-- Printed by this work's own program (wip/mprint) out of the translation; Lean checks it.
import Derived.Test.YtdikkpmhepldgaaProg
import Derived.Below
import Derived.Deep.Draws
import Derived.Deep.AppendLies
import Derived.Maps.AppendAt
import Derived.OwnWalk
import Derived.Laws.BytesArg
import Derived.Laws.MakeOwn
import Derived.Laws.OwnMore
import Derived.Deep.OwnRows
import Derived.Tactics
import Derived.Lib.ConvBytes
import Derived.Laws.Slices
import Derived.WalkKit
import Derived.KernelRfl
import Derived.RowKit3
import Derived.Deep.LoopGhost
import Derived.Deep.QuietTactic
import Derived.BigQuiet
import Derived.WideLaws
import Derived.Deep.DeepCutAuto
import Derived.Deep.CutBlock
import Derived.Deep.RegionHeld3
import Derived.Laws.Rows
import Derived.Lib.AppendStr
import Derived.ArgAppend
import Derived.Laws.IdiomCopy
import Derived.OrdersHeld
import Derived.Laws.BitsLemmas
import Derived.RowKit
import Derived.Test.YtdikkpmhepldgaaWWords
import Derived.Test.YtdikkpmhepldgaaWLast
import Derived.Test.YtdikkpmhepldgaaWTab
import Derived.Test.YtdikkpmhepldgaaWFour
import Derived.Test.YtdikkpmhepldgaaWQPut
import Derived.Test.YtdikkpmhepldgaaWApart
import Derived.Test.YtdikkpmhepldgaaWArr
import Derived.Test.YtdikkpmhepldgaaWZeros
import Derived.Test.YtdikkpmhepldgaaWFoot
import Derived.Test.YtdikkpmhepldgaaWKept
import Derived.Test.YtdikkpmhepldgaaWShare
import Derived.Test.YtdikkpmhepldgaaWN
import Derived.Test.YtdikkpmhepldgaaWFootNe
import Derived.Test.YtdikkpmhepldgaaWAt
import Derived.Test.YtdikkpmhepldgaaWEqStruct
import Derived.Test.YtdikkpmhepldgaaWRepsOne
import Derived.Test.YtdikkpmhepldgaaWInv
import Derived.Test.YtdikkpmhepldgaaWInvWords
import Derived.Test.YtdikkpmhepldgaaWGuard
import Derived.Test.YtdikkpmhepldgaaWNEv
import Derived.Test.YtdikkpmhepldgaaWMore
namespace Go.Proofs.Ytdikkpmhepldgaa.PCrcTurned
open Go.RowKit Go.Proofs.YtdikkpmhepldgaaW.PrintWords Go.Proofs.YtdikkpmhepldgaaW.PrintLast Go.Proofs.YtdikkpmhepldgaaW.PrintMore
attribute [local go_sem] max2_int min2_int max_two min_two max_three min_three max_four min_four   -- for this text's walks alone
set_option linter.unusedVariables false
set_option linter.unusedSimpArgs false



def errW : Option Int → Value
  | none => .nilIface
  | some c => .iface 0 (.int .i64 c)
theorem errW_none : errW none = .nilIface := rfl
theorem errW_some (c : Int) : errW (some c) = .iface 0 (.int .i64 c) := rfl

theorem info5 : (Try.prog.info? 5).map (fun i => (i.zero, i.size, i.bytes)) = some (some (.int .u8 0), 1, 1) := by kernel_rfl
-- the values' own types

end Go.Proofs.Ytdikkpmhepldgaa.PCrcTurned
