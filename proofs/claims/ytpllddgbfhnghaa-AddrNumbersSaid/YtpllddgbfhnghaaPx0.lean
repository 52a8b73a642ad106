-- Written by pp.py, a program of this session, out of the translation.
import Derived.Test.YtpllddgbfhnghaaProg
import Derived.Below
import Derived.Deep.Draws
import Derived.Deep.AppendLies
import Derived.Maps.AppendAt
import Derived.OwnWalk
import Derived.Laws.BytesArg
import Derived.Laws.MakeOwn
import Derived.Laws.OwnMore
import Derived.Deep.OwnRows
import Derived.Tactics
import Derived.Lib.ConvBytes
import Derived.Laws.Slices
import Derived.WalkKit
import Derived.KernelRfl
import Derived.RowKit3
import Derived.Deep.LoopGhost
import Derived.Deep.QuietTactic
import Derived.BigQuiet
import Derived.WideLaws
import Derived.Deep.DeepCutAuto
import Derived.Deep.CutBlock
import Derived.Deep.RegionHeld3
import Derived.Laws.Rows
import Derived.Lib.AppendStr
import Derived.ArgAppend
import Derived.Laws.IdiomCopy
import Derived.OrdersHeld
import Derived.Laws.BitsLemmas
import Derived.RowKit
import Derived.Laws.Externs
import Derived.Shelf.Spec.BitsCarry
import Derived.Test.YtpllddgbfhnghaaShelf
import Derived.Test.YtpllddgbfhnghaaWWords
import Derived.Test.YtpllddgbfhnghaaWLast
import Derived.Test.YtpllddgbfhnghaaWTab
import Derived.Test.YtpllddgbfhnghaaWFour
import Derived.Test.YtpllddgbfhnghaaWQPut
import Derived.Test.YtpllddgbfhnghaaWApart
import Derived.Test.YtpllddgbfhnghaaWArr
import Derived.Test.YtpllddgbfhnghaaWZeros
import Derived.Test.YtpllddgbfhnghaaWFoot
import Derived.Test.YtpllddgbfhnghaaWKept
import Derived.Test.YtpllddgbfhnghaaWShare
import Derived.Test.YtpllddgbfhnghaaWN
import Derived.Test.YtpllddgbfhnghaaWFootNe
import Derived.Test.YtpllddgbfhnghaaWAt
import Derived.Test.YtpllddgbfhnghaaWEqStruct
import Derived.Test.YtpllddgbfhnghaaWRepsOne
import Derived.Test.YtpllddgbfhnghaaWInv
import Derived.Test.YtpllddgbfhnghaaWInvWords
import Derived.Test.YtpllddgbfhnghaaWGuard
import Derived.Test.YtpllddgbfhnghaaWNEv
import Derived.Test.YtpllddgbfhnghaaWMore
namespace Go.Proofs.Ytpllddgbfhnghaa.P
open Go.RowKit Go.Proofs.YtpllddgbfhnghaaW.PrintWords Go.Proofs.YtpllddgbfhnghaaW.PrintLast Go.Proofs.YtpllddgbfhnghaaW.PrintMore
attribute [local go_sem] max2_int min2_int max_two min_two max_three min_three max_four min_four   -- for this text's walks alone
set_option linter.unusedVariables false
set_option linter.unusedSimpArgs false



def errW : Option Int → Value
  | none => .nilIface
  | some c => .iface 0 (.int .i64 c)
theorem errW_none : errW none = .nilIface := rfl
theorem errW_some (c : Int) : errW (some c) = .iface 0 (.int .i64 c) := rfl

theorem info3 : (Try.prog.info? 3).map (fun i => (i.zero, i.size, i.bytes)) = some (some (.int .i64 0), 1, 8) := by kernel_rfl
-- the values' own types

end Go.Proofs.Ytpllddgbfhnghaa.P
