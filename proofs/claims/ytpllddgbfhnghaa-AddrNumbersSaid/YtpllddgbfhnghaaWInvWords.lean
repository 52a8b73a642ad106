-- The print's words, cut down by shake.py, a program of this session, to what this seat's texts name.
import Derived.Test.YtpllddgbfhnghaaWInv
import Derived.Test.YtpllddgbfhnghaaWFootNe
namespace Go.Proofs.YtpllddgbfhnghaaW.PrintWords
open Go.RowKit
end Go.Proofs.YtpllddgbfhnghaaW.PrintWords
namespace Go.Proofs.YtpllddgbfhnghaaW.PrintLast
section
variable {ops : Array Oper} {a : Act} {o og : Oper} {g : Nat} {t : Tmp} {u : Bool}
end
end Go.Proofs.YtpllddgbfhnghaaW.PrintLast
