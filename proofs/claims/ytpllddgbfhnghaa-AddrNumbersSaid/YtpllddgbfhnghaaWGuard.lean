-- The print's words, cut down by shake.py, a program of this session, to what this seat's texts name.
import Derived.Test.YtpllddgbfhnghaaWWords
namespace Go.Proofs.YtpllddgbfhnghaaW.PrintWords
open Go.RowKit
section
variable {P : Program} {ops : Array Oper} {rest : List Oper} {o : Oper} {a : Act} {Q : Exit → Act → World → Prop} {W : World}
end
end Go.Proofs.YtpllddgbfhnghaaW.PrintWords
