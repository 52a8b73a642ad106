-- The print's words, cut down by shake.py, a program of this session, to what this seat's texts name.
import Derived.Test.YtpllddgbfhnghaaWTab
namespace Go.Proofs.YtpllddgbfhnghaaW.PrintLast
section
variable {P : Program} {ops : Array Oper} {Q : Exit → Act → World → Prop} {md : Region.Mode} {S : World → Prop} {ds : List Nat} {T : Bool × List (List Nat × List Nat)}
end
end Go.Proofs.YtpllddgbfhnghaaW.PrintLast
