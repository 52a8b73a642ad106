-- The print's words, cut down by shake.py, a program of this session, to what this seat's texts name.
import Derived.Test.YtpllddgbfhnghaaWTab
namespace Go.Proofs.YtpllddgbfhnghaaW.PrintLast
section
variable {P : Program} {ops : Array Oper} {Q : Exit → Act → World → Prop} {md : Region.Mode} {T : Bool × List (List Nat × List Nat)} {B : List Nat} {O : List Nat} {b : Nat → Bool} {i j n : Nat}
end
end Go.Proofs.YtpllddgbfhnghaaW.PrintLast
