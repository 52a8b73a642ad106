-- The print's words, cut down by shake.py, a program of this session, to what this seat's texts name.
import Derived.Test.YtpllddgbfhnghaaWN
namespace Go.Proofs.YtpllddgbfhnghaaW.PrintWords
open Go.RowKit
namespace Kd
section
variable {α : Type} {d : Kd α} {W : World} {g n : Nat} {S ok : Nat → Prop} {A : Option Addr} {ad : Addr} {xs : List α}
end
end Kd
end Go.Proofs.YtpllddgbfhnghaaW.PrintWords
