import Derived.Test.YtkainejbilbjfaaCRefC
/-! The reference's Rank. -/
namespace Go.Ev
set_option linter.unusedVariables false
set_option linter.unusedSimpArgs false
open Go.Ev.Sp

end Go.Ev
