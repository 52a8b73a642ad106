import Derived.Test.YtkainejbilbjfaaCOpen
import Derived.Test.YtkainejbilbjfaaPoolB
/-! The arguments' types: whole numbers. -/
namespace Go.Ev
open Go.ChangeShapes Go.WideShapes Go.ChangeAt Go.RowKit Go.Proofs
set_option maxRecDepth 100000
set_option linter.unusedVariables false
set_option linter.unusedSimpArgs false

section
variable {Hh : Type} {enc : TypeId × Value → Hh} {w : World} {base : Nat} {spare : Nat → Bool} {held : Bool} {fuel : Nat} {cs : List Value} {x : DataW Hh × List MemPlace}
theorem u64_of (y : Int) (h : (Lit.int .u64 y).wf = true) : ∃ n : Nat, n < 18446744073709551616 ∧ y = n := by
  have h1 : 0 ≤ y ∧ y ≤ 18446744073709551615 := by simpa [Lit.wf, IntKind.min, IntKind.max, IntKind.signed, IntKind.bits] using h
  exact ⟨y.toNat, by omega, by omega⟩
theorem trod_U (h : DataW.trod enc Try.prog w base spare held fuel 24 cs = some x) : ∃ q : Nat, q < 18446744073709551616 ∧ ∀ m, VRs m (cU q) cs := by
  obtain ⟨y, rfl, _, u⟩ := DataW.trod_int Try.underlying24 h
  obtain ⟨q, hq, rfl⟩ := u64_of y u
  exact ⟨q, hq, fun m => ⟨_, _, rfl, rfl, rfl⟩⟩
theorem arg_U {v : Value} {d : DataW Hh} {p : List MemPlace} {b0 : Nat} {r : Reach} (hv : Value.okWide Try.prog w r b0 24 v) (h : DataW.Trod enc Try.prog w base spare held 24 v d p) : ∃ q : Nat, q < 18446744073709551616 ∧ ∀ m, VR m (.int .u64 q) v := by
  obtain ⟨y, rfl, _, _, u⟩ := open_int Try.underlying24 hv h
  obtain ⟨q, hq, rfl⟩ := u64_of y u
  exact ⟨q, hq, fun m => rfl⟩
end
end Go.Ev
