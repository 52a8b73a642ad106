/-
  No cell of these rows narrows 'for every input' (looked for: loops, veiled, ifaces, maps, wideKeys, modest, calm, conditions, laid).
  DERIVED. THE GIVEN ROWS OF THIS SEAT. 4 by the template 'for every input the law returns true; each argument reads behind the call as it read before'; 0 by the template 'total and deterministic' (their statements: YtljbogpfgeiipaaTotals.lean).
  GIVEN WITH THE SEED: the statements are not yours to turn. If you find one false, say at which input.
  Laid BY PROGRAM, IN A SANDBOX (cutbox-rows.mjs): the forced cells as the released guide's own fill.sh prints them over the translation b8766b716b0fc097… (all of the seat's roots in one cut). By AI agents, Wed Nov 11 2026. No macro, syntax, notation, axiom, sorry.
-/
import Derived.Test.YtljbogpfgeiipaaChecked
import GoSem.Claim
import GoSem.ClaimJoined
import GoSem.ClaimMapViews
import Derived.JoinedTies
import Derived.KernelRfl
namespace Go.Proofs.Ytljbogpfgeiipaa
/- THE CELL 'sum', in the pinned program and in every row, IS THE sha256 OF THE DUMP (.gsa) THAT YtljbogpfgeiipaaProg.lean LOADS. Nothing in Lean hashes anything: it is a label: what it is worth is what the hold of that sum in a sandbox is worth. -/
noncomputable def Try.pinned : Pinned := { name := "ytljbogpfgeiipaa", sum := "b8766b716b0fc09763279515385667d49d987491c32432bdd06756d6b79826fb", checked := Try.checked }
namespace Rows
def none {H : Type} : Left H := { results := [], args := [] }

/-- 'tenancylaw11.BuddyExact': WHATEVER THE INPUT: true; the input reads as it did. -/
def buddyExactSpec : ChangeSpec := { name := "buddyExact", fn := fun _ => fun
  | [d1, d2, d3] => { results := [.lit (.bool true)], args := [d1, d2, d3] }
  | _ => none }
def buddyExactRow : OpenClaim := { program := "ytljbogpfgeiipaa", sum := "b8766b716b0fc09763279515385667d49d987491c32432bdd06756d6b79826fb", func := "tenancy/tenancylaw11.BuddyExact", spec := "buddyExact", inPlace := ["math/bits.Add64"], unfollowed := true, recurses := true, apart := false }
def BuddyExactSaid : Prop := buddyExactRow.holds Try.pinned (OpenSpec.ofChange buddyExactSpec)

/-- ITS FALSE NEIGHBOUR: 'it returns false'. Refute it at one input. -/
def buddyExactWrong : ChangeSpec := { name := "buddyExact", fn := fun _ => fun
  | [d1, d2, d3] => { results := [.lit (.bool false)], args := [d1, d2, d3] }
  | _ => none }
def BuddyExactWrongFalsely : Prop := buddyExactRow.holds Try.pinned (OpenSpec.ofChange buddyExactWrong)

/-- 'tenancylaw11.BuddyBack': WHATEVER THE INPUT: true; the input reads as it did. -/
def buddyBackSpec : ChangeSpec := { name := "buddyBack", fn := fun _ => fun
  | [d1, d2, d3] => { results := [.lit (.bool true)], args := [d1, d2, d3] }
  | _ => none }
def buddyBackRow : OpenClaim := { program := "ytljbogpfgeiipaa", sum := "b8766b716b0fc09763279515385667d49d987491c32432bdd06756d6b79826fb", func := "tenancy/tenancylaw11.BuddyBack", spec := "buddyBack", inPlace := ["math/bits.Add64"], unfollowed := true, recurses := true, apart := false }
def BuddyBackSaid : Prop := buddyBackRow.holds Try.pinned (OpenSpec.ofChange buddyBackSpec)

/-- ITS FALSE NEIGHBOUR: 'it returns false'. Refute it at one input. -/
def buddyBackWrong : ChangeSpec := { name := "buddyBack", fn := fun _ => fun
  | [d1, d2, d3] => { results := [.lit (.bool false)], args := [d1, d2, d3] }
  | _ => none }
def BuddyBackWrongFalsely : Prop := buddyBackRow.holds Try.pinned (OpenSpec.ofChange buddyBackWrong)

/-- 'tenancylaw11.BuddyMemory': WHATEVER THE INPUT: true; the input reads as it did. -/
def buddyMemorySpec : ChangeSpec := { name := "buddyMemory", fn := fun _ => fun
  | [d1, d2, d3] => { results := [.lit (.bool true)], args := [d1, d2, d3] }
  | _ => none }
def buddyMemoryRow : OpenClaim := { program := "ytljbogpfgeiipaa", sum := "b8766b716b0fc09763279515385667d49d987491c32432bdd06756d6b79826fb", func := "tenancy/tenancylaw11.BuddyMemory", spec := "buddyMemory", inPlace := ["math/bits.Add64"], unfollowed := true, recurses := true, apart := false }
def BuddyMemorySaid : Prop := buddyMemoryRow.holds Try.pinned (OpenSpec.ofChange buddyMemorySpec)

/-- ITS FALSE NEIGHBOUR: 'it returns false'. Refute it at one input. -/
def buddyMemoryWrong : ChangeSpec := { name := "buddyMemory", fn := fun _ => fun
  | [d1, d2, d3] => { results := [.lit (.bool false)], args := [d1, d2, d3] }
  | _ => none }
def BuddyMemoryWrongFalsely : Prop := buddyMemoryRow.holds Try.pinned (OpenSpec.ofChange buddyMemoryWrong)

/-- 'tenancylaw11.BuddyRow': WHATEVER THE INPUT: true; the input reads as it did. -/
def buddyRowSpec : ChangeSpec := { name := "buddyRow", fn := fun _ => fun
  | [d1, d2] => { results := [.lit (.bool true)], args := [d1, d2] }
  | _ => none }
def buddyRowRow : OpenClaim := { program := "ytljbogpfgeiipaa", sum := "b8766b716b0fc09763279515385667d49d987491c32432bdd06756d6b79826fb", func := "tenancy/tenancylaw11.BuddyRow", spec := "buddyRow", inPlace := ["math/bits.Add64", "math/bits.Sub64"], unfollowed := true, recurses := true, apart := false }
def BuddyRowSaid : Prop := buddyRowRow.holds Try.pinned (OpenSpec.ofChange buddyRowSpec)

/-- ITS FALSE NEIGHBOUR: 'it returns false'. Refute it at one input. -/
def buddyRowWrong : ChangeSpec := { name := "buddyRow", fn := fun _ => fun
  | [d1, d2] => { results := [.lit (.bool false)], args := [d1, d2] }
  | _ => none }
def BuddyRowWrongFalsely : Prop := buddyRowRow.holds Try.pinned (OpenSpec.ofChange buddyRowWrong)

/- THE SECOND FORM. 'bulk': how many values and letters a reading holds, each counted each time it is reached (what is shared counts as often as it is met; a slice's spare places count too). A statement '..UptoSaid' is the law's where the arguments, and the package variables that the reading takes, are together of bulk at most 1048576: NARROWER than '..Said'. Prove '..Said' where nothing that the law and all that it calls make is longer than what came in: it says more and counts as full. Else prove '..UptoSaid'. A law counts once. -/
mutual
def uptoBulk {H : Type} : DataW H → Nat
  | .lit (.string bytes) => bytes.length + 1
  | .lit _ => 1
  | .nil => 1
  | .ptr d => uptoBulk d + 1
  | .slice elems spare => uptoBulkAll elems + uptoBulkAll spare + 1
  | .agg parts => uptoBulkAll parts + 1
  | .iface _ d => uptoBulk d + 1
  | .map entries => uptoBulkEntries entries + 1
  | .held _ => 1
def uptoBulkAll {H : Type} : List (DataW H) → Nat
  | [] => 0
  | d :: r => uptoBulk d + uptoBulkAll r
def uptoBulkEntries {H : Type} : List (Lit × DataW H) → Nat
  | [] => 0
  | x :: r => uptoBulkEntry x + uptoBulkEntries r
def uptoBulkEntry {H : Type} : Lit × DataW H → Nat
  | (.string bytes, d) => bytes.length + uptoBulk d + 1
  | (_, d) => uptoBulk d + 1
 end
def uptoSmall : (H : Type) → List (DataW H) → Bool := fun _ ds => decide (uptoBulkAll ds ≤ 1048576)
def OpenSpec.upto (s : _root_.Go.ChangeSpec) : _root_.Go.OpenSpec := { _root_.Go.OpenSpec.ofChange s with cond := some uptoSmall }

/-- 'tenancylaw11.BuddyExact', WHERE WHAT IT READS IS OF BULK AT MOST 1048576: true; the input reads as it did. -/
def buddyExactUptoRow : OpenClaim := { program := "ytljbogpfgeiipaa", sum := "b8766b716b0fc09763279515385667d49d987491c32432bdd06756d6b79826fb", func := "tenancy/tenancylaw11.BuddyExact", spec := "buddyExact", inPlace := ["math/bits.Add64"], unfollowed := true, recurses := true, apart := false, narrowed := true }
def BuddyExactUptoSaid : Prop := buddyExactUptoRow.holds Try.pinned (OpenSpec.upto buddyExactSpec)

/-- 'tenancylaw11.BuddyBack', WHERE WHAT IT READS IS OF BULK AT MOST 1048576: true; the input reads as it did. -/
def buddyBackUptoRow : OpenClaim := { program := "ytljbogpfgeiipaa", sum := "b8766b716b0fc09763279515385667d49d987491c32432bdd06756d6b79826fb", func := "tenancy/tenancylaw11.BuddyBack", spec := "buddyBack", inPlace := ["math/bits.Add64"], unfollowed := true, recurses := true, apart := false, narrowed := true }
def BuddyBackUptoSaid : Prop := buddyBackUptoRow.holds Try.pinned (OpenSpec.upto buddyBackSpec)

/-- 'tenancylaw11.BuddyMemory', WHERE WHAT IT READS IS OF BULK AT MOST 1048576: true; the input reads as it did. -/
def buddyMemoryUptoRow : OpenClaim := { program := "ytljbogpfgeiipaa", sum := "b8766b716b0fc09763279515385667d49d987491c32432bdd06756d6b79826fb", func := "tenancy/tenancylaw11.BuddyMemory", spec := "buddyMemory", inPlace := ["math/bits.Add64"], unfollowed := true, recurses := true, apart := false, narrowed := true }
def BuddyMemoryUptoSaid : Prop := buddyMemoryUptoRow.holds Try.pinned (OpenSpec.upto buddyMemorySpec)

/-- 'tenancylaw11.BuddyRow', WHERE WHAT IT READS IS OF BULK AT MOST 1048576: true; the input reads as it did. -/
def buddyRowUptoRow : OpenClaim := { program := "ytljbogpfgeiipaa", sum := "b8766b716b0fc09763279515385667d49d987491c32432bdd06756d6b79826fb", func := "tenancy/tenancylaw11.BuddyRow", spec := "buddyRow", inPlace := ["math/bits.Add64", "math/bits.Sub64"], unfollowed := true, recurses := true, apart := false, narrowed := true }
def BuddyRowUptoSaid : Prop := buddyRowUptoRow.holds Try.pinned (OpenSpec.upto buddyRowSpec)

end Rows
end Go.Proofs.Ytljbogpfgeiipaa
