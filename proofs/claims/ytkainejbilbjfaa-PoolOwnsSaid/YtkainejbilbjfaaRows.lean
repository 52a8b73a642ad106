/-
  No cell of these rows narrows 'for every input' (looked for: loops, veiled, ifaces, maps, wideKeys, modest, calm, conditions, laid).
  DERIVED. THE GIVEN ROWS OF THIS SEAT. 5 by the template 'for every input the law returns true; each argument reads behind the call as it read before'; 0 by the template 'total and deterministic' (their statements: YtkainejbilbjfaaTotals.lean).
  GIVEN WITH THE SEED: the statements are not yours to turn. If you find one false, say at which input.
  Laid BY PROGRAM, IN A SANDBOX (cutbox-rows.mjs): the forced cells as the released guide's own fill.sh prints them over the translation 9cdccdfeaca496c0… (all of the seat's roots in one cut). By AI agents, Wed Nov 11 2026. No macro, syntax, notation, axiom, sorry.
-/
import Derived.Test.YtkainejbilbjfaaChecked
import GoSem.Claim
import GoSem.ClaimJoined
import GoSem.ClaimMapViews
import Derived.JoinedTies
import Derived.KernelRfl
namespace Go.Proofs.Ytkainejbilbjfaa
/- THE CELL 'sum', in the pinned program and in every row, IS THE sha256 OF THE DUMP (.gsa) THAT YtkainejbilbjfaaProg.lean LOADS. Nothing in Lean hashes anything: it is a label: what it is worth is what the hold of that sum in a sandbox is worth. -/
noncomputable def Try.pinned : Pinned := { name := "ytkainejbilbjfaa", sum := "9cdccdfeaca496c0e8ccd75dde296e7970e55df328774d2def9f69e890430127", checked := Try.checked }
namespace Rows
def none {H : Type} : Left H := { results := [], args := [] }

/-- 'tenancylaw12.PoolExact': WHATEVER THE INPUT: true; the input reads as it did. -/
def poolExactSpec : ChangeSpec := { name := "poolExact", fn := fun _ => fun
  | [d1, d2, d3] => { results := [.lit (.bool true)], args := [d1, d2, d3] }
  | _ => none }
def poolExactRow : OpenClaim := { program := "ytkainejbilbjfaa", sum := "9cdccdfeaca496c0e8ccd75dde296e7970e55df328774d2def9f69e890430127", func := "tenancy/tenancylaw12.PoolExact", spec := "poolExact", inPlace := ["math/bits.Add64", "math/bits.Sub64"], unfollowed := true, recurses := true, named := ["math/bits.divideError", "math/bits.overflowError"], apart := false }
def PoolExactSaid : Prop := poolExactRow.holds Try.pinned (OpenSpec.ofChange poolExactSpec)

/-- ITS FALSE NEIGHBOUR: 'it returns false'. Refute it at one input. -/
def poolExactWrong : ChangeSpec := { name := "poolExact", fn := fun _ => fun
  | [d1, d2, d3] => { results := [.lit (.bool false)], args := [d1, d2, d3] }
  | _ => none }
def PoolExactWrongFalsely : Prop := poolExactRow.holds Try.pinned (OpenSpec.ofChange poolExactWrong)

/-- 'tenancylaw12.PoolOwns': WHATEVER THE INPUT: true; the input reads as it did. -/
def poolOwnsSpec : ChangeSpec := { name := "poolOwns", fn := fun _ => fun
  | [d1, d2] => { results := [.lit (.bool true)], args := [d1, d2] }
  | _ => none }
def poolOwnsRow : OpenClaim := { program := "ytkainejbilbjfaa", sum := "9cdccdfeaca496c0e8ccd75dde296e7970e55df328774d2def9f69e890430127", func := "tenancy/tenancylaw12.PoolOwns", spec := "poolOwns", inPlace := ["math/bits.Add64", "math/bits.Sub64"], unfollowed := true, recurses := true, named := ["math/bits.divideError", "math/bits.overflowError"], apart := false }
def PoolOwnsSaid : Prop := poolOwnsRow.holds Try.pinned (OpenSpec.ofChange poolOwnsSpec)

/-- ITS FALSE NEIGHBOUR: 'it returns false'. Refute it at one input. -/
def poolOwnsWrong : ChangeSpec := { name := "poolOwns", fn := fun _ => fun
  | [d1, d2] => { results := [.lit (.bool false)], args := [d1, d2] }
  | _ => none }
def PoolOwnsWrongFalsely : Prop := poolOwnsRow.holds Try.pinned (OpenSpec.ofChange poolOwnsWrong)

/-- 'tenancylaw12.PoolMemory': WHATEVER THE INPUT: true; the input reads as it did. -/
def poolMemorySpec : ChangeSpec := { name := "poolMemory", fn := fun _ => fun
  | [d1, d2] => { results := [.lit (.bool true)], args := [d1, d2] }
  | _ => none }
def poolMemoryRow : OpenClaim := { program := "ytkainejbilbjfaa", sum := "9cdccdfeaca496c0e8ccd75dde296e7970e55df328774d2def9f69e890430127", func := "tenancy/tenancylaw12.PoolMemory", spec := "poolMemory", inPlace := ["math/bits.Add64", "math/bits.Sub64"], unfollowed := true, recurses := true, named := ["math/bits.divideError", "math/bits.overflowError"], apart := false }
def PoolMemorySaid : Prop := poolMemoryRow.holds Try.pinned (OpenSpec.ofChange poolMemorySpec)

/-- ITS FALSE NEIGHBOUR: 'it returns false'. Refute it at one input. -/
def poolMemoryWrong : ChangeSpec := { name := "poolMemory", fn := fun _ => fun
  | [d1, d2] => { results := [.lit (.bool false)], args := [d1, d2] }
  | _ => none }
def PoolMemoryWrongFalsely : Prop := poolMemoryRow.holds Try.pinned (OpenSpec.ofChange poolMemoryWrong)

/-- 'tenancylaw12.PoolAll': WHATEVER THE INPUT: true; the input reads as it did. -/
def poolAllSpec : ChangeSpec := { name := "poolAll", fn := fun _ => fun
  | [d1, d2, d3] => { results := [.lit (.bool true)], args := [d1, d2, d3] }
  | _ => none }
def poolAllRow : OpenClaim := { program := "ytkainejbilbjfaa", sum := "9cdccdfeaca496c0e8ccd75dde296e7970e55df328774d2def9f69e890430127", func := "tenancy/tenancylaw12.PoolAll", spec := "poolAll", inPlace := ["math/bits.Add64", "math/bits.Sub64"], unfollowed := true, recurses := true, named := ["math/bits.divideError", "math/bits.overflowError"], apart := false }
def PoolAllSaid : Prop := poolAllRow.holds Try.pinned (OpenSpec.ofChange poolAllSpec)

/-- ITS FALSE NEIGHBOUR: 'it returns false'. Refute it at one input. -/
def poolAllWrong : ChangeSpec := { name := "poolAll", fn := fun _ => fun
  | [d1, d2, d3] => { results := [.lit (.bool false)], args := [d1, d2, d3] }
  | _ => none }
def PoolAllWrongFalsely : Prop := poolAllRow.holds Try.pinned (OpenSpec.ofChange poolAllWrong)

/-- 'tenancylaw12.PoolPicks': WHATEVER THE INPUT: true; the input reads as it did. -/
def poolPicksSpec : ChangeSpec := { name := "poolPicks", fn := fun _ => fun
  | [d1, d2, d3] => { results := [.lit (.bool true)], args := [d1, d2, d3] }
  | _ => none }
def poolPicksRow : OpenClaim := { program := "ytkainejbilbjfaa", sum := "9cdccdfeaca496c0e8ccd75dde296e7970e55df328774d2def9f69e890430127", func := "tenancy/tenancylaw12.PoolPicks", spec := "poolPicks", inPlace := ["math/bits.Add64", "math/bits.Sub64"], unfollowed := true, recurses := true, named := ["math/bits.divideError", "math/bits.overflowError"], apart := false }
def PoolPicksSaid : Prop := poolPicksRow.holds Try.pinned (OpenSpec.ofChange poolPicksSpec)

/-- ITS FALSE NEIGHBOUR: 'it returns false'. Refute it at one input. -/
def poolPicksWrong : ChangeSpec := { name := "poolPicks", fn := fun _ => fun
  | [d1, d2, d3] => { results := [.lit (.bool false)], args := [d1, d2, d3] }
  | _ => none }
def PoolPicksWrongFalsely : Prop := poolPicksRow.holds Try.pinned (OpenSpec.ofChange poolPicksWrong)

/- THE SECOND FORM. 'bulk': how many values and letters a reading holds, each counted each time it is reached (what is shared counts as often as it is met; a slice's spare places count too). A statement '..UptoSaid' is the law's where the arguments, and the package variables that the reading takes, are together of bulk at most 1048576: NARROWER than '..Said'. Prove '..Said' where nothing that the law and all that it calls make is longer than what came in: it says more and counts as full. Else prove '..UptoSaid'. A law counts once. -/
mutual
def uptoBulk {H : Type} : DataW H → Nat
  | .lit (.string bytes) => bytes.length + 1
  | .lit _ => 1
  | .nil => 1
  | .ptr d => uptoBulk d + 1
  | .slice elems spare => uptoBulkAll elems + uptoBulkAll spare + 1
  | .agg parts => uptoBulkAll parts + 1
  | .iface _ d => uptoBulk d + 1
  | .map entries => uptoBulkEntries entries + 1
  | .held _ => 1
def uptoBulkAll {H : Type} : List (DataW H) → Nat
  | [] => 0
  | d :: r => uptoBulk d + uptoBulkAll r
def uptoBulkEntries {H : Type} : List (Lit × DataW H) → Nat
  | [] => 0
  | x :: r => uptoBulkEntry x + uptoBulkEntries r
def uptoBulkEntry {H : Type} : Lit × DataW H → Nat
  | (.string bytes, d) => bytes.length + uptoBulk d + 1
  | (_, d) => uptoBulk d + 1
 end
def uptoSmall : (H : Type) → List (DataW H) → Bool := fun _ ds => decide (uptoBulkAll ds ≤ 1048576)
def OpenSpec.upto (s : _root_.Go.ChangeSpec) : _root_.Go.OpenSpec := { _root_.Go.OpenSpec.ofChange s with cond := some uptoSmall }

/-- 'tenancylaw12.PoolExact', WHERE WHAT IT READS IS OF BULK AT MOST 1048576: true; the input reads as it did. -/
def poolExactUptoRow : OpenClaim := { program := "ytkainejbilbjfaa", sum := "9cdccdfeaca496c0e8ccd75dde296e7970e55df328774d2def9f69e890430127", func := "tenancy/tenancylaw12.PoolExact", spec := "poolExact", inPlace := ["math/bits.Add64", "math/bits.Sub64"], unfollowed := true, recurses := true, named := ["math/bits.divideError", "math/bits.overflowError"], apart := false, narrowed := true }
def PoolExactUptoSaid : Prop := poolExactUptoRow.holds Try.pinned (OpenSpec.upto poolExactSpec)

/-- 'tenancylaw12.PoolOwns', WHERE WHAT IT READS IS OF BULK AT MOST 1048576: true; the input reads as it did. -/
def poolOwnsUptoRow : OpenClaim := { program := "ytkainejbilbjfaa", sum := "9cdccdfeaca496c0e8ccd75dde296e7970e55df328774d2def9f69e890430127", func := "tenancy/tenancylaw12.PoolOwns", spec := "poolOwns", inPlace := ["math/bits.Add64", "math/bits.Sub64"], unfollowed := true, recurses := true, named := ["math/bits.divideError", "math/bits.overflowError"], apart := false, narrowed := true }
def PoolOwnsUptoSaid : Prop := poolOwnsUptoRow.holds Try.pinned (OpenSpec.upto poolOwnsSpec)

/-- 'tenancylaw12.PoolMemory', WHERE WHAT IT READS IS OF BULK AT MOST 1048576: true; the input reads as it did. -/
def poolMemoryUptoRow : OpenClaim := { program := "ytkainejbilbjfaa", sum := "9cdccdfeaca496c0e8ccd75dde296e7970e55df328774d2def9f69e890430127", func := "tenancy/tenancylaw12.PoolMemory", spec := "poolMemory", inPlace := ["math/bits.Add64", "math/bits.Sub64"], unfollowed := true, recurses := true, named := ["math/bits.divideError", "math/bits.overflowError"], apart := false, narrowed := true }
def PoolMemoryUptoSaid : Prop := poolMemoryUptoRow.holds Try.pinned (OpenSpec.upto poolMemorySpec)

/-- 'tenancylaw12.PoolAll', WHERE WHAT IT READS IS OF BULK AT MOST 1048576: true; the input reads as it did. -/
def poolAllUptoRow : OpenClaim := { program := "ytkainejbilbjfaa", sum := "9cdccdfeaca496c0e8ccd75dde296e7970e55df328774d2def9f69e890430127", func := "tenancy/tenancylaw12.PoolAll", spec := "poolAll", inPlace := ["math/bits.Add64", "math/bits.Sub64"], unfollowed := true, recurses := true, named := ["math/bits.divideError", "math/bits.overflowError"], apart := false, narrowed := true }
def PoolAllUptoSaid : Prop := poolAllUptoRow.holds Try.pinned (OpenSpec.upto poolAllSpec)

/-- 'tenancylaw12.PoolPicks', WHERE WHAT IT READS IS OF BULK AT MOST 1048576: true; the input reads as it did. -/
def poolPicksUptoRow : OpenClaim := { program := "ytkainejbilbjfaa", sum := "9cdccdfeaca496c0e8ccd75dde296e7970e55df328774d2def9f69e890430127", func := "tenancy/tenancylaw12.PoolPicks", spec := "poolPicks", inPlace := ["math/bits.Add64", "math/bits.Sub64"], unfollowed := true, recurses := true, named := ["math/bits.divideError", "math/bits.overflowError"], apart := false, narrowed := true }
def PoolPicksUptoSaid : Prop := poolPicksUptoRow.holds Try.pinned (OpenSpec.upto poolPicksSpec)

end Rows
end Go.Proofs.Ytkainejbilbjfaa
