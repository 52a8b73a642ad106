/-
  No cell of these rows narrows 'for every input' (looked for: loops, veiled, ifaces, maps, wideKeys, modest, calm, conditions, laid).
  DERIVED. THE GIVEN ROWS OF THIS SEAT. 7 by the template 'for every input the law returns true; each argument reads behind the call as it read before'; 0 by the template 'total and deterministic' (their statements: YtmkhnefjklfpnaaTotals.lean).
  GIVEN WITH THE SEED: the statements are not yours to turn. If you find one false, say at which input.
  Laid BY PROGRAM, IN A SANDBOX (cutbox-rows.mjs): the forced cells as the released guide's own fill.sh prints them over the translation 8c3bf9d5f9522fd4… (all of the seat's roots in one cut). By AI agents, Wed Nov 11 2026. No macro, syntax, notation, axiom, sorry.
-/
import Derived.Test.YtmkhnefjklfpnaaChecked
import GoSem.Claim
import GoSem.ClaimJoined
import GoSem.ClaimMapViews
import Derived.JoinedTies
import Derived.KernelRfl
namespace Go.Proofs.Ytmkhnefjklfpnaa
/- THE CELL 'sum', in the pinned program and in every row, IS THE sha256 OF THE DUMP (.gsa) THAT YtmkhnefjklfpnaaProg.lean LOADS. Nothing in Lean hashes anything: it is a label: what it is worth is what the hold of that sum in a sandbox is worth. -/
noncomputable def Try.pinned : Pinned := { name := "ytmkhnefjklfpnaa", sum := "8c3bf9d5f9522fd42902cd1d40273bc8b11d5f8cb0b2b4c54d385b15bc897636", checked := Try.checked }
namespace Rows
def none {H : Type} : Left H := { results := [], args := [] }

/-- 'tenancylaw03.SpanActs': WHATEVER THE INPUT: true; the input reads as it did. -/
def spanActsSpec : ChangeSpec := { name := "spanActs", fn := fun _ => fun
  | [d1, d2, d3] => { results := [.lit (.bool true)], args := [d1, d2, d3] }
  | _ => none }
def spanActsRow : OpenClaim := { program := "ytmkhnefjklfpnaa", sum := "8c3bf9d5f9522fd42902cd1d40273bc8b11d5f8cb0b2b4c54d385b15bc897636", func := "tenancy/tenancylaw03.SpanActs", spec := "spanActs", inPlace := ["math/bits.Add64", "math/bits.Sub64"], unfollowed := true, recurses := true, apart := false }
def SpanActsSaid : Prop := spanActsRow.holds Try.pinned (OpenSpec.ofChange spanActsSpec)

/-- ITS FALSE NEIGHBOUR: 'it returns false'. Refute it at one input. -/
def spanActsWrong : ChangeSpec := { name := "spanActs", fn := fun _ => fun
  | [d1, d2, d3] => { results := [.lit (.bool false)], args := [d1, d2, d3] }
  | _ => none }
def SpanActsWrongFalsely : Prop := spanActsRow.holds Try.pinned (OpenSpec.ofChange spanActsWrong)

/-- 'tenancylaw03.SpanCounts': WHATEVER THE INPUT: true; the input reads as it did. -/
def spanCountsSpec : ChangeSpec := { name := "spanCounts", fn := fun _ => fun
  | [d1, d2] => { results := [.lit (.bool true)], args := [d1, d2] }
  | _ => none }
def spanCountsRow : OpenClaim := { program := "ytmkhnefjklfpnaa", sum := "8c3bf9d5f9522fd42902cd1d40273bc8b11d5f8cb0b2b4c54d385b15bc897636", func := "tenancy/tenancylaw03.SpanCounts", spec := "spanCounts", inPlace := ["math/bits.Add64", "math/bits.Sub64"], unfollowed := true, recurses := true, apart := false }
def SpanCountsSaid : Prop := spanCountsRow.holds Try.pinned (OpenSpec.ofChange spanCountsSpec)

/-- ITS FALSE NEIGHBOUR: 'it returns false'. Refute it at one input. -/
def spanCountsWrong : ChangeSpec := { name := "spanCounts", fn := fun _ => fun
  | [d1, d2] => { results := [.lit (.bool false)], args := [d1, d2] }
  | _ => none }
def SpanCountsWrongFalsely : Prop := spanCountsRow.holds Try.pinned (OpenSpec.ofChange spanCountsWrong)

/-- 'tenancylaw03.SpanMembers': WHATEVER THE INPUT: true; the input reads as it did. -/
def spanMembersSpec : ChangeSpec := { name := "spanMembers", fn := fun _ => fun
  | [d1, d2, d3] => { results := [.lit (.bool true)], args := [d1, d2, d3] }
  | _ => none }
def spanMembersRow : OpenClaim := { program := "ytmkhnefjklfpnaa", sum := "8c3bf9d5f9522fd42902cd1d40273bc8b11d5f8cb0b2b4c54d385b15bc897636", func := "tenancy/tenancylaw03.SpanMembers", spec := "spanMembers", inPlace := ["math/bits.Add64", "math/bits.Sub64"], unfollowed := true, recurses := true, apart := false }
def SpanMembersSaid : Prop := spanMembersRow.holds Try.pinned (OpenSpec.ofChange spanMembersSpec)

/-- ITS FALSE NEIGHBOUR: 'it returns false'. Refute it at one input. -/
def spanMembersWrong : ChangeSpec := { name := "spanMembers", fn := fun _ => fun
  | [d1, d2, d3] => { results := [.lit (.bool false)], args := [d1, d2, d3] }
  | _ => none }
def SpanMembersWrongFalsely : Prop := spanMembersRow.holds Try.pinned (OpenSpec.ofChange spanMembersWrong)

/-- 'tenancylaw03.SpanOrder': WHATEVER THE INPUT: true; the input reads as it did. -/
def spanOrderSpec : ChangeSpec := { name := "spanOrder", fn := fun _ => fun
  | [d] => { results := [.lit (.bool true)], args := [d] }
  | _ => none }
def spanOrderRow : OpenClaim := { program := "ytmkhnefjklfpnaa", sum := "8c3bf9d5f9522fd42902cd1d40273bc8b11d5f8cb0b2b4c54d385b15bc897636", func := "tenancy/tenancylaw03.SpanOrder", spec := "spanOrder", inPlace := ["math/bits.Add64", "math/bits.Sub64"], unfollowed := true, recurses := true, apart := false }
def SpanOrderSaid : Prop := spanOrderRow.holds Try.pinned (OpenSpec.ofChange spanOrderSpec)

/-- ITS FALSE NEIGHBOUR: 'it returns false'. Refute it at one input. -/
def spanOrderWrong : ChangeSpec := { name := "spanOrder", fn := fun _ => fun
  | [d] => { results := [.lit (.bool false)], args := [d] }
  | _ => none }
def SpanOrderWrongFalsely : Prop := spanOrderRow.holds Try.pinned (OpenSpec.ofChange spanOrderWrong)

/-- 'tenancylaw03.SpanPlaces': WHATEVER THE INPUT: true; the input reads as it did. -/
def spanPlacesSpec : ChangeSpec := { name := "spanPlaces", fn := fun _ => fun
  | [d1, d2, d3] => { results := [.lit (.bool true)], args := [d1, d2, d3] }
  | _ => none }
def spanPlacesRow : OpenClaim := { program := "ytmkhnefjklfpnaa", sum := "8c3bf9d5f9522fd42902cd1d40273bc8b11d5f8cb0b2b4c54d385b15bc897636", func := "tenancy/tenancylaw03.SpanPlaces", spec := "spanPlaces", inPlace := ["math/bits.Add64", "math/bits.Sub64"], unfollowed := true, recurses := true, apart := false }
def SpanPlacesSaid : Prop := spanPlacesRow.holds Try.pinned (OpenSpec.ofChange spanPlacesSpec)

/-- ITS FALSE NEIGHBOUR: 'it returns false'. Refute it at one input. -/
def spanPlacesWrong : ChangeSpec := { name := "spanPlaces", fn := fun _ => fun
  | [d1, d2, d3] => { results := [.lit (.bool false)], args := [d1, d2, d3] }
  | _ => none }
def SpanPlacesWrongFalsely : Prop := spanPlacesRow.holds Try.pinned (OpenSpec.ofChange spanPlacesWrong)

/-- 'tenancylaw03.SpanLess': WHATEVER THE INPUT: true; the input reads as it did. -/
def spanLessSpec : ChangeSpec := { name := "spanLess", fn := fun _ => fun
  | [d1, d2, d3] => { results := [.lit (.bool true)], args := [d1, d2, d3] }
  | _ => none }
def spanLessRow : OpenClaim := { program := "ytmkhnefjklfpnaa", sum := "8c3bf9d5f9522fd42902cd1d40273bc8b11d5f8cb0b2b4c54d385b15bc897636", func := "tenancy/tenancylaw03.SpanLess", spec := "spanLess", inPlace := ["math/bits.Add64", "math/bits.Sub64"], unfollowed := true, recurses := true, apart := false }
def SpanLessSaid : Prop := spanLessRow.holds Try.pinned (OpenSpec.ofChange spanLessSpec)

/-- ITS FALSE NEIGHBOUR: 'it returns false'. Refute it at one input. -/
def spanLessWrong : ChangeSpec := { name := "spanLess", fn := fun _ => fun
  | [d1, d2, d3] => { results := [.lit (.bool false)], args := [d1, d2, d3] }
  | _ => none }
def SpanLessWrongFalsely : Prop := spanLessRow.holds Try.pinned (OpenSpec.ofChange spanLessWrong)

/-- 'tenancylaw03.SpanMemory': WHATEVER THE INPUT: true; the input reads as it did. -/
def spanMemorySpec : ChangeSpec := { name := "spanMemory", fn := fun _ => fun
  | [d1, d2] => { results := [.lit (.bool true)], args := [d1, d2] }
  | _ => none }
def spanMemoryRow : OpenClaim := { program := "ytmkhnefjklfpnaa", sum := "8c3bf9d5f9522fd42902cd1d40273bc8b11d5f8cb0b2b4c54d385b15bc897636", func := "tenancy/tenancylaw03.SpanMemory", spec := "spanMemory", inPlace := ["math/bits.Add64", "math/bits.Sub64"], unfollowed := true, recurses := true, apart := false }
def SpanMemorySaid : Prop := spanMemoryRow.holds Try.pinned (OpenSpec.ofChange spanMemorySpec)

/-- ITS FALSE NEIGHBOUR: 'it returns false'. Refute it at one input. -/
def spanMemoryWrong : ChangeSpec := { name := "spanMemory", fn := fun _ => fun
  | [d1, d2] => { results := [.lit (.bool false)], args := [d1, d2] }
  | _ => none }
def SpanMemoryWrongFalsely : Prop := spanMemoryRow.holds Try.pinned (OpenSpec.ofChange spanMemoryWrong)

/- THE SECOND FORM. 'bulk': how many values and letters a reading holds, each counted each time it is reached (what is shared counts as often as it is met; a slice's spare places count too). A statement '..UptoSaid' is the law's where the arguments, and the package variables that the reading takes, are together of bulk at most 1048576: NARROWER than '..Said'. Prove '..Said' where nothing that the law and all that it calls make is longer than what came in: it says more and counts as full. Else prove '..UptoSaid'. A law counts once. -/
mutual
def uptoBulk {H : Type} : DataW H → Nat
  | .lit (.string bytes) => bytes.length + 1
  | .lit _ => 1
  | .nil => 1
  | .ptr d => uptoBulk d + 1
  | .slice elems spare => uptoBulkAll elems + uptoBulkAll spare + 1
  | .agg parts => uptoBulkAll parts + 1
  | .iface _ d => uptoBulk d + 1
  | .map entries => uptoBulkEntries entries + 1
  | .held _ => 1
def uptoBulkAll {H : Type} : List (DataW H) → Nat
  | [] => 0
  | d :: r => uptoBulk d + uptoBulkAll r
def uptoBulkEntries {H : Type} : List (Lit × DataW H) → Nat
  | [] => 0
  | x :: r => uptoBulkEntry x + uptoBulkEntries r
def uptoBulkEntry {H : Type} : Lit × DataW H → Nat
  | (.string bytes, d) => bytes.length + uptoBulk d + 1
  | (_, d) => uptoBulk d + 1
 end
def uptoSmall : (H : Type) → List (DataW H) → Bool := fun _ ds => decide (uptoBulkAll ds ≤ 1048576)
def OpenSpec.upto (s : _root_.Go.ChangeSpec) : _root_.Go.OpenSpec := { _root_.Go.OpenSpec.ofChange s with cond := some uptoSmall }

/-- 'tenancylaw03.SpanActs', WHERE WHAT IT READS IS OF BULK AT MOST 1048576: true; the input reads as it did. -/
def spanActsUptoRow : OpenClaim := { program := "ytmkhnefjklfpnaa", sum := "8c3bf9d5f9522fd42902cd1d40273bc8b11d5f8cb0b2b4c54d385b15bc897636", func := "tenancy/tenancylaw03.SpanActs", spec := "spanActs", inPlace := ["math/bits.Add64", "math/bits.Sub64"], unfollowed := true, recurses := true, apart := false, narrowed := true }
def SpanActsUptoSaid : Prop := spanActsUptoRow.holds Try.pinned (OpenSpec.upto spanActsSpec)

/-- 'tenancylaw03.SpanCounts', WHERE WHAT IT READS IS OF BULK AT MOST 1048576: true; the input reads as it did. -/
def spanCountsUptoRow : OpenClaim := { program := "ytmkhnefjklfpnaa", sum := "8c3bf9d5f9522fd42902cd1d40273bc8b11d5f8cb0b2b4c54d385b15bc897636", func := "tenancy/tenancylaw03.SpanCounts", spec := "spanCounts", inPlace := ["math/bits.Add64", "math/bits.Sub64"], unfollowed := true, recurses := true, apart := false, narrowed := true }
def SpanCountsUptoSaid : Prop := spanCountsUptoRow.holds Try.pinned (OpenSpec.upto spanCountsSpec)

/-- 'tenancylaw03.SpanMembers', WHERE WHAT IT READS IS OF BULK AT MOST 1048576: true; the input reads as it did. -/
def spanMembersUptoRow : OpenClaim := { program := "ytmkhnefjklfpnaa", sum := "8c3bf9d5f9522fd42902cd1d40273bc8b11d5f8cb0b2b4c54d385b15bc897636", func := "tenancy/tenancylaw03.SpanMembers", spec := "spanMembers", inPlace := ["math/bits.Add64", "math/bits.Sub64"], unfollowed := true, recurses := true, apart := false, narrowed := true }
def SpanMembersUptoSaid : Prop := spanMembersUptoRow.holds Try.pinned (OpenSpec.upto spanMembersSpec)

/-- 'tenancylaw03.SpanOrder', WHERE WHAT IT READS IS OF BULK AT MOST 1048576: true; the input reads as it did. -/
def spanOrderUptoRow : OpenClaim := { program := "ytmkhnefjklfpnaa", sum := "8c3bf9d5f9522fd42902cd1d40273bc8b11d5f8cb0b2b4c54d385b15bc897636", func := "tenancy/tenancylaw03.SpanOrder", spec := "spanOrder", inPlace := ["math/bits.Add64", "math/bits.Sub64"], unfollowed := true, recurses := true, apart := false, narrowed := true }
def SpanOrderUptoSaid : Prop := spanOrderUptoRow.holds Try.pinned (OpenSpec.upto spanOrderSpec)

/-- 'tenancylaw03.SpanPlaces', WHERE WHAT IT READS IS OF BULK AT MOST 1048576: true; the input reads as it did. -/
def spanPlacesUptoRow : OpenClaim := { program := "ytmkhnefjklfpnaa", sum := "8c3bf9d5f9522fd42902cd1d40273bc8b11d5f8cb0b2b4c54d385b15bc897636", func := "tenancy/tenancylaw03.SpanPlaces", spec := "spanPlaces", inPlace := ["math/bits.Add64", "math/bits.Sub64"], unfollowed := true, recurses := true, apart := false, narrowed := true }
def SpanPlacesUptoSaid : Prop := spanPlacesUptoRow.holds Try.pinned (OpenSpec.upto spanPlacesSpec)

/-- 'tenancylaw03.SpanLess', WHERE WHAT IT READS IS OF BULK AT MOST 1048576: true; the input reads as it did. -/
def spanLessUptoRow : OpenClaim := { program := "ytmkhnefjklfpnaa", sum := "8c3bf9d5f9522fd42902cd1d40273bc8b11d5f8cb0b2b4c54d385b15bc897636", func := "tenancy/tenancylaw03.SpanLess", spec := "spanLess", inPlace := ["math/bits.Add64", "math/bits.Sub64"], unfollowed := true, recurses := true, apart := false, narrowed := true }
def SpanLessUptoSaid : Prop := spanLessUptoRow.holds Try.pinned (OpenSpec.upto spanLessSpec)

/-- 'tenancylaw03.SpanMemory', WHERE WHAT IT READS IS OF BULK AT MOST 1048576: true; the input reads as it did. -/
def spanMemoryUptoRow : OpenClaim := { program := "ytmkhnefjklfpnaa", sum := "8c3bf9d5f9522fd42902cd1d40273bc8b11d5f8cb0b2b4c54d385b15bc897636", func := "tenancy/tenancylaw03.SpanMemory", spec := "spanMemory", inPlace := ["math/bits.Add64", "math/bits.Sub64"], unfollowed := true, recurses := true, apart := false, narrowed := true }
def SpanMemoryUptoSaid : Prop := spanMemoryUptoRow.holds Try.pinned (OpenSpec.upto spanMemorySpec)

end Rows
end Go.Proofs.Ytmkhnefjklfpnaa
