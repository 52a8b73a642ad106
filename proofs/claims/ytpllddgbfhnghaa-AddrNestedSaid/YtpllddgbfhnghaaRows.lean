/-
  No cell of these rows narrows 'for every input' (looked for: loops, veiled, ifaces, maps, wideKeys, modest, calm, conditions, laid).
  DERIVED. THE GIVEN ROWS OF THIS SEAT. 7 by the template 'for every input the law returns true; each argument reads behind the call as it read before'; 0 by the template 'total and deterministic' (their statements: YtpllddgbfhnghaaTotals.lean).
  GIVEN WITH THE SEED: the statements are not yours to turn. If you find one false, say at which input.
  Laid BY PROGRAM, IN A SANDBOX (cutbox-rows.mjs): the forced cells as the released guide's own fill.sh prints them over the translation 0a97b1b8c1372d2e… (all of the seat's roots in one cut). By AI agents, Wed Nov 11 2026. No macro, syntax, notation, axiom, sorry.
-/
import Derived.Test.YtpllddgbfhnghaaChecked
import GoSem.Claim
import GoSem.ClaimJoined
import GoSem.ClaimMapViews
import Derived.JoinedTies
import Derived.KernelRfl
namespace Go.Proofs.Ytpllddgbfhnghaa
/- THE CELL 'sum', in the pinned program and in every row, IS THE sha256 OF THE DUMP (.gsa) THAT YtpllddgbfhnghaaProg.lean LOADS. Nothing in Lean hashes anything: it is a label: what it is worth is what the hold of that sum in a sandbox is worth. -/
noncomputable def Try.pinned : Pinned := { name := "ytpllddgbfhnghaa", sum := "0a97b1b8c1372d2efb56b7243d7cf46df3612c41760632815d5624ed4a8ec5f6", checked := Try.checked }
namespace Rows
def none {H : Type} : Left H := { results := [], args := [] }

/-- 'tenancylaw01.AddrGroup': WHATEVER THE INPUT: true; the input reads as it did. -/
def addrGroupSpec : ChangeSpec := { name := "addrGroup", fn := fun _ => fun
  | [d1, d2, d3] => { results := [.lit (.bool true)], args := [d1, d2, d3] }
  | _ => none }
def addrGroupRow : OpenClaim := { program := "ytpllddgbfhnghaa", sum := "0a97b1b8c1372d2efb56b7243d7cf46df3612c41760632815d5624ed4a8ec5f6", func := "tenancy/tenancylaw01.AddrGroup", spec := "addrGroup", inPlace := ["math/bits.Add64", "math/bits.Sub64"], named := ["math/bits.divideError", "math/bits.overflowError"], apart := false }
def AddrGroupSaid : Prop := addrGroupRow.holds Try.pinned (OpenSpec.ofChange addrGroupSpec)

/-- ITS FALSE NEIGHBOUR: 'it returns false'. Refute it at one input. -/
def addrGroupWrong : ChangeSpec := { name := "addrGroup", fn := fun _ => fun
  | [d1, d2, d3] => { results := [.lit (.bool false)], args := [d1, d2, d3] }
  | _ => none }
def AddrGroupWrongFalsely : Prop := addrGroupRow.holds Try.pinned (OpenSpec.ofChange addrGroupWrong)

/-- 'tenancylaw01.AddrMod': WHATEVER THE INPUT: true; the input reads as it did. -/
def addrModSpec : ChangeSpec := { name := "addrMod", fn := fun _ => fun
  | [d1, d2] => { results := [.lit (.bool true)], args := [d1, d2] }
  | _ => none }
def addrModRow : OpenClaim := { program := "ytpllddgbfhnghaa", sum := "0a97b1b8c1372d2efb56b7243d7cf46df3612c41760632815d5624ed4a8ec5f6", func := "tenancy/tenancylaw01.AddrMod", spec := "addrMod", inPlace := ["math/bits.Add64", "math/bits.Sub64"], named := ["math/bits.divideError", "math/bits.overflowError"], apart := false }
def AddrModSaid : Prop := addrModRow.holds Try.pinned (OpenSpec.ofChange addrModSpec)

/-- ITS FALSE NEIGHBOUR: 'it returns false'. Refute it at one input. -/
def addrModWrong : ChangeSpec := { name := "addrMod", fn := fun _ => fun
  | [d1, d2] => { results := [.lit (.bool false)], args := [d1, d2] }
  | _ => none }
def AddrModWrongFalsely : Prop := addrModRow.holds Try.pinned (OpenSpec.ofChange addrModWrong)

/-- 'tenancylaw01.AddrShifts': WHATEVER THE INPUT: true; the input reads as it did. -/
def addrShiftsSpec : ChangeSpec := { name := "addrShifts", fn := fun _ => fun
  | [d1, d2, d3] => { results := [.lit (.bool true)], args := [d1, d2, d3] }
  | _ => none }
def addrShiftsRow : OpenClaim := { program := "ytpllddgbfhnghaa", sum := "0a97b1b8c1372d2efb56b7243d7cf46df3612c41760632815d5624ed4a8ec5f6", func := "tenancy/tenancylaw01.AddrShifts", spec := "addrShifts", inPlace := ["math/bits.Add64", "math/bits.Sub64"], named := ["math/bits.divideError", "math/bits.overflowError"], apart := false }
def AddrShiftsSaid : Prop := addrShiftsRow.holds Try.pinned (OpenSpec.ofChange addrShiftsSpec)

/-- ITS FALSE NEIGHBOUR: 'it returns false'. Refute it at one input. -/
def addrShiftsWrong : ChangeSpec := { name := "addrShifts", fn := fun _ => fun
  | [d1, d2, d3] => { results := [.lit (.bool false)], args := [d1, d2, d3] }
  | _ => none }
def AddrShiftsWrongFalsely : Prop := addrShiftsRow.holds Try.pinned (OpenSpec.ofChange addrShiftsWrong)

/-- 'tenancylaw01.AddrClips': WHATEVER THE INPUT: true; the input reads as it did. -/
def addrClipsSpec : ChangeSpec := { name := "addrClips", fn := fun _ => fun
  | [d1, d2, d3] => { results := [.lit (.bool true)], args := [d1, d2, d3] }
  | _ => none }
def addrClipsRow : OpenClaim := { program := "ytpllddgbfhnghaa", sum := "0a97b1b8c1372d2efb56b7243d7cf46df3612c41760632815d5624ed4a8ec5f6", func := "tenancy/tenancylaw01.AddrClips", spec := "addrClips", inPlace := ["math/bits.Add64", "math/bits.Sub64"], named := ["math/bits.divideError", "math/bits.overflowError"], apart := false }
def AddrClipsSaid : Prop := addrClipsRow.holds Try.pinned (OpenSpec.ofChange addrClipsSpec)

/-- ITS FALSE NEIGHBOUR: 'it returns false'. Refute it at one input. -/
def addrClipsWrong : ChangeSpec := { name := "addrClips", fn := fun _ => fun
  | [d1, d2, d3] => { results := [.lit (.bool false)], args := [d1, d2, d3] }
  | _ => none }
def AddrClipsWrongFalsely : Prop := addrClipsRow.holds Try.pinned (OpenSpec.ofChange addrClipsWrong)

/-- 'tenancylaw01.AddrNumbers': WHATEVER THE INPUT: true; the input reads as it did. -/
def addrNumbersSpec : ChangeSpec := { name := "addrNumbers", fn := fun _ => fun
  | [d1, d2, d3] => { results := [.lit (.bool true)], args := [d1, d2, d3] }
  | _ => none }
def addrNumbersRow : OpenClaim := { program := "ytpllddgbfhnghaa", sum := "0a97b1b8c1372d2efb56b7243d7cf46df3612c41760632815d5624ed4a8ec5f6", func := "tenancy/tenancylaw01.AddrNumbers", spec := "addrNumbers", inPlace := ["math/bits.Add64", "math/bits.Sub64"], named := ["math/bits.divideError", "math/bits.overflowError"], apart := false }
def AddrNumbersSaid : Prop := addrNumbersRow.holds Try.pinned (OpenSpec.ofChange addrNumbersSpec)

/-- ITS FALSE NEIGHBOUR: 'it returns false'. Refute it at one input. -/
def addrNumbersWrong : ChangeSpec := { name := "addrNumbers", fn := fun _ => fun
  | [d1, d2, d3] => { results := [.lit (.bool false)], args := [d1, d2, d3] }
  | _ => none }
def AddrNumbersWrongFalsely : Prop := addrNumbersRow.holds Try.pinned (OpenSpec.ofChange addrNumbersWrong)

/-- 'tenancylaw01.AddrPrefixes': WHATEVER THE INPUT: true; the input reads as it did. -/
def addrPrefixesSpec : ChangeSpec := { name := "addrPrefixes", fn := fun _ => fun
  | [d1, d2, d3] => { results := [.lit (.bool true)], args := [d1, d2, d3] }
  | _ => none }
def addrPrefixesRow : OpenClaim := { program := "ytpllddgbfhnghaa", sum := "0a97b1b8c1372d2efb56b7243d7cf46df3612c41760632815d5624ed4a8ec5f6", func := "tenancy/tenancylaw01.AddrPrefixes", spec := "addrPrefixes", inPlace := ["math/bits.Add64", "math/bits.Sub64"], named := ["math/bits.divideError", "math/bits.overflowError"], apart := false }
def AddrPrefixesSaid : Prop := addrPrefixesRow.holds Try.pinned (OpenSpec.ofChange addrPrefixesSpec)

/-- ITS FALSE NEIGHBOUR: 'it returns false'. Refute it at one input. -/
def addrPrefixesWrong : ChangeSpec := { name := "addrPrefixes", fn := fun _ => fun
  | [d1, d2, d3] => { results := [.lit (.bool false)], args := [d1, d2, d3] }
  | _ => none }
def AddrPrefixesWrongFalsely : Prop := addrPrefixesRow.holds Try.pinned (OpenSpec.ofChange addrPrefixesWrong)

/-- 'tenancylaw01.AddrNested': WHATEVER THE INPUT: true; the input reads as it did. -/
def addrNestedSpec : ChangeSpec := { name := "addrNested", fn := fun _ => fun
  | [d1, d2, d3] => { results := [.lit (.bool true)], args := [d1, d2, d3] }
  | _ => none }
def addrNestedRow : OpenClaim := { program := "ytpllddgbfhnghaa", sum := "0a97b1b8c1372d2efb56b7243d7cf46df3612c41760632815d5624ed4a8ec5f6", func := "tenancy/tenancylaw01.AddrNested", spec := "addrNested", inPlace := ["math/bits.Add64", "math/bits.Sub64"], named := ["math/bits.divideError", "math/bits.overflowError"], apart := false }
def AddrNestedSaid : Prop := addrNestedRow.holds Try.pinned (OpenSpec.ofChange addrNestedSpec)

/-- ITS FALSE NEIGHBOUR: 'it returns false'. Refute it at one input. -/
def addrNestedWrong : ChangeSpec := { name := "addrNested", fn := fun _ => fun
  | [d1, d2, d3] => { results := [.lit (.bool false)], args := [d1, d2, d3] }
  | _ => none }
def AddrNestedWrongFalsely : Prop := addrNestedRow.holds Try.pinned (OpenSpec.ofChange addrNestedWrong)

/- THE SECOND FORM. 'bulk': how many values and letters a reading holds, each counted each time it is reached (what is shared counts as often as it is met; a slice's spare places count too). A statement '..UptoSaid' is the law's where the arguments, and the package variables that the reading takes, are together of bulk at most 1048576: NARROWER than '..Said'. Prove '..Said' where nothing that the law and all that it calls make is longer than what came in: it says more and counts as full. Else prove '..UptoSaid'. A law counts once. -/
mutual
def uptoBulk {H : Type} : DataW H → Nat
  | .lit (.string bytes) => bytes.length + 1
  | .lit _ => 1
  | .nil => 1
  | .ptr d => uptoBulk d + 1
  | .slice elems spare => uptoBulkAll elems + uptoBulkAll spare + 1
  | .agg parts => uptoBulkAll parts + 1
  | .iface _ d => uptoBulk d + 1
  | .map entries => uptoBulkEntries entries + 1
  | .held _ => 1
def uptoBulkAll {H : Type} : List (DataW H) → Nat
  | [] => 0
  | d :: r => uptoBulk d + uptoBulkAll r
def uptoBulkEntries {H : Type} : List (Lit × DataW H) → Nat
  | [] => 0
  | x :: r => uptoBulkEntry x + uptoBulkEntries r
def uptoBulkEntry {H : Type} : Lit × DataW H → Nat
  | (.string bytes, d) => bytes.length + uptoBulk d + 1
  | (_, d) => uptoBulk d + 1
 end
def uptoSmall : (H : Type) → List (DataW H) → Bool := fun _ ds => decide (uptoBulkAll ds ≤ 1048576)
def OpenSpec.upto (s : _root_.Go.ChangeSpec) : _root_.Go.OpenSpec := { _root_.Go.OpenSpec.ofChange s with cond := some uptoSmall }

/-- 'tenancylaw01.AddrGroup', WHERE WHAT IT READS IS OF BULK AT MOST 1048576: true; the input reads as it did. -/
def addrGroupUptoRow : OpenClaim := { program := "ytpllddgbfhnghaa", sum := "0a97b1b8c1372d2efb56b7243d7cf46df3612c41760632815d5624ed4a8ec5f6", func := "tenancy/tenancylaw01.AddrGroup", spec := "addrGroup", inPlace := ["math/bits.Add64", "math/bits.Sub64"], named := ["math/bits.divideError", "math/bits.overflowError"], apart := false, narrowed := true }
def AddrGroupUptoSaid : Prop := addrGroupUptoRow.holds Try.pinned (OpenSpec.upto addrGroupSpec)

/-- 'tenancylaw01.AddrMod', WHERE WHAT IT READS IS OF BULK AT MOST 1048576: true; the input reads as it did. -/
def addrModUptoRow : OpenClaim := { program := "ytpllddgbfhnghaa", sum := "0a97b1b8c1372d2efb56b7243d7cf46df3612c41760632815d5624ed4a8ec5f6", func := "tenancy/tenancylaw01.AddrMod", spec := "addrMod", inPlace := ["math/bits.Add64", "math/bits.Sub64"], named := ["math/bits.divideError", "math/bits.overflowError"], apart := false, narrowed := true }
def AddrModUptoSaid : Prop := addrModUptoRow.holds Try.pinned (OpenSpec.upto addrModSpec)

/-- 'tenancylaw01.AddrShifts', WHERE WHAT IT READS IS OF BULK AT MOST 1048576: true; the input reads as it did. -/
def addrShiftsUptoRow : OpenClaim := { program := "ytpllddgbfhnghaa", sum := "0a97b1b8c1372d2efb56b7243d7cf46df3612c41760632815d5624ed4a8ec5f6", func := "tenancy/tenancylaw01.AddrShifts", spec := "addrShifts", inPlace := ["math/bits.Add64", "math/bits.Sub64"], named := ["math/bits.divideError", "math/bits.overflowError"], apart := false, narrowed := true }
def AddrShiftsUptoSaid : Prop := addrShiftsUptoRow.holds Try.pinned (OpenSpec.upto addrShiftsSpec)

/-- 'tenancylaw01.AddrClips', WHERE WHAT IT READS IS OF BULK AT MOST 1048576: true; the input reads as it did. -/
def addrClipsUptoRow : OpenClaim := { program := "ytpllddgbfhnghaa", sum := "0a97b1b8c1372d2efb56b7243d7cf46df3612c41760632815d5624ed4a8ec5f6", func := "tenancy/tenancylaw01.AddrClips", spec := "addrClips", inPlace := ["math/bits.Add64", "math/bits.Sub64"], named := ["math/bits.divideError", "math/bits.overflowError"], apart := false, narrowed := true }
def AddrClipsUptoSaid : Prop := addrClipsUptoRow.holds Try.pinned (OpenSpec.upto addrClipsSpec)

/-- 'tenancylaw01.AddrNumbers', WHERE WHAT IT READS IS OF BULK AT MOST 1048576: true; the input reads as it did. -/
def addrNumbersUptoRow : OpenClaim := { program := "ytpllddgbfhnghaa", sum := "0a97b1b8c1372d2efb56b7243d7cf46df3612c41760632815d5624ed4a8ec5f6", func := "tenancy/tenancylaw01.AddrNumbers", spec := "addrNumbers", inPlace := ["math/bits.Add64", "math/bits.Sub64"], named := ["math/bits.divideError", "math/bits.overflowError"], apart := false, narrowed := true }
def AddrNumbersUptoSaid : Prop := addrNumbersUptoRow.holds Try.pinned (OpenSpec.upto addrNumbersSpec)

/-- 'tenancylaw01.AddrPrefixes', WHERE WHAT IT READS IS OF BULK AT MOST 1048576: true; the input reads as it did. -/
def addrPrefixesUptoRow : OpenClaim := { program := "ytpllddgbfhnghaa", sum := "0a97b1b8c1372d2efb56b7243d7cf46df3612c41760632815d5624ed4a8ec5f6", func := "tenancy/tenancylaw01.AddrPrefixes", spec := "addrPrefixes", inPlace := ["math/bits.Add64", "math/bits.Sub64"], named := ["math/bits.divideError", "math/bits.overflowError"], apart := false, narrowed := true }
def AddrPrefixesUptoSaid : Prop := addrPrefixesUptoRow.holds Try.pinned (OpenSpec.upto addrPrefixesSpec)

/-- 'tenancylaw01.AddrNested', WHERE WHAT IT READS IS OF BULK AT MOST 1048576: true; the input reads as it did. -/
def addrNestedUptoRow : OpenClaim := { program := "ytpllddgbfhnghaa", sum := "0a97b1b8c1372d2efb56b7243d7cf46df3612c41760632815d5624ed4a8ec5f6", func := "tenancy/tenancylaw01.AddrNested", spec := "addrNested", inPlace := ["math/bits.Add64", "math/bits.Sub64"], named := ["math/bits.divideError", "math/bits.overflowError"], apart := false, narrowed := true }
def AddrNestedUptoSaid : Prop := addrNestedUptoRow.holds Try.pinned (OpenSpec.upto addrNestedSpec)

end Rows
end Go.Proofs.Ytpllddgbfhnghaa
