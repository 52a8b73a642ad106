/-
  DERIVED. GIVEN WITH THE SEED: THE CARDS: each row of YtliiihocjdoamaaDoorRows.lean that lists a variable, with what it lists TIED to the program's text (the seventh form; the later family's looks); each row that meets fmt, with fmt's text TOLD by the authors' own Lean function (tested against real Go, not proved from fmt's source: count such statements apart). THE CARD IS WHAT COUNTS. Prove the row's statement (the work); the ties are given (YtliiihocjdoamaaDoorTie.lean); close each card by the builder's one call (the guide's Derived/Test/ToyasCard.lean, 'card_holds'). Laid BY PROGRAM, IN A SANDBOX (cutbox-door.mjs). By AI agents, Wed Nov 11 2026. No macro, syntax, notation, axiom, sorry.
-/
import Derived.Test.YtliiihocjdoamaaDoorRows
import GoSem.ClaimSeven
namespace Go.Proofs.YtliiihocjdoamaaDoor
namespace Rows

/-- THE TIED CARD OF 'tenancylaw06.FilesKeep'. -/
def filesKeepCard : Claim7 := { stood := { row := filesKeepRow, standIns := [], harness := (true, "9c6494fe1e60eb7bbac33b4873c23925c4189d7002d057063cf2cc02e8359221"), looks := false }, kinds := [], alts := [], laidByText := true, laidKinds := [.data, .pinned], laidTests := true, laidLooks := .later }
def FilesKeepCardSaid : Prop := Claim7.holds Tryd.pinned (.plain (OpenSpec.ofChange filesKeepSpec)) filesKeepCard

/-- THE TIED CARD OF 'tenancylaw06.FilesNames'. -/
def filesNamesCard : Claim7 := { stood := { row := filesNamesRow, standIns := [], harness := (true, "9c6494fe1e60eb7bbac33b4873c23925c4189d7002d057063cf2cc02e8359221"), looks := false }, kinds := [], alts := [], laidByText := true, laidKinds := [.data, .pinned], laidTests := true, laidLooks := .later }
def FilesNamesCardSaid : Prop := Claim7.holds Tryd.pinned (.plain (OpenSpec.ofChange filesNamesSpec)) filesNamesCard

/-- THE TIED CARD OF 'tenancylaw06.FilesExact'. -/
def filesExactCard : Claim7 := { stood := { row := filesExactRow, standIns := [], harness := (true, "9c6494fe1e60eb7bbac33b4873c23925c4189d7002d057063cf2cc02e8359221"), looks := false }, kinds := [], alts := [], laidByText := true, laidKinds := [.data, .pinned], laidTests := true, laidLooks := .later }
def FilesExactCardSaid : Prop := Claim7.holds Tryd.pinned (.plain (OpenSpec.ofChange filesExactSpec)) filesExactCard

/-- THE TIED CARD OF 'tenancylaw06.FilesArm'. -/
def filesArmCard : Claim7 := { stood := { row := filesArmRow, standIns := [], harness := (true, "9c6494fe1e60eb7bbac33b4873c23925c4189d7002d057063cf2cc02e8359221"), looks := false }, kinds := [], alts := [], laidByText := true, laidKinds := [.data, .pinned], laidTests := true, laidLooks := .later }
def FilesArmCardSaid : Prop := Claim7.holds Tryd.pinned (.plain (OpenSpec.ofChange filesArmSpec)) filesArmCard

/-- THE SECOND FORM's CARD OF 'tenancylaw06.FilesKeep'. -/
def filesKeepUptoCard : Claim7 := { stood := { row := filesKeepUptoRow, standIns := [], harness := (true, "9c6494fe1e60eb7bbac33b4873c23925c4189d7002d057063cf2cc02e8359221"), looks := false }, kinds := [], alts := [], laidByText := true, laidKinds := [.data, .pinned], laidTests := true, laidLooks := .later }
def FilesKeepUptoCardSaid : Prop := Claim7.holds Tryd.pinned (.plain (OpenSpec.upto filesKeepSpec)) filesKeepUptoCard

/-- THE SECOND FORM's CARD OF 'tenancylaw06.FilesNames'. -/
def filesNamesUptoCard : Claim7 := { stood := { row := filesNamesUptoRow, standIns := [], harness := (true, "9c6494fe1e60eb7bbac33b4873c23925c4189d7002d057063cf2cc02e8359221"), looks := false }, kinds := [], alts := [], laidByText := true, laidKinds := [.data, .pinned], laidTests := true, laidLooks := .later }
def FilesNamesUptoCardSaid : Prop := Claim7.holds Tryd.pinned (.plain (OpenSpec.upto filesNamesSpec)) filesNamesUptoCard

/-- THE SECOND FORM's CARD OF 'tenancylaw06.FilesExact'. -/
def filesExactUptoCard : Claim7 := { stood := { row := filesExactUptoRow, standIns := [], harness := (true, "9c6494fe1e60eb7bbac33b4873c23925c4189d7002d057063cf2cc02e8359221"), looks := false }, kinds := [], alts := [], laidByText := true, laidKinds := [.data, .pinned], laidTests := true, laidLooks := .later }
def FilesExactUptoCardSaid : Prop := Claim7.holds Tryd.pinned (.plain (OpenSpec.upto filesExactSpec)) filesExactUptoCard

/-- THE SECOND FORM's CARD OF 'tenancylaw06.FilesArm'. -/
def filesArmUptoCard : Claim7 := { stood := { row := filesArmUptoRow, standIns := [], harness := (true, "9c6494fe1e60eb7bbac33b4873c23925c4189d7002d057063cf2cc02e8359221"), looks := false }, kinds := [], alts := [], laidByText := true, laidKinds := [.data, .pinned], laidTests := true, laidLooks := .later }
def FilesArmUptoCardSaid : Prop := Claim7.holds Tryd.pinned (.plain (OpenSpec.upto filesArmSpec)) filesArmUptoCard
end Rows
end Go.Proofs.YtliiihocjdoamaaDoor
