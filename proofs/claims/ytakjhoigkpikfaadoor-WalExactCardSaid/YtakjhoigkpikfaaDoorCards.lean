/-
  DERIVED. GIVEN WITH THE SEED: THE CARDS: each row of YtakjhoigkpikfaaDoorRows.lean that lists a variable, with what it lists TIED to the program's text (the seventh form; the later family's looks); each row that meets fmt, with fmt's text TOLD by the authors' own Lean function (tested against real Go, not proved from fmt's source: count such statements apart). THE CARD IS WHAT COUNTS. Prove the row's statement (the work); the ties are given (YtakjhoigkpikfaaDoorTie.lean); close each card by the builder's one call (the guide's Derived/Test/ToyasCard.lean, 'card_holds'). Laid BY PROGRAM, IN A SANDBOX (cutbox-door.mjs). By AI agents, Wed Nov 11 2026. No macro, syntax, notation, axiom, sorry.
-/
import Derived.Test.YtakjhoigkpikfaaDoorRows
import GoSem.ClaimSeven
namespace Go.Proofs.YtakjhoigkpikfaaDoor
namespace Rows

/-- THE TIED CARD OF 'tenancylaw07.WalScans'. -/
def walScansCard : Claim7 := { stood := { row := walScansRow, standIns := [], harness := (true, "e196efa4b8cba6190d979079038d64c2793f944f56fb5a48bde14638a53491c7"), looks := false }, kinds := [], alts := [], laidByText := true, laidKinds := [.data, .pinned], laidTests := true, laidLooks := .later }
def WalScansCardSaid : Prop := Claim7.holds Tryd.pinned (.plain (OpenSpec.ofChange walScansSpec)) walScansCard

/-- THE TIED CARD OF 'tenancylaw07.WalSpoilt'. -/
def walSpoiltCard : Claim7 := { stood := { row := walSpoiltRow, standIns := [], harness := (true, "e196efa4b8cba6190d979079038d64c2793f944f56fb5a48bde14638a53491c7"), looks := false }, kinds := [], alts := [], laidByText := true, laidKinds := [.data, .pinned], laidTests := true, laidLooks := .later }
def WalSpoiltCardSaid : Prop := Claim7.holds Tryd.pinned (.plain (OpenSpec.ofChange walSpoiltSpec)) walSpoiltCard

/-- THE TIED CARD OF 'tenancylaw07.WalCrash'. -/
def walCrashCard : Claim7 := { stood := { row := walCrashRow, standIns := [], harness := (true, "e196efa4b8cba6190d979079038d64c2793f944f56fb5a48bde14638a53491c7"), looks := false }, kinds := [], alts := [], laidByText := true, laidKinds := [.data, .pinned], laidTests := true, laidLooks := .later }
def WalCrashCardSaid : Prop := Claim7.holds Tryd.pinned (.plain (OpenSpec.ofChange walCrashSpec)) walCrashCard

/-- THE TIED CARD OF 'tenancylaw07.WalExact'. -/
def walExactCard : Claim7 := { stood := { row := walExactRow, standIns := [], harness := (true, "e196efa4b8cba6190d979079038d64c2793f944f56fb5a48bde14638a53491c7"), looks := false }, kinds := [], alts := [], laidByText := true, laidKinds := [.data, .pinned], laidTests := true, laidLooks := .later }
def WalExactCardSaid : Prop := Claim7.holds Tryd.pinned (.plain (OpenSpec.ofChange walExactSpec)) walExactCard

/-- THE SECOND FORM's CARD OF 'tenancylaw07.WalScans'. -/
def walScansUptoCard : Claim7 := { stood := { row := walScansUptoRow, standIns := [], harness := (true, "e196efa4b8cba6190d979079038d64c2793f944f56fb5a48bde14638a53491c7"), looks := false }, kinds := [], alts := [], laidByText := true, laidKinds := [.data, .pinned], laidTests := true, laidLooks := .later }
def WalScansUptoCardSaid : Prop := Claim7.holds Tryd.pinned (.plain (OpenSpec.upto walScansSpec)) walScansUptoCard

/-- THE SECOND FORM's CARD OF 'tenancylaw07.WalSpoilt'. -/
def walSpoiltUptoCard : Claim7 := { stood := { row := walSpoiltUptoRow, standIns := [], harness := (true, "e196efa4b8cba6190d979079038d64c2793f944f56fb5a48bde14638a53491c7"), looks := false }, kinds := [], alts := [], laidByText := true, laidKinds := [.data, .pinned], laidTests := true, laidLooks := .later }
def WalSpoiltUptoCardSaid : Prop := Claim7.holds Tryd.pinned (.plain (OpenSpec.upto walSpoiltSpec)) walSpoiltUptoCard

/-- THE SECOND FORM's CARD OF 'tenancylaw07.WalCrash'. -/
def walCrashUptoCard : Claim7 := { stood := { row := walCrashUptoRow, standIns := [], harness := (true, "e196efa4b8cba6190d979079038d64c2793f944f56fb5a48bde14638a53491c7"), looks := false }, kinds := [], alts := [], laidByText := true, laidKinds := [.data, .pinned], laidTests := true, laidLooks := .later }
def WalCrashUptoCardSaid : Prop := Claim7.holds Tryd.pinned (.plain (OpenSpec.upto walCrashSpec)) walCrashUptoCard

/-- THE SECOND FORM's CARD OF 'tenancylaw07.WalExact'. -/
def walExactUptoCard : Claim7 := { stood := { row := walExactUptoRow, standIns := [], harness := (true, "e196efa4b8cba6190d979079038d64c2793f944f56fb5a48bde14638a53491c7"), looks := false }, kinds := [], alts := [], laidByText := true, laidKinds := [.data, .pinned], laidTests := true, laidLooks := .later }
def WalExactUptoCardSaid : Prop := Claim7.holds Tryd.pinned (.plain (OpenSpec.upto walExactSpec)) walExactUptoCard
end Rows
end Go.Proofs.YtakjhoigkpikfaaDoor
