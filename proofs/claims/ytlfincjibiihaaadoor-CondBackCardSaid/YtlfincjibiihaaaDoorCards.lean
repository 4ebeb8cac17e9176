/-
  DERIVED. GIVEN WITH THE SEED: THE CARDS: each row of YtlfincjibiihaaaDoorRows.lean that lists a variable, with what it lists TIED to the program's text (the seventh form; the later family's looks); each row that meets fmt, with fmt's text TOLD by the authors' own Lean function (tested against real Go, not proved from fmt's source: count such statements apart). THE CARD IS WHAT COUNTS. Prove the row's statement (the work); the ties are given (YtlfincjibiihaaaDoorTie.lean); close each card by the builder's one call (the guide's Derived/Test/ToyasCard.lean, 'card_holds'). Laid BY PROGRAM, IN A SANDBOX (cutbox-door.mjs). By AI agents, Wed Nov 11 2026. No macro, syntax, notation, axiom, sorry.
-/
import Derived.Test.YtlfincjibiihaaaDoorRows
import GoSem.ClaimSeven
namespace Go.Proofs.YtlfincjibiihaaaDoor
namespace Rows

/-- THE TIED CARD OF 'bayoulaw04.CondEither'. -/
def condEitherCard : Claim7 := { stood := { row := condEitherRow, standIns := [], harness := (true, "ee778519b9a3556ab26cb4b1a00ee2d634fc14d26379b4494e5fb673a2c0ac9a"), looks := true }, kinds := [], alts := [], laidByText := true, laidKinds := [.handle, .data], laidTests := true, laidLooks := .later }
def CondEitherCardSaid : Prop := Claim7.holds Tryd.pinned (.plain (OpenSpec.ofChange condEitherSpec)) condEitherCard

/-- THE TIED CARD OF 'bayoulaw04.CondAll'. -/
def condAllCard : Claim7 := { stood := { row := condAllRow, standIns := [], harness := (true, "ee778519b9a3556ab26cb4b1a00ee2d634fc14d26379b4494e5fb673a2c0ac9a"), looks := true }, kinds := [], alts := [], laidByText := true, laidKinds := [.handle, .data], laidTests := true, laidLooks := .later }
def CondAllCardSaid : Prop := Claim7.holds Tryd.pinned (.plain (OpenSpec.ofChange condAllSpec)) condAllCard

/-- THE TIED CARD OF 'bayoulaw05.TxChecks'. -/
def txChecksCard : Claim7 := { stood := { row := txChecksRow, standIns := [], harness := (true, "ee778519b9a3556ab26cb4b1a00ee2d634fc14d26379b4494e5fb673a2c0ac9a"), looks := true }, kinds := [], alts := [], laidByText := true, laidKinds := [.handle, .data], laidTests := true, laidLooks := .later }
def TxChecksCardSaid : Prop := Claim7.holds Tryd.pinned (.plain (OpenSpec.ofChange txChecksSpec)) txChecksCard

/-- THE TIED CARD OF 'bayoulaw05.TxTotals'. -/
def txTotalsCard : Claim7 := { stood := { row := txTotalsRow, standIns := [], harness := (true, "ee778519b9a3556ab26cb4b1a00ee2d634fc14d26379b4494e5fb673a2c0ac9a"), looks := true }, kinds := [], alts := [], laidByText := true, laidKinds := [.handle, .data], laidTests := true, laidLooks := .later }
def TxTotalsCardSaid : Prop := Claim7.holds Tryd.pinned (.plain (OpenSpec.ofChange txTotalsSpec)) txTotalsCard

/-- THE TIED CARD OF 'bayoulaw05.TxSecrets'. -/
def txSecretsCard : Claim7 := { stood := { row := txSecretsRow, standIns := [], harness := (true, "ee778519b9a3556ab26cb4b1a00ee2d634fc14d26379b4494e5fb673a2c0ac9a"), looks := true }, kinds := [], alts := [], laidByText := true, laidKinds := [.handle, .data], laidTests := true, laidLooks := .later }
def TxSecretsCardSaid : Prop := Claim7.holds Tryd.pinned (.plain (OpenSpec.ofChange txSecretsSpec)) txSecretsCard

/-- THE TIED CARD OF 'bayoulaw05.TxOrder'. -/
def txOrderCard : Claim7 := { stood := { row := txOrderRow, standIns := [], harness := (true, "ee778519b9a3556ab26cb4b1a00ee2d634fc14d26379b4494e5fb673a2c0ac9a"), looks := true }, kinds := [], alts := [], laidByText := true, laidKinds := [.handle, .data], laidTests := true, laidLooks := .later }
def TxOrderCardSaid : Prop := Claim7.holds Tryd.pinned (.plain (OpenSpec.ofChange txOrderSpec)) txOrderCard

/-- THE TIED CARD OF 'bayoulaw04.CondBack'. -/
def condBackCard : Claim7 := { stood := { row := condBackRow, standIns := [], harness := (true, "ee778519b9a3556ab26cb4b1a00ee2d634fc14d26379b4494e5fb673a2c0ac9a"), looks := true }, kinds := [], alts := [], laidByText := true, laidKinds := [.handle, .data], laidTests := true, laidLooks := .later }
def CondBackCardSaid : Prop := Claim7.holds Tryd.pinned (.plain (OpenSpec.ofChange condBackSpec)) condBackCard

/-- THE SECOND FORM's CARD OF 'bayoulaw04.CondEither'. -/
def condEitherUptoCard : Claim7 := { stood := { row := condEitherUptoRow, standIns := [], harness := (true, "ee778519b9a3556ab26cb4b1a00ee2d634fc14d26379b4494e5fb673a2c0ac9a"), looks := true }, kinds := [], alts := [], laidByText := true, laidKinds := [.handle, .data], laidTests := true, laidLooks := .later }
def CondEitherUptoCardSaid : Prop := Claim7.holds Tryd.pinned (.plain (OpenSpec.upto condEitherSpec)) condEitherUptoCard

/-- THE SECOND FORM's CARD OF 'bayoulaw04.CondAll'. -/
def condAllUptoCard : Claim7 := { stood := { row := condAllUptoRow, standIns := [], harness := (true, "ee778519b9a3556ab26cb4b1a00ee2d634fc14d26379b4494e5fb673a2c0ac9a"), looks := true }, kinds := [], alts := [], laidByText := true, laidKinds := [.handle, .data], laidTests := true, laidLooks := .later }
def CondAllUptoCardSaid : Prop := Claim7.holds Tryd.pinned (.plain (OpenSpec.upto condAllSpec)) condAllUptoCard

/-- THE SECOND FORM's CARD OF 'bayoulaw05.TxChecks'. -/
def txChecksUptoCard : Claim7 := { stood := { row := txChecksUptoRow, standIns := [], harness := (true, "ee778519b9a3556ab26cb4b1a00ee2d634fc14d26379b4494e5fb673a2c0ac9a"), looks := true }, kinds := [], alts := [], laidByText := true, laidKinds := [.handle, .data], laidTests := true, laidLooks := .later }
def TxChecksUptoCardSaid : Prop := Claim7.holds Tryd.pinned (.plain (OpenSpec.upto txChecksSpec)) txChecksUptoCard

/-- THE SECOND FORM's CARD OF 'bayoulaw05.TxTotals'. -/
def txTotalsUptoCard : Claim7 := { stood := { row := txTotalsUptoRow, standIns := [], harness := (true, "ee778519b9a3556ab26cb4b1a00ee2d634fc14d26379b4494e5fb673a2c0ac9a"), looks := true }, kinds := [], alts := [], laidByText := true, laidKinds := [.handle, .data], laidTests := true, laidLooks := .later }
def TxTotalsUptoCardSaid : Prop := Claim7.holds Tryd.pinned (.plain (OpenSpec.upto txTotalsSpec)) txTotalsUptoCard

/-- THE SECOND FORM's CARD OF 'bayoulaw05.TxSecrets'. -/
def txSecretsUptoCard : Claim7 := { stood := { row := txSecretsUptoRow, standIns := [], harness := (true, "ee778519b9a3556ab26cb4b1a00ee2d634fc14d26379b4494e5fb673a2c0ac9a"), looks := true }, kinds := [], alts := [], laidByText := true, laidKinds := [.handle, .data], laidTests := true, laidLooks := .later }
def TxSecretsUptoCardSaid : Prop := Claim7.holds Tryd.pinned (.plain (OpenSpec.upto txSecretsSpec)) txSecretsUptoCard

/-- THE SECOND FORM's CARD OF 'bayoulaw05.TxOrder'. -/
def txOrderUptoCard : Claim7 := { stood := { row := txOrderUptoRow, standIns := [], harness := (true, "ee778519b9a3556ab26cb4b1a00ee2d634fc14d26379b4494e5fb673a2c0ac9a"), looks := true }, kinds := [], alts := [], laidByText := true, laidKinds := [.handle, .data], laidTests := true, laidLooks := .later }
def TxOrderUptoCardSaid : Prop := Claim7.holds Tryd.pinned (.plain (OpenSpec.upto txOrderSpec)) txOrderUptoCard

/-- THE SECOND FORM's CARD OF 'bayoulaw04.CondBack'. -/
def condBackUptoCard : Claim7 := { stood := { row := condBackUptoRow, standIns := [], harness := (true, "ee778519b9a3556ab26cb4b1a00ee2d634fc14d26379b4494e5fb673a2c0ac9a"), looks := true }, kinds := [], alts := [], laidByText := true, laidKinds := [.handle, .data], laidTests := true, laidLooks := .later }
def CondBackUptoCardSaid : Prop := Claim7.holds Tryd.pinned (.plain (OpenSpec.upto condBackSpec)) condBackUptoCard
end Rows
end Go.Proofs.YtlfincjibiihaaaDoor
