/-
  DERIVED. GIVEN WITH THE SEED: THE CARDS: each row of YtdcmbcjkdhdohaaDoorRows.lean that lists a variable, with what it lists TIED to the program's text (the seventh form; the later family's looks); each row that meets fmt, with fmt's text TOLD by the authors' own Lean function (tested against real Go, not proved from fmt's source: count such statements apart). THE CARD IS WHAT COUNTS. Prove the row's statement (the work); the ties are given (YtdcmbcjkdhdohaaDoorTie.lean); close each card by the builder's one call (the guide's Derived/Test/ToyasCard.lean, 'card_holds'). Laid BY PROGRAM, IN A SANDBOX (cutbox-door.mjs). By AI agents, Wed Nov 11 2026. No macro, syntax, notation, axiom, sorry.
-/
import Derived.Test.YtdcmbcjkdhdohaaDoorRows
import GoSem.ClaimSeven
namespace Go.Proofs.YtdcmbcjkdhdohaaDoor
namespace Rows

/-- THE TIED CARD OF 'pleachlaw03.SealOpens'. -/
def sealOpensCard : Claim7 := { stood := { row := sealOpensRow, standIns := [], harness := (true, "346f0ea1f647378ae2567edf277a7397919547558d9ee44dcb90de3f4228e29f"), looks := true }, kinds := [], alts := [], laidByText := true, laidKinds := [.handle], laidTests := true, laidLooks := .later }
def SealOpensCardSaid : Prop := Claim7.holds Tryd.pinned (.plain (OpenSpec.ofChange sealOpensSpec)) sealOpensCard

/-- THE SECOND FORM's CARD OF 'pleachlaw03.SealOpens'. -/
def sealOpensUptoCard : Claim7 := { stood := { row := sealOpensUptoRow, standIns := [], harness := (true, "346f0ea1f647378ae2567edf277a7397919547558d9ee44dcb90de3f4228e29f"), looks := true }, kinds := [], alts := [], laidByText := true, laidKinds := [.handle], laidTests := true, laidLooks := .later }
def SealOpensUptoCardSaid : Prop := Claim7.holds Tryd.pinned (.plain (OpenSpec.upto sealOpensSpec)) sealOpensUptoCard
end Rows
end Go.Proofs.YtdcmbcjkdhdohaaDoor
