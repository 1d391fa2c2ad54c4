/-
  DERIVED. GIVEN WITH THE SEED: THE CARDS: each row of YtijecfmblddanaaGreatDoorRows.lean that lists a variable, with what it lists TIED to the program's text (the seventh form; the later family's looks); each row that meets fmt, with fmt's text TOLD by the authors' own Lean function (tested against real Go, not proved from fmt's source: count such statements apart). THE CARD IS WHAT COUNTS. Prove the row's statement (the work); the ties are given (YtijecfmblddanaaGreatDoorTie.lean); close each card by the builder's one call (the guide's Derived/Test/ToyasCard.lean, 'card_holds'). Laid BY PROGRAM, IN A SANDBOX (cutbox-door.mjs). By AI agents, Wed Nov 11 2026. No macro, syntax, notation, axiom, sorry.
-/
import Derived.Test.YtijecfmblddanaaGreatDoorRows
import GoSem.ClaimSeven
namespace Go.Proofs.YtijecfmblddanaaGreatDoor
namespace Rows

/-- THE TIED CARD OF 'parterrelaw09.ParseMade'. -/
def parseMadeCard : Claim7 := { stood := { row := parseMadeRow, standIns := [], harness := (true, "6019cbaf91782f81bcfcf3f9f3f632fe9a968691a61ac633c4f7939af115f7af"), looks := true }, kinds := [], alts := [], laidByText := true, laidKinds := [.data, .pinned], laidTests := true, laidLooks := .later }
def ParseMadeCardSaid : Prop := Claim7.holds Tryz.pinned (.plain (OpenSpec.ofChange parseMadeSpec)) parseMadeCard

/-- THE SECOND FORM's CARD OF 'parterrelaw09.ParseMade'. -/
def parseMadeUptoCard : Claim7 := { stood := { row := parseMadeUptoRow, standIns := [], harness := (true, "6019cbaf91782f81bcfcf3f9f3f632fe9a968691a61ac633c4f7939af115f7af"), looks := true }, kinds := [], alts := [], laidByText := true, laidKinds := [.data, .pinned], laidTests := true, laidLooks := .later }
def ParseMadeUptoCardSaid : Prop := Claim7.holds Tryz.pinned (.plain (OpenSpec.upto parseMadeSpec)) parseMadeUptoCard
end Rows
end Go.Proofs.YtijecfmblddanaaGreatDoor
