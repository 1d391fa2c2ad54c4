/-
  DERIVED. GIVEN WITH THE SEED: THE CARDS: each row of YtijecfmblddanaaDoorRows.lean that lists a variable, with what it lists TIED to the program's text (the seventh form; the later family's looks); each row that meets fmt, with fmt's text TOLD by the authors' own Lean function (tested against real Go, not proved from fmt's source: count such statements apart). THE CARD IS WHAT COUNTS. Prove the row's statement (the work); the ties are given (YtijecfmblddanaaDoorTie.lean); close each card by the builder's one call (the guide's Derived/Test/ToyasCard.lean, 'card_holds'). Laid BY PROGRAM, IN A SANDBOX (cutbox-door.mjs). By AI agents, Wed Nov 11 2026. No macro, syntax, notation, axiom, sorry.
-/
import Derived.Test.YtijecfmblddanaaDoorRows
import GoSem.ClaimSeven
namespace Go.Proofs.YtijecfmblddanaaDoor
namespace Rows

/-- THE TIED CARD OF 'parterrelaw07.TokenAny'. -/
def tokenAnyCard : Claim7 := { stood := { row := tokenAnyRow, standIns := [], harness := (true, "00d23f8a4e1b53da158bb9cb1288cabda8b208a93e9be3f0ae07be5235e14537"), looks := true }, kinds := [], alts := [], laidByText := true, laidKinds := [.data, .pinned], laidTests := true, laidLooks := .later }
def TokenAnyCardSaid : Prop := Claim7.holds Tryd.pinned (.plain (OpenSpec.ofChange tokenAnySpec)) tokenAnyCard

/-- THE TIED CARD OF 'parterrelaw07.TokenSmall'. -/
def tokenSmallCard : Claim7 := { stood := { row := tokenSmallRow, standIns := [], harness := (true, "00d23f8a4e1b53da158bb9cb1288cabda8b208a93e9be3f0ae07be5235e14537"), looks := true }, kinds := [], alts := [], laidByText := true, laidKinds := [.data, .pinned], laidTests := true, laidLooks := .later }
def TokenSmallCardSaid : Prop := Claim7.holds Tryd.pinned (.plain (OpenSpec.ofChange tokenSmallSpec)) tokenSmallCard

/-- THE TIED CARD OF 'parterrelaw07.TokenBack'. -/
def tokenBackCard : Claim7 := { stood := { row := tokenBackRow, standIns := [], harness := (true, "00d23f8a4e1b53da158bb9cb1288cabda8b208a93e9be3f0ae07be5235e14537"), looks := true }, kinds := [], alts := [], laidByText := true, laidKinds := [.data, .pinned], laidTests := true, laidLooks := .later }
def TokenBackCardSaid : Prop := Claim7.holds Tryd.pinned (.plain (OpenSpec.ofChange tokenBackSpec)) tokenBackCard

/-- THE TIED CARD OF 'parterrelaw07.TokenParts'. -/
def tokenPartsCard : Claim7 := { stood := { row := tokenPartsRow, standIns := [], harness := (true, "00d23f8a4e1b53da158bb9cb1288cabda8b208a93e9be3f0ae07be5235e14537"), looks := true }, kinds := [], alts := [], laidByText := true, laidKinds := [.data, .pinned], laidTests := true, laidLooks := .later }
def TokenPartsCardSaid : Prop := Claim7.holds Tryd.pinned (.plain (OpenSpec.ofChange tokenPartsSpec)) tokenPartsCard

/-- THE TIED CARD OF 'parterrelaw08.FormulaAny'. -/
def formulaAnyCard : Claim7 := { stood := { row := formulaAnyRow, standIns := [], harness := (true, "00d23f8a4e1b53da158bb9cb1288cabda8b208a93e9be3f0ae07be5235e14537"), looks := true }, kinds := [], alts := [], laidByText := true, laidKinds := [.data, .pinned], laidTests := true, laidLooks := .later }
def FormulaAnyCardSaid : Prop := Claim7.holds Tryd.pinned (.plain (OpenSpec.ofChange formulaAnySpec)) formulaAnyCard

/-- THE TIED CARD OF 'parterrelaw08.FormulaMade'. -/
def formulaMadeCard : Claim7 := { stood := { row := formulaMadeRow, standIns := [], harness := (true, "00d23f8a4e1b53da158bb9cb1288cabda8b208a93e9be3f0ae07be5235e14537"), looks := true }, kinds := [], alts := [], laidByText := true, laidKinds := [.data, .pinned], laidTests := true, laidLooks := .later }
def FormulaMadeCardSaid : Prop := Claim7.holds Tryd.pinned (.plain (OpenSpec.ofChange formulaMadeSpec)) formulaMadeCard

/-- THE TIED CARD OF 'parterrelaw08.FormulaDeep'. -/
def formulaDeepCard : Claim7 := { stood := { row := formulaDeepRow, standIns := [], harness := (true, "00d23f8a4e1b53da158bb9cb1288cabda8b208a93e9be3f0ae07be5235e14537"), looks := true }, kinds := [], alts := [], laidByText := true, laidKinds := [.data, .pinned], laidTests := true, laidLooks := .later }
def FormulaDeepCardSaid : Prop := Claim7.holds Tryd.pinned (.plain (OpenSpec.ofChange formulaDeepSpec)) formulaDeepCard

/-- THE TIED CARD OF 'parterrelaw08.FormulaApart'. -/
def formulaApartCard : Claim7 := { stood := { row := formulaApartRow, standIns := [], harness := (true, "00d23f8a4e1b53da158bb9cb1288cabda8b208a93e9be3f0ae07be5235e14537"), looks := true }, kinds := [], alts := [], laidByText := true, laidKinds := [.data, .pinned], laidTests := true, laidLooks := .later }
def FormulaApartCardSaid : Prop := Claim7.holds Tryd.pinned (.plain (OpenSpec.ofChange formulaApartSpec)) formulaApartCard

/-- THE TIED CARD OF 'parterrelaw08.FormulaSize'. -/
def formulaSizeCard : Claim7 := { stood := { row := formulaSizeRow, standIns := [], harness := (true, "00d23f8a4e1b53da158bb9cb1288cabda8b208a93e9be3f0ae07be5235e14537"), looks := true }, kinds := [], alts := [], laidByText := true, laidKinds := [.data, .pinned], laidTests := true, laidLooks := .later }
def FormulaSizeCardSaid : Prop := Claim7.holds Tryd.pinned (.plain (OpenSpec.ofChange formulaSizeSpec)) formulaSizeCard

/-- THE TIED CARD OF 'parterrelaw09.ParseSmall'. -/
def parseSmallCard : Claim7 := { stood := { row := parseSmallRow, standIns := [], harness := (true, "00d23f8a4e1b53da158bb9cb1288cabda8b208a93e9be3f0ae07be5235e14537"), looks := true }, kinds := [], alts := [], laidByText := true, laidKinds := [.data, .pinned], laidTests := true, laidLooks := .later }
def ParseSmallCardSaid : Prop := Claim7.holds Tryd.pinned (.plain (OpenSpec.ofChange parseSmallSpec)) parseSmallCard

/-- THE TIED CARD OF 'parterrelaw09.ParseBack'. -/
def parseBackCard : Claim7 := { stood := { row := parseBackRow, standIns := [], harness := (true, "00d23f8a4e1b53da158bb9cb1288cabda8b208a93e9be3f0ae07be5235e14537"), looks := true }, kinds := [], alts := [], laidByText := true, laidKinds := [.data, .pinned], laidTests := true, laidLooks := .later }
def ParseBackCardSaid : Prop := Claim7.holds Tryd.pinned (.plain (OpenSpec.ofChange parseBackSpec)) parseBackCard

/-- THE TIED CARD OF 'parterrelaw09.ParseBlanks'. -/
def parseBlanksCard : Claim7 := { stood := { row := parseBlanksRow, standIns := [], harness := (true, "00d23f8a4e1b53da158bb9cb1288cabda8b208a93e9be3f0ae07be5235e14537"), looks := true }, kinds := [], alts := [], laidByText := true, laidKinds := [.data, .pinned], laidTests := true, laidLooks := .later }
def ParseBlanksCardSaid : Prop := Claim7.holds Tryd.pinned (.plain (OpenSpec.ofChange parseBlanksSpec)) parseBlanksCard

/-- THE TIED CARD OF 'parterrelaw09.ParseChains'. -/
def parseChainsCard : Claim7 := { stood := { row := parseChainsRow, standIns := [], harness := (true, "00d23f8a4e1b53da158bb9cb1288cabda8b208a93e9be3f0ae07be5235e14537"), looks := true }, kinds := [], alts := [], laidByText := true, laidKinds := [.data, .pinned], laidTests := true, laidLooks := .later }
def ParseChainsCardSaid : Prop := Claim7.holds Tryd.pinned (.plain (OpenSpec.ofChange parseChainsSpec)) parseChainsCard

/-- THE SECOND FORM's CARD OF 'parterrelaw07.TokenAny'. -/
def tokenAnyUptoCard : Claim7 := { stood := { row := tokenAnyUptoRow, standIns := [], harness := (true, "00d23f8a4e1b53da158bb9cb1288cabda8b208a93e9be3f0ae07be5235e14537"), looks := true }, kinds := [], alts := [], laidByText := true, laidKinds := [.data, .pinned], laidTests := true, laidLooks := .later }
def TokenAnyUptoCardSaid : Prop := Claim7.holds Tryd.pinned (.plain (OpenSpec.upto tokenAnySpec)) tokenAnyUptoCard

/-- THE SECOND FORM's CARD OF 'parterrelaw07.TokenSmall'. -/
def tokenSmallUptoCard : Claim7 := { stood := { row := tokenSmallUptoRow, standIns := [], harness := (true, "00d23f8a4e1b53da158bb9cb1288cabda8b208a93e9be3f0ae07be5235e14537"), looks := true }, kinds := [], alts := [], laidByText := true, laidKinds := [.data, .pinned], laidTests := true, laidLooks := .later }
def TokenSmallUptoCardSaid : Prop := Claim7.holds Tryd.pinned (.plain (OpenSpec.upto tokenSmallSpec)) tokenSmallUptoCard

/-- THE SECOND FORM's CARD OF 'parterrelaw07.TokenBack'. -/
def tokenBackUptoCard : Claim7 := { stood := { row := tokenBackUptoRow, standIns := [], harness := (true, "00d23f8a4e1b53da158bb9cb1288cabda8b208a93e9be3f0ae07be5235e14537"), looks := true }, kinds := [], alts := [], laidByText := true, laidKinds := [.data, .pinned], laidTests := true, laidLooks := .later }
def TokenBackUptoCardSaid : Prop := Claim7.holds Tryd.pinned (.plain (OpenSpec.upto tokenBackSpec)) tokenBackUptoCard

/-- THE SECOND FORM's CARD OF 'parterrelaw07.TokenParts'. -/
def tokenPartsUptoCard : Claim7 := { stood := { row := tokenPartsUptoRow, standIns := [], harness := (true, "00d23f8a4e1b53da158bb9cb1288cabda8b208a93e9be3f0ae07be5235e14537"), looks := true }, kinds := [], alts := [], laidByText := true, laidKinds := [.data, .pinned], laidTests := true, laidLooks := .later }
def TokenPartsUptoCardSaid : Prop := Claim7.holds Tryd.pinned (.plain (OpenSpec.upto tokenPartsSpec)) tokenPartsUptoCard

/-- THE SECOND FORM's CARD OF 'parterrelaw08.FormulaAny'. -/
def formulaAnyUptoCard : Claim7 := { stood := { row := formulaAnyUptoRow, standIns := [], harness := (true, "00d23f8a4e1b53da158bb9cb1288cabda8b208a93e9be3f0ae07be5235e14537"), looks := true }, kinds := [], alts := [], laidByText := true, laidKinds := [.data, .pinned], laidTests := true, laidLooks := .later }
def FormulaAnyUptoCardSaid : Prop := Claim7.holds Tryd.pinned (.plain (OpenSpec.upto formulaAnySpec)) formulaAnyUptoCard

/-- THE SECOND FORM's CARD OF 'parterrelaw08.FormulaMade'. -/
def formulaMadeUptoCard : Claim7 := { stood := { row := formulaMadeUptoRow, standIns := [], harness := (true, "00d23f8a4e1b53da158bb9cb1288cabda8b208a93e9be3f0ae07be5235e14537"), looks := true }, kinds := [], alts := [], laidByText := true, laidKinds := [.data, .pinned], laidTests := true, laidLooks := .later }
def FormulaMadeUptoCardSaid : Prop := Claim7.holds Tryd.pinned (.plain (OpenSpec.upto formulaMadeSpec)) formulaMadeUptoCard

/-- THE SECOND FORM's CARD OF 'parterrelaw08.FormulaDeep'. -/
def formulaDeepUptoCard : Claim7 := { stood := { row := formulaDeepUptoRow, standIns := [], harness := (true, "00d23f8a4e1b53da158bb9cb1288cabda8b208a93e9be3f0ae07be5235e14537"), looks := true }, kinds := [], alts := [], laidByText := true, laidKinds := [.data, .pinned], laidTests := true, laidLooks := .later }
def FormulaDeepUptoCardSaid : Prop := Claim7.holds Tryd.pinned (.plain (OpenSpec.upto formulaDeepSpec)) formulaDeepUptoCard

/-- THE SECOND FORM's CARD OF 'parterrelaw08.FormulaApart'. -/
def formulaApartUptoCard : Claim7 := { stood := { row := formulaApartUptoRow, standIns := [], harness := (true, "00d23f8a4e1b53da158bb9cb1288cabda8b208a93e9be3f0ae07be5235e14537"), looks := true }, kinds := [], alts := [], laidByText := true, laidKinds := [.data, .pinned], laidTests := true, laidLooks := .later }
def FormulaApartUptoCardSaid : Prop := Claim7.holds Tryd.pinned (.plain (OpenSpec.upto formulaApartSpec)) formulaApartUptoCard

/-- THE SECOND FORM's CARD OF 'parterrelaw08.FormulaSize'. -/
def formulaSizeUptoCard : Claim7 := { stood := { row := formulaSizeUptoRow, standIns := [], harness := (true, "00d23f8a4e1b53da158bb9cb1288cabda8b208a93e9be3f0ae07be5235e14537"), looks := true }, kinds := [], alts := [], laidByText := true, laidKinds := [.data, .pinned], laidTests := true, laidLooks := .later }
def FormulaSizeUptoCardSaid : Prop := Claim7.holds Tryd.pinned (.plain (OpenSpec.upto formulaSizeSpec)) formulaSizeUptoCard

/-- THE SECOND FORM's CARD OF 'parterrelaw09.ParseSmall'. -/
def parseSmallUptoCard : Claim7 := { stood := { row := parseSmallUptoRow, standIns := [], harness := (true, "00d23f8a4e1b53da158bb9cb1288cabda8b208a93e9be3f0ae07be5235e14537"), looks := true }, kinds := [], alts := [], laidByText := true, laidKinds := [.data, .pinned], laidTests := true, laidLooks := .later }
def ParseSmallUptoCardSaid : Prop := Claim7.holds Tryd.pinned (.plain (OpenSpec.upto parseSmallSpec)) parseSmallUptoCard

/-- THE SECOND FORM's CARD OF 'parterrelaw09.ParseBack'. -/
def parseBackUptoCard : Claim7 := { stood := { row := parseBackUptoRow, standIns := [], harness := (true, "00d23f8a4e1b53da158bb9cb1288cabda8b208a93e9be3f0ae07be5235e14537"), looks := true }, kinds := [], alts := [], laidByText := true, laidKinds := [.data, .pinned], laidTests := true, laidLooks := .later }
def ParseBackUptoCardSaid : Prop := Claim7.holds Tryd.pinned (.plain (OpenSpec.upto parseBackSpec)) parseBackUptoCard

/-- THE SECOND FORM's CARD OF 'parterrelaw09.ParseBlanks'. -/
def parseBlanksUptoCard : Claim7 := { stood := { row := parseBlanksUptoRow, standIns := [], harness := (true, "00d23f8a4e1b53da158bb9cb1288cabda8b208a93e9be3f0ae07be5235e14537"), looks := true }, kinds := [], alts := [], laidByText := true, laidKinds := [.data, .pinned], laidTests := true, laidLooks := .later }
def ParseBlanksUptoCardSaid : Prop := Claim7.holds Tryd.pinned (.plain (OpenSpec.upto parseBlanksSpec)) parseBlanksUptoCard

/-- THE SECOND FORM's CARD OF 'parterrelaw09.ParseChains'. -/
def parseChainsUptoCard : Claim7 := { stood := { row := parseChainsUptoRow, standIns := [], harness := (true, "00d23f8a4e1b53da158bb9cb1288cabda8b208a93e9be3f0ae07be5235e14537"), looks := true }, kinds := [], alts := [], laidByText := true, laidKinds := [.data, .pinned], laidTests := true, laidLooks := .later }
def ParseChainsUptoCardSaid : Prop := Claim7.holds Tryd.pinned (.plain (OpenSpec.upto parseChainsSpec)) parseChainsUptoCard
end Rows
end Go.Proofs.YtijecfmblddanaaDoor
