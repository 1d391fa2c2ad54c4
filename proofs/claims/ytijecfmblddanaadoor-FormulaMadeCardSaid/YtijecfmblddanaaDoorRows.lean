/-
  NARROWER THAN 'FOR EVERY INPUT', by the rows' own cells (each row's printed sentence says how): TokenAny: laid · TokenSmall: laid · TokenBack: laid · TokenParts: laid · FormulaAny: loops, laid · FormulaMade: laid · FormulaDeep: laid · FormulaApart: laid · FormulaSize: laid · ParseSmall: laid · ParseBack: laid · ParseBlanks: laid · ParseChains: laid.
  DERIVED. THE GIVEN ROWS OF THIS SEAT. 13 by the template 'for every input the law returns true; each argument reads behind the call as it read before'; 0 by the template 'total and deterministic' (their statements: YtijecfmblddanaaDoorTotals.lean).
  GIVEN WITH THE SEED: the statements are not yours to turn. If you find one false, say at which input.
  Laid BY PROGRAM, IN A SANDBOX (cutbox-rows.mjs): the forced cells as the released guide's own fill.sh prints them over the translation 14a4690b459bd17c… (all of the seat's roots in one cut). By AI agents, Wed Nov 11 2026. No macro, syntax, notation, axiom, sorry.
-/
import Derived.Test.YtijecfmblddanaaDoorChecked
import GoSem.PinnedTables
import GoSem.Claim
import GoSem.ClaimJoined
import GoSem.ClaimMapViews
import Derived.JoinedTies
import Derived.KernelRfl
namespace Go.Proofs.YtijecfmblddanaaDoor
/- THE CELL 'sum', in the pinned program and in every row, IS THE sha256 OF THE DUMP (.gsa) THAT YtijecfmblddanaaDoorProg.lean LOADS. Nothing in Lean hashes anything: it is a label: what it is worth is what the hold of that sum in a sandbox is worth. -/
noncomputable def Tryd.pinned : Pinned := { name := "ytijecfmblddanaadoor", sum := "14a4690b459bd17c45430623062afbb8d78bbd470066b078217ca53b42e55a62", checked := Tryd.checked }
namespace Rows
def none {H : Type} : Left H := { results := [], args := [] }

/- WHAT THE LISTED PACKAGE-LEVEL VARIABLES READ AS WHEN THE CALL BEGINS. Each datum BY PROGRAM (the guide's laid-datum.mjs) off the statement by which the dump's own 'gosem.cut.vars' lays the variable. In a bare row this is a premise. The card (YtijecfmblddanaaDoorCards.lean) ties it to the program's text. -/
def laid_unicode_utf8_acceptRanges {H : Type} : DataW H := .agg [.agg [.lit (.int .u8 128), .lit (.int .u8 191)], .agg [.lit (.int .u8 160), .lit (.int .u8 191)], .agg [.lit (.int .u8 128), .lit (.int .u8 159)], .agg [.lit (.int .u8 144), .lit (.int .u8 191)], .agg [.lit (.int .u8 128), .lit (.int .u8 143)], .agg [.lit (.int .u8 0), .lit (.int .u8 0)], .agg [.lit (.int .u8 0), .lit (.int .u8 0)], .agg [.lit (.int .u8 0), .lit (.int .u8 0)], .agg [.lit (.int .u8 0), .lit (.int .u8 0)], .agg [.lit (.int .u8 0), .lit (.int .u8 0)], .agg [.lit (.int .u8 0), .lit (.int .u8 0)], .agg [.lit (.int .u8 0), .lit (.int .u8 0)], .agg [.lit (.int .u8 0), .lit (.int .u8 0)], .agg [.lit (.int .u8 0), .lit (.int .u8 0)], .agg [.lit (.int .u8 0), .lit (.int .u8 0)], .agg [.lit (.int .u8 0), .lit (.int .u8 0)]]
/-- One of Go's own tables, pinned by name: the form's constant. -/
def laid_unicode_utf8_first : DataW Unit := Go.Pinned.utf8First

/-- 'parterrelaw07.TokenAny': WHATEVER THE INPUT: true; the input reads as it did. -/
def tokenAnySpec : ChangeSpec := { name := "tokenAny", fn := fun _ => fun
  | [d] => { results := [.lit (.bool true)], args := [d] }
  | _ => none }
def tokenAnyRow : OpenClaim := { program := "ytijecfmblddanaadoor", sum := "14a4690b459bd17c45430623062afbb8d78bbd470066b078217ca53b42e55a62", func := "parterre/parterrelaw07.TokenAny", spec := "tokenAny", inPlace := ["internal/bytealg.IndexByteString", "internal/bytealg.IndexString"], unfollowed := true, recurses := true, named := ["unicode/utf8.first", "unicode/utf8.acceptRanges", "internal/bytealg.MaxLen"], apart := false, laid := [("unicode/utf8.acceptRanges", laid_unicode_utf8_acceptRanges), ("unicode/utf8.first", laid_unicode_utf8_first)] }
def TokenAnySaid : Prop := tokenAnyRow.holds Tryd.pinned (OpenSpec.ofChange tokenAnySpec)

/-- ITS FALSE NEIGHBOUR: 'it returns false'. Refute it at one input. -/
def tokenAnyWrong : ChangeSpec := { name := "tokenAny", fn := fun _ => fun
  | [d] => { results := [.lit (.bool false)], args := [d] }
  | _ => none }
def TokenAnyWrongFalsely : Prop := tokenAnyRow.holds Tryd.pinned (OpenSpec.ofChange tokenAnyWrong)

/-- 'parterrelaw07.TokenSmall': WHATEVER THE INPUT: true; the input reads as it did. -/
def tokenSmallSpec : ChangeSpec := { name := "tokenSmall", fn := fun _ => fun
  | [d] => { results := [.lit (.bool true)], args := [d] }
  | _ => none }
def tokenSmallRow : OpenClaim := { program := "ytijecfmblddanaadoor", sum := "14a4690b459bd17c45430623062afbb8d78bbd470066b078217ca53b42e55a62", func := "parterre/parterrelaw07.TokenSmall", spec := "tokenSmall", inPlace := ["internal/bytealg.IndexByteString", "internal/bytealg.IndexString"], unfollowed := true, recurses := true, named := ["unicode/utf8.first", "unicode/utf8.acceptRanges", "internal/bytealg.MaxLen"], apart := false, laid := [("unicode/utf8.acceptRanges", laid_unicode_utf8_acceptRanges), ("unicode/utf8.first", laid_unicode_utf8_first)] }
def TokenSmallSaid : Prop := tokenSmallRow.holds Tryd.pinned (OpenSpec.ofChange tokenSmallSpec)

/-- ITS FALSE NEIGHBOUR: 'it returns false'. Refute it at one input. -/
def tokenSmallWrong : ChangeSpec := { name := "tokenSmall", fn := fun _ => fun
  | [d] => { results := [.lit (.bool false)], args := [d] }
  | _ => none }
def TokenSmallWrongFalsely : Prop := tokenSmallRow.holds Tryd.pinned (OpenSpec.ofChange tokenSmallWrong)

/-- 'parterrelaw07.TokenBack': WHATEVER THE INPUT: true; the input reads as it did. -/
def tokenBackSpec : ChangeSpec := { name := "tokenBack", fn := fun _ => fun
  | [d1, d2, d3] => { results := [.lit (.bool true)], args := [d1, d2, d3] }
  | _ => none }
def tokenBackRow : OpenClaim := { program := "ytijecfmblddanaadoor", sum := "14a4690b459bd17c45430623062afbb8d78bbd470066b078217ca53b42e55a62", func := "parterre/parterrelaw07.TokenBack", spec := "tokenBack", inPlace := ["internal/bytealg.IndexByteString", "internal/bytealg.IndexString"], unfollowed := true, recurses := true, named := ["unicode/utf8.first", "unicode/utf8.acceptRanges", "internal/bytealg.MaxLen"], apart := false, laid := [("unicode/utf8.acceptRanges", laid_unicode_utf8_acceptRanges), ("unicode/utf8.first", laid_unicode_utf8_first)] }
def TokenBackSaid : Prop := tokenBackRow.holds Tryd.pinned (OpenSpec.ofChange tokenBackSpec)

/-- ITS FALSE NEIGHBOUR: 'it returns false'. Refute it at one input. -/
def tokenBackWrong : ChangeSpec := { name := "tokenBack", fn := fun _ => fun
  | [d1, d2, d3] => { results := [.lit (.bool false)], args := [d1, d2, d3] }
  | _ => none }
def TokenBackWrongFalsely : Prop := tokenBackRow.holds Tryd.pinned (OpenSpec.ofChange tokenBackWrong)

/-- 'parterrelaw07.TokenParts': WHATEVER THE INPUT: true; the input reads as it did. -/
def tokenPartsSpec : ChangeSpec := { name := "tokenParts", fn := fun _ => fun
  | [d1, d2] => { results := [.lit (.bool true)], args := [d1, d2] }
  | _ => none }
def tokenPartsRow : OpenClaim := { program := "ytijecfmblddanaadoor", sum := "14a4690b459bd17c45430623062afbb8d78bbd470066b078217ca53b42e55a62", func := "parterre/parterrelaw07.TokenParts", spec := "tokenParts", inPlace := ["internal/bytealg.IndexByteString", "internal/bytealg.IndexString"], unfollowed := true, recurses := true, named := ["unicode/utf8.first", "unicode/utf8.acceptRanges", "internal/bytealg.MaxLen"], apart := false, laid := [("unicode/utf8.acceptRanges", laid_unicode_utf8_acceptRanges), ("unicode/utf8.first", laid_unicode_utf8_first)] }
def TokenPartsSaid : Prop := tokenPartsRow.holds Tryd.pinned (OpenSpec.ofChange tokenPartsSpec)

/-- ITS FALSE NEIGHBOUR: 'it returns false'. Refute it at one input. -/
def tokenPartsWrong : ChangeSpec := { name := "tokenParts", fn := fun _ => fun
  | [d1, d2] => { results := [.lit (.bool false)], args := [d1, d2] }
  | _ => none }
def TokenPartsWrongFalsely : Prop := tokenPartsRow.holds Tryd.pinned (OpenSpec.ofChange tokenPartsWrong)

/-- 'parterrelaw08.FormulaAny': WHATEVER THE INPUT: true; the input reads as it did. -/
def formulaAnySpec : ChangeSpec := { name := "formulaAny", fn := fun _ => fun
  | [d1, d2] => { results := [.lit (.bool true)], args := [d1, d2] }
  | _ => none }
def formulaAnyRow : OpenClaim := { program := "ytijecfmblddanaadoor", sum := "14a4690b459bd17c45430623062afbb8d78bbd470066b078217ca53b42e55a62", func := "parterre/parterrelaw08.FormulaAny", spec := "formulaAny", inPlace := ["internal/bytealg.IndexByteString", "internal/bytealg.IndexString", "internal/abi.NoEscape"], unfollowed := true, recurses := true, named := ["internal/bytealg.MaxLen", "unicode/utf8.first", "unicode/utf8.acceptRanges"], loops := true, apart := false, laid := [("unicode/utf8.acceptRanges", laid_unicode_utf8_acceptRanges), ("unicode/utf8.first", laid_unicode_utf8_first)] }
def FormulaAnySaid : Prop := formulaAnyRow.holds Tryd.pinned (OpenSpec.ofChange formulaAnySpec)

/-- ITS FALSE NEIGHBOUR: 'it returns false'. Refute it at one input. -/
def formulaAnyWrong : ChangeSpec := { name := "formulaAny", fn := fun _ => fun
  | [d1, d2] => { results := [.lit (.bool false)], args := [d1, d2] }
  | _ => none }
def FormulaAnyWrongFalsely : Prop := formulaAnyRow.holds Tryd.pinned (OpenSpec.ofChange formulaAnyWrong)

/-- 'parterrelaw08.FormulaMade': WHATEVER THE INPUT: true; the input reads as it did. -/
def formulaMadeSpec : ChangeSpec := { name := "formulaMade", fn := fun _ => fun
  | [d1, d2, d3, d4, d5] => { results := [.lit (.bool true)], args := [d1, d2, d3, d4, d5] }
  | _ => none }
def formulaMadeRow : OpenClaim := { program := "ytijecfmblddanaadoor", sum := "14a4690b459bd17c45430623062afbb8d78bbd470066b078217ca53b42e55a62", func := "parterre/parterrelaw08.FormulaMade", spec := "formulaMade", inPlace := ["internal/bytealg.IndexByteString", "internal/bytealg.IndexString", "internal/abi.NoEscape"], unfollowed := true, recurses := true, named := ["internal/bytealg.MaxLen", "unicode/utf8.first", "unicode/utf8.acceptRanges"], apart := false, laid := [("unicode/utf8.acceptRanges", laid_unicode_utf8_acceptRanges), ("unicode/utf8.first", laid_unicode_utf8_first)] }
def FormulaMadeSaid : Prop := formulaMadeRow.holds Tryd.pinned (OpenSpec.ofChange formulaMadeSpec)

/-- ITS FALSE NEIGHBOUR: 'it returns false'. Refute it at one input. -/
def formulaMadeWrong : ChangeSpec := { name := "formulaMade", fn := fun _ => fun
  | [d1, d2, d3, d4, d5] => { results := [.lit (.bool false)], args := [d1, d2, d3, d4, d5] }
  | _ => none }
def FormulaMadeWrongFalsely : Prop := formulaMadeRow.holds Tryd.pinned (OpenSpec.ofChange formulaMadeWrong)

/-- 'parterrelaw08.FormulaDeep': WHATEVER THE INPUT: true; the input reads as it did. -/
def formulaDeepSpec : ChangeSpec := { name := "formulaDeep", fn := fun _ => fun
  | [d1, d2, d3] => { results := [.lit (.bool true)], args := [d1, d2, d3] }
  | _ => none }
def formulaDeepRow : OpenClaim := { program := "ytijecfmblddanaadoor", sum := "14a4690b459bd17c45430623062afbb8d78bbd470066b078217ca53b42e55a62", func := "parterre/parterrelaw08.FormulaDeep", spec := "formulaDeep", inPlace := ["internal/bytealg.IndexByteString", "internal/bytealg.IndexString", "internal/abi.NoEscape"], unfollowed := true, recurses := true, named := ["internal/bytealg.MaxLen", "unicode/utf8.first", "unicode/utf8.acceptRanges"], apart := false, laid := [("unicode/utf8.acceptRanges", laid_unicode_utf8_acceptRanges), ("unicode/utf8.first", laid_unicode_utf8_first)] }
def FormulaDeepSaid : Prop := formulaDeepRow.holds Tryd.pinned (OpenSpec.ofChange formulaDeepSpec)

/-- ITS FALSE NEIGHBOUR: 'it returns false'. Refute it at one input. -/
def formulaDeepWrong : ChangeSpec := { name := "formulaDeep", fn := fun _ => fun
  | [d1, d2, d3] => { results := [.lit (.bool false)], args := [d1, d2, d3] }
  | _ => none }
def FormulaDeepWrongFalsely : Prop := formulaDeepRow.holds Tryd.pinned (OpenSpec.ofChange formulaDeepWrong)

/-- 'parterrelaw08.FormulaApart': WHATEVER THE INPUT: true; the input reads as it did. -/
def formulaApartSpec : ChangeSpec := { name := "formulaApart", fn := fun _ => fun
  | [d1, d2] => { results := [.lit (.bool true)], args := [d1, d2] }
  | _ => none }
def formulaApartRow : OpenClaim := { program := "ytijecfmblddanaadoor", sum := "14a4690b459bd17c45430623062afbb8d78bbd470066b078217ca53b42e55a62", func := "parterre/parterrelaw08.FormulaApart", spec := "formulaApart", inPlace := ["internal/bytealg.IndexByteString", "internal/bytealg.IndexString", "internal/abi.NoEscape"], unfollowed := true, recurses := true, named := ["internal/bytealg.MaxLen", "unicode/utf8.first", "unicode/utf8.acceptRanges"], apart := false, laid := [("unicode/utf8.acceptRanges", laid_unicode_utf8_acceptRanges), ("unicode/utf8.first", laid_unicode_utf8_first)] }
def FormulaApartSaid : Prop := formulaApartRow.holds Tryd.pinned (OpenSpec.ofChange formulaApartSpec)

/-- ITS FALSE NEIGHBOUR: 'it returns false'. Refute it at one input. -/
def formulaApartWrong : ChangeSpec := { name := "formulaApart", fn := fun _ => fun
  | [d1, d2] => { results := [.lit (.bool false)], args := [d1, d2] }
  | _ => none }
def FormulaApartWrongFalsely : Prop := formulaApartRow.holds Tryd.pinned (OpenSpec.ofChange formulaApartWrong)

/-- 'parterrelaw08.FormulaSize': WHATEVER THE INPUT: true; the input reads as it did. -/
def formulaSizeSpec : ChangeSpec := { name := "formulaSize", fn := fun _ => fun
  | [d1, d2, d3] => { results := [.lit (.bool true)], args := [d1, d2, d3] }
  | _ => none }
def formulaSizeRow : OpenClaim := { program := "ytijecfmblddanaadoor", sum := "14a4690b459bd17c45430623062afbb8d78bbd470066b078217ca53b42e55a62", func := "parterre/parterrelaw08.FormulaSize", spec := "formulaSize", inPlace := ["internal/bytealg.IndexByteString", "internal/bytealg.IndexString", "internal/abi.NoEscape"], unfollowed := true, recurses := true, named := ["internal/bytealg.MaxLen", "unicode/utf8.first", "unicode/utf8.acceptRanges"], apart := false, laid := [("unicode/utf8.acceptRanges", laid_unicode_utf8_acceptRanges), ("unicode/utf8.first", laid_unicode_utf8_first)] }
def FormulaSizeSaid : Prop := formulaSizeRow.holds Tryd.pinned (OpenSpec.ofChange formulaSizeSpec)

/-- ITS FALSE NEIGHBOUR: 'it returns false'. Refute it at one input. -/
def formulaSizeWrong : ChangeSpec := { name := "formulaSize", fn := fun _ => fun
  | [d1, d2, d3] => { results := [.lit (.bool false)], args := [d1, d2, d3] }
  | _ => none }
def FormulaSizeWrongFalsely : Prop := formulaSizeRow.holds Tryd.pinned (OpenSpec.ofChange formulaSizeWrong)

/-- 'parterrelaw09.ParseSmall': WHATEVER THE INPUT: true; the input reads as it did. -/
def parseSmallSpec : ChangeSpec := { name := "parseSmall", fn := fun _ => fun
  | [d] => { results := [.lit (.bool true)], args := [d] }
  | _ => none }
def parseSmallRow : OpenClaim := { program := "ytijecfmblddanaadoor", sum := "14a4690b459bd17c45430623062afbb8d78bbd470066b078217ca53b42e55a62", func := "parterre/parterrelaw09.ParseSmall", spec := "parseSmall", inPlace := ["internal/bytealg.IndexByteString", "internal/bytealg.IndexString", "internal/abi.NoEscape"], unfollowed := true, recurses := true, named := ["unicode/utf8.first", "unicode/utf8.acceptRanges", "internal/bytealg.MaxLen"], apart := false, laid := [("unicode/utf8.acceptRanges", laid_unicode_utf8_acceptRanges), ("unicode/utf8.first", laid_unicode_utf8_first)] }
def ParseSmallSaid : Prop := parseSmallRow.holds Tryd.pinned (OpenSpec.ofChange parseSmallSpec)

/-- ITS FALSE NEIGHBOUR: 'it returns false'. Refute it at one input. -/
def parseSmallWrong : ChangeSpec := { name := "parseSmall", fn := fun _ => fun
  | [d] => { results := [.lit (.bool false)], args := [d] }
  | _ => none }
def ParseSmallWrongFalsely : Prop := parseSmallRow.holds Tryd.pinned (OpenSpec.ofChange parseSmallWrong)

/-- 'parterrelaw09.ParseBack': WHATEVER THE INPUT: true; the input reads as it did. -/
def parseBackSpec : ChangeSpec := { name := "parseBack", fn := fun _ => fun
  | [d] => { results := [.lit (.bool true)], args := [d] }
  | _ => none }
def parseBackRow : OpenClaim := { program := "ytijecfmblddanaadoor", sum := "14a4690b459bd17c45430623062afbb8d78bbd470066b078217ca53b42e55a62", func := "parterre/parterrelaw09.ParseBack", spec := "parseBack", inPlace := ["internal/bytealg.IndexByteString", "internal/bytealg.IndexString", "internal/abi.NoEscape"], unfollowed := true, recurses := true, named := ["unicode/utf8.first", "unicode/utf8.acceptRanges", "internal/bytealg.MaxLen"], apart := false, laid := [("unicode/utf8.acceptRanges", laid_unicode_utf8_acceptRanges), ("unicode/utf8.first", laid_unicode_utf8_first)] }
def ParseBackSaid : Prop := parseBackRow.holds Tryd.pinned (OpenSpec.ofChange parseBackSpec)

/-- ITS FALSE NEIGHBOUR: 'it returns false'. Refute it at one input. -/
def parseBackWrong : ChangeSpec := { name := "parseBack", fn := fun _ => fun
  | [d] => { results := [.lit (.bool false)], args := [d] }
  | _ => none }
def ParseBackWrongFalsely : Prop := parseBackRow.holds Tryd.pinned (OpenSpec.ofChange parseBackWrong)

/-- 'parterrelaw09.ParseBlanks': WHATEVER THE INPUT: true; the input reads as it did. -/
def parseBlanksSpec : ChangeSpec := { name := "parseBlanks", fn := fun _ => fun
  | [d1, d2, d3] => { results := [.lit (.bool true)], args := [d1, d2, d3] }
  | _ => none }
def parseBlanksRow : OpenClaim := { program := "ytijecfmblddanaadoor", sum := "14a4690b459bd17c45430623062afbb8d78bbd470066b078217ca53b42e55a62", func := "parterre/parterrelaw09.ParseBlanks", spec := "parseBlanks", inPlace := ["internal/bytealg.IndexByteString", "internal/bytealg.IndexString", "internal/abi.NoEscape"], unfollowed := true, recurses := true, named := ["unicode/utf8.first", "unicode/utf8.acceptRanges", "internal/bytealg.MaxLen"], apart := false, laid := [("unicode/utf8.acceptRanges", laid_unicode_utf8_acceptRanges), ("unicode/utf8.first", laid_unicode_utf8_first)] }
def ParseBlanksSaid : Prop := parseBlanksRow.holds Tryd.pinned (OpenSpec.ofChange parseBlanksSpec)

/-- ITS FALSE NEIGHBOUR: 'it returns false'. Refute it at one input. -/
def parseBlanksWrong : ChangeSpec := { name := "parseBlanks", fn := fun _ => fun
  | [d1, d2, d3] => { results := [.lit (.bool false)], args := [d1, d2, d3] }
  | _ => none }
def ParseBlanksWrongFalsely : Prop := parseBlanksRow.holds Tryd.pinned (OpenSpec.ofChange parseBlanksWrong)

/-- 'parterrelaw09.ParseChains': WHATEVER THE INPUT: true; the input reads as it did. -/
def parseChainsSpec : ChangeSpec := { name := "parseChains", fn := fun _ => fun
  | [d] => { results := [.lit (.bool true)], args := [d] }
  | _ => none }
def parseChainsRow : OpenClaim := { program := "ytijecfmblddanaadoor", sum := "14a4690b459bd17c45430623062afbb8d78bbd470066b078217ca53b42e55a62", func := "parterre/parterrelaw09.ParseChains", spec := "parseChains", inPlace := ["internal/bytealg.IndexByteString", "internal/bytealg.IndexString", "internal/abi.NoEscape"], unfollowed := true, recurses := true, named := ["unicode/utf8.first", "unicode/utf8.acceptRanges", "internal/bytealg.MaxLen"], apart := false, laid := [("unicode/utf8.acceptRanges", laid_unicode_utf8_acceptRanges), ("unicode/utf8.first", laid_unicode_utf8_first)] }
def ParseChainsSaid : Prop := parseChainsRow.holds Tryd.pinned (OpenSpec.ofChange parseChainsSpec)

/-- ITS FALSE NEIGHBOUR: 'it returns false'. Refute it at one input. -/
def parseChainsWrong : ChangeSpec := { name := "parseChains", fn := fun _ => fun
  | [d] => { results := [.lit (.bool false)], args := [d] }
  | _ => none }
def ParseChainsWrongFalsely : Prop := parseChainsRow.holds Tryd.pinned (OpenSpec.ofChange parseChainsWrong)

/- THE SECOND FORM. 'bulk': how many values and letters a reading holds, each counted each time it is reached (what is shared counts as often as it is met; a slice's spare places count too). A statement '..UptoSaid' is the law's where the arguments, and the package variables that the reading takes, are together of bulk at most 1048576: NARROWER than '..Said'. Prove '..Said' where nothing that the law and all that it calls make is longer than what came in: it says more and counts as full. Else prove '..UptoSaid'. A law counts once. -/
mutual
def uptoBulk {H : Type} : DataW H → Nat
  | .lit (.string bytes) => bytes.length + 1
  | .lit _ => 1
  | .nil => 1
  | .ptr d => uptoBulk d + 1
  | .slice elems spare => uptoBulkAll elems + uptoBulkAll spare + 1
  | .agg parts => uptoBulkAll parts + 1
  | .iface _ d => uptoBulk d + 1
  | .map entries => uptoBulkEntries entries + 1
  | .held _ => 1
def uptoBulkAll {H : Type} : List (DataW H) → Nat
  | [] => 0
  | d :: r => uptoBulk d + uptoBulkAll r
def uptoBulkEntries {H : Type} : List (Lit × DataW H) → Nat
  | [] => 0
  | x :: r => uptoBulkEntry x + uptoBulkEntries r
def uptoBulkEntry {H : Type} : Lit × DataW H → Nat
  | (.string bytes, d) => bytes.length + uptoBulk d + 1
  | (_, d) => uptoBulk d + 1
 end
def uptoSmall : (H : Type) → List (DataW H) → Bool := fun _ ds => decide (uptoBulkAll ds ≤ 1048576)
def OpenSpec.upto (s : _root_.Go.ChangeSpec) : _root_.Go.OpenSpec := { _root_.Go.OpenSpec.ofChange s with cond := some uptoSmall }

/-- 'parterrelaw07.TokenAny', WHERE WHAT IT READS IS OF BULK AT MOST 1048576: true; the input reads as it did. -/
def tokenAnyUptoRow : OpenClaim := { program := "ytijecfmblddanaadoor", sum := "14a4690b459bd17c45430623062afbb8d78bbd470066b078217ca53b42e55a62", func := "parterre/parterrelaw07.TokenAny", spec := "tokenAny", inPlace := ["internal/bytealg.IndexByteString", "internal/bytealg.IndexString"], unfollowed := true, recurses := true, named := ["unicode/utf8.first", "unicode/utf8.acceptRanges", "internal/bytealg.MaxLen"], apart := false, laid := [("unicode/utf8.acceptRanges", laid_unicode_utf8_acceptRanges), ("unicode/utf8.first", laid_unicode_utf8_first)], narrowed := true }
def TokenAnyUptoSaid : Prop := tokenAnyUptoRow.holds Tryd.pinned (OpenSpec.upto tokenAnySpec)

/-- 'parterrelaw07.TokenSmall', WHERE WHAT IT READS IS OF BULK AT MOST 1048576: true; the input reads as it did. -/
def tokenSmallUptoRow : OpenClaim := { program := "ytijecfmblddanaadoor", sum := "14a4690b459bd17c45430623062afbb8d78bbd470066b078217ca53b42e55a62", func := "parterre/parterrelaw07.TokenSmall", spec := "tokenSmall", inPlace := ["internal/bytealg.IndexByteString", "internal/bytealg.IndexString"], unfollowed := true, recurses := true, named := ["unicode/utf8.first", "unicode/utf8.acceptRanges", "internal/bytealg.MaxLen"], apart := false, laid := [("unicode/utf8.acceptRanges", laid_unicode_utf8_acceptRanges), ("unicode/utf8.first", laid_unicode_utf8_first)], narrowed := true }
def TokenSmallUptoSaid : Prop := tokenSmallUptoRow.holds Tryd.pinned (OpenSpec.upto tokenSmallSpec)

/-- 'parterrelaw07.TokenBack', WHERE WHAT IT READS IS OF BULK AT MOST 1048576: true; the input reads as it did. -/
def tokenBackUptoRow : OpenClaim := { program := "ytijecfmblddanaadoor", sum := "14a4690b459bd17c45430623062afbb8d78bbd470066b078217ca53b42e55a62", func := "parterre/parterrelaw07.TokenBack", spec := "tokenBack", inPlace := ["internal/bytealg.IndexByteString", "internal/bytealg.IndexString"], unfollowed := true, recurses := true, named := ["unicode/utf8.first", "unicode/utf8.acceptRanges", "internal/bytealg.MaxLen"], apart := false, laid := [("unicode/utf8.acceptRanges", laid_unicode_utf8_acceptRanges), ("unicode/utf8.first", laid_unicode_utf8_first)], narrowed := true }
def TokenBackUptoSaid : Prop := tokenBackUptoRow.holds Tryd.pinned (OpenSpec.upto tokenBackSpec)

/-- 'parterrelaw07.TokenParts', WHERE WHAT IT READS IS OF BULK AT MOST 1048576: true; the input reads as it did. -/
def tokenPartsUptoRow : OpenClaim := { program := "ytijecfmblddanaadoor", sum := "14a4690b459bd17c45430623062afbb8d78bbd470066b078217ca53b42e55a62", func := "parterre/parterrelaw07.TokenParts", spec := "tokenParts", inPlace := ["internal/bytealg.IndexByteString", "internal/bytealg.IndexString"], unfollowed := true, recurses := true, named := ["unicode/utf8.first", "unicode/utf8.acceptRanges", "internal/bytealg.MaxLen"], apart := false, laid := [("unicode/utf8.acceptRanges", laid_unicode_utf8_acceptRanges), ("unicode/utf8.first", laid_unicode_utf8_first)], narrowed := true }
def TokenPartsUptoSaid : Prop := tokenPartsUptoRow.holds Tryd.pinned (OpenSpec.upto tokenPartsSpec)

/-- 'parterrelaw08.FormulaAny', WHERE WHAT IT READS IS OF BULK AT MOST 1048576: true; the input reads as it did. -/
def formulaAnyUptoRow : OpenClaim := { program := "ytijecfmblddanaadoor", sum := "14a4690b459bd17c45430623062afbb8d78bbd470066b078217ca53b42e55a62", func := "parterre/parterrelaw08.FormulaAny", spec := "formulaAny", inPlace := ["internal/bytealg.IndexByteString", "internal/bytealg.IndexString", "internal/abi.NoEscape"], unfollowed := true, recurses := true, named := ["internal/bytealg.MaxLen", "unicode/utf8.first", "unicode/utf8.acceptRanges"], loops := true, apart := false, laid := [("unicode/utf8.acceptRanges", laid_unicode_utf8_acceptRanges), ("unicode/utf8.first", laid_unicode_utf8_first)], narrowed := true }
def FormulaAnyUptoSaid : Prop := formulaAnyUptoRow.holds Tryd.pinned (OpenSpec.upto formulaAnySpec)

/-- 'parterrelaw08.FormulaMade', WHERE WHAT IT READS IS OF BULK AT MOST 1048576: true; the input reads as it did. -/
def formulaMadeUptoRow : OpenClaim := { program := "ytijecfmblddanaadoor", sum := "14a4690b459bd17c45430623062afbb8d78bbd470066b078217ca53b42e55a62", func := "parterre/parterrelaw08.FormulaMade", spec := "formulaMade", inPlace := ["internal/bytealg.IndexByteString", "internal/bytealg.IndexString", "internal/abi.NoEscape"], unfollowed := true, recurses := true, named := ["internal/bytealg.MaxLen", "unicode/utf8.first", "unicode/utf8.acceptRanges"], apart := false, laid := [("unicode/utf8.acceptRanges", laid_unicode_utf8_acceptRanges), ("unicode/utf8.first", laid_unicode_utf8_first)], narrowed := true }
def FormulaMadeUptoSaid : Prop := formulaMadeUptoRow.holds Tryd.pinned (OpenSpec.upto formulaMadeSpec)

/-- 'parterrelaw08.FormulaDeep', WHERE WHAT IT READS IS OF BULK AT MOST 1048576: true; the input reads as it did. -/
def formulaDeepUptoRow : OpenClaim := { program := "ytijecfmblddanaadoor", sum := "14a4690b459bd17c45430623062afbb8d78bbd470066b078217ca53b42e55a62", func := "parterre/parterrelaw08.FormulaDeep", spec := "formulaDeep", inPlace := ["internal/bytealg.IndexByteString", "internal/bytealg.IndexString", "internal/abi.NoEscape"], unfollowed := true, recurses := true, named := ["internal/bytealg.MaxLen", "unicode/utf8.first", "unicode/utf8.acceptRanges"], apart := false, laid := [("unicode/utf8.acceptRanges", laid_unicode_utf8_acceptRanges), ("unicode/utf8.first", laid_unicode_utf8_first)], narrowed := true }
def FormulaDeepUptoSaid : Prop := formulaDeepUptoRow.holds Tryd.pinned (OpenSpec.upto formulaDeepSpec)

/-- 'parterrelaw08.FormulaApart', WHERE WHAT IT READS IS OF BULK AT MOST 1048576: true; the input reads as it did. -/
def formulaApartUptoRow : OpenClaim := { program := "ytijecfmblddanaadoor", sum := "14a4690b459bd17c45430623062afbb8d78bbd470066b078217ca53b42e55a62", func := "parterre/parterrelaw08.FormulaApart", spec := "formulaApart", inPlace := ["internal/bytealg.IndexByteString", "internal/bytealg.IndexString", "internal/abi.NoEscape"], unfollowed := true, recurses := true, named := ["internal/bytealg.MaxLen", "unicode/utf8.first", "unicode/utf8.acceptRanges"], apart := false, laid := [("unicode/utf8.acceptRanges", laid_unicode_utf8_acceptRanges), ("unicode/utf8.first", laid_unicode_utf8_first)], narrowed := true }
def FormulaApartUptoSaid : Prop := formulaApartUptoRow.holds Tryd.pinned (OpenSpec.upto formulaApartSpec)

/-- 'parterrelaw08.FormulaSize', WHERE WHAT IT READS IS OF BULK AT MOST 1048576: true; the input reads as it did. -/
def formulaSizeUptoRow : OpenClaim := { program := "ytijecfmblddanaadoor", sum := "14a4690b459bd17c45430623062afbb8d78bbd470066b078217ca53b42e55a62", func := "parterre/parterrelaw08.FormulaSize", spec := "formulaSize", inPlace := ["internal/bytealg.IndexByteString", "internal/bytealg.IndexString", "internal/abi.NoEscape"], unfollowed := true, recurses := true, named := ["internal/bytealg.MaxLen", "unicode/utf8.first", "unicode/utf8.acceptRanges"], apart := false, laid := [("unicode/utf8.acceptRanges", laid_unicode_utf8_acceptRanges), ("unicode/utf8.first", laid_unicode_utf8_first)], narrowed := true }
def FormulaSizeUptoSaid : Prop := formulaSizeUptoRow.holds Tryd.pinned (OpenSpec.upto formulaSizeSpec)

/-- 'parterrelaw09.ParseSmall', WHERE WHAT IT READS IS OF BULK AT MOST 1048576: true; the input reads as it did. -/
def parseSmallUptoRow : OpenClaim := { program := "ytijecfmblddanaadoor", sum := "14a4690b459bd17c45430623062afbb8d78bbd470066b078217ca53b42e55a62", func := "parterre/parterrelaw09.ParseSmall", spec := "parseSmall", inPlace := ["internal/bytealg.IndexByteString", "internal/bytealg.IndexString", "internal/abi.NoEscape"], unfollowed := true, recurses := true, named := ["unicode/utf8.first", "unicode/utf8.acceptRanges", "internal/bytealg.MaxLen"], apart := false, laid := [("unicode/utf8.acceptRanges", laid_unicode_utf8_acceptRanges), ("unicode/utf8.first", laid_unicode_utf8_first)], narrowed := true }
def ParseSmallUptoSaid : Prop := parseSmallUptoRow.holds Tryd.pinned (OpenSpec.upto parseSmallSpec)

/-- 'parterrelaw09.ParseBack', WHERE WHAT IT READS IS OF BULK AT MOST 1048576: true; the input reads as it did. -/
def parseBackUptoRow : OpenClaim := { program := "ytijecfmblddanaadoor", sum := "14a4690b459bd17c45430623062afbb8d78bbd470066b078217ca53b42e55a62", func := "parterre/parterrelaw09.ParseBack", spec := "parseBack", inPlace := ["internal/bytealg.IndexByteString", "internal/bytealg.IndexString", "internal/abi.NoEscape"], unfollowed := true, recurses := true, named := ["unicode/utf8.first", "unicode/utf8.acceptRanges", "internal/bytealg.MaxLen"], apart := false, laid := [("unicode/utf8.acceptRanges", laid_unicode_utf8_acceptRanges), ("unicode/utf8.first", laid_unicode_utf8_first)], narrowed := true }
def ParseBackUptoSaid : Prop := parseBackUptoRow.holds Tryd.pinned (OpenSpec.upto parseBackSpec)

/-- 'parterrelaw09.ParseBlanks', WHERE WHAT IT READS IS OF BULK AT MOST 1048576: true; the input reads as it did. -/
def parseBlanksUptoRow : OpenClaim := { program := "ytijecfmblddanaadoor", sum := "14a4690b459bd17c45430623062afbb8d78bbd470066b078217ca53b42e55a62", func := "parterre/parterrelaw09.ParseBlanks", spec := "parseBlanks", inPlace := ["internal/bytealg.IndexByteString", "internal/bytealg.IndexString", "internal/abi.NoEscape"], unfollowed := true, recurses := true, named := ["unicode/utf8.first", "unicode/utf8.acceptRanges", "internal/bytealg.MaxLen"], apart := false, laid := [("unicode/utf8.acceptRanges", laid_unicode_utf8_acceptRanges), ("unicode/utf8.first", laid_unicode_utf8_first)], narrowed := true }
def ParseBlanksUptoSaid : Prop := parseBlanksUptoRow.holds Tryd.pinned (OpenSpec.upto parseBlanksSpec)

/-- 'parterrelaw09.ParseChains', WHERE WHAT IT READS IS OF BULK AT MOST 1048576: true; the input reads as it did. -/
def parseChainsUptoRow : OpenClaim := { program := "ytijecfmblddanaadoor", sum := "14a4690b459bd17c45430623062afbb8d78bbd470066b078217ca53b42e55a62", func := "parterre/parterrelaw09.ParseChains", spec := "parseChains", inPlace := ["internal/bytealg.IndexByteString", "internal/bytealg.IndexString", "internal/abi.NoEscape"], unfollowed := true, recurses := true, named := ["unicode/utf8.first", "unicode/utf8.acceptRanges", "internal/bytealg.MaxLen"], apart := false, laid := [("unicode/utf8.acceptRanges", laid_unicode_utf8_acceptRanges), ("unicode/utf8.first", laid_unicode_utf8_first)], narrowed := true }
def ParseChainsUptoSaid : Prop := parseChainsUptoRow.holds Tryd.pinned (OpenSpec.upto parseChainsSpec)

end Rows
end Go.Proofs.YtijecfmblddanaaDoor
