/-
  No cell of these rows narrows 'for every input' (looked for: loops, veiled, ifaces, maps, wideKeys, modest, calm, conditions, laid).
  DERIVED. THE GIVEN ROWS OF THIS SEAT. 7 by the template 'for every input the law returns true; each argument reads behind the call as it read before'; 0 by the template 'total and deterministic' (their statements: YtbkmgblijncjhaaTotals.lean).
  GIVEN WITH THE SEED: the statements are not yours to turn. If you find one false, say at which input.
  Laid BY PROGRAM, IN A SANDBOX (cutbox-rows.mjs): the forced cells as the released guide's own fill.sh prints them over the translation 4dd17a1288ee114f… (all of the seat's roots in one cut). By AI agents, Wed Nov 11 2026. No macro, syntax, notation, axiom, sorry.
-/
import Derived.Test.YtbkmgblijncjhaaChecked
import GoSem.Claim
import GoSem.ClaimJoined
import GoSem.ClaimMapViews
import Derived.JoinedTies
import Derived.KernelRfl
namespace Go.Proofs.Ytbkmgblijncjhaa
/- THE CELL 'sum', in the pinned program and in every row, IS THE sha256 OF THE DUMP (.gsa) THAT YtbkmgblijncjhaaProg.lean LOADS. Nothing in Lean hashes anything: it is a label: what it is worth is what the hold of that sum in a sandbox is worth. -/
noncomputable def Try.pinned : Pinned := { name := "ytbkmgblijncjhaa", sum := "4dd17a1288ee114f93b07962cd5ee3de6f457b989f566b8c8e3ec2cb290bc03e", checked := Try.checked }
namespace Rows
def none {H : Type} : Left H := { results := [], args := [] }

/-- 'parterrelaw15.SatAny': WHATEVER THE INPUT: true; the input reads as it did. -/
def satAnySpec : ChangeSpec := { name := "satAny", fn := fun _ => fun
  | [d1, d2] => { results := [.lit (.bool true)], args := [d1, d2] }
  | _ => none }
def satAnyRow : OpenClaim := { program := "ytbkmgblijncjhaa", sum := "4dd17a1288ee114f93b07962cd5ee3de6f457b989f566b8c8e3ec2cb290bc03e", func := "parterre/parterrelaw15.SatAny", spec := "satAny", inPlace := ["sync/atomic.AddInt64"], unfollowed := true, recurses := true, apart := false }
def SatAnySaid : Prop := satAnyRow.holds Try.pinned (OpenSpec.ofChange satAnySpec)

/-- ITS FALSE NEIGHBOUR: 'it returns false'. Refute it at one input. -/
def satAnyWrong : ChangeSpec := { name := "satAny", fn := fun _ => fun
  | [d1, d2] => { results := [.lit (.bool false)], args := [d1, d2] }
  | _ => none }
def SatAnyWrongFalsely : Prop := satAnyRow.holds Try.pinned (OpenSpec.ofChange satAnyWrong)

/-- 'parterrelaw15.SatMade': WHATEVER THE INPUT: true; the input reads as it did. -/
def satMadeSpec : ChangeSpec := { name := "satMade", fn := fun _ => fun
  | [d1, d2, d3] => { results := [.lit (.bool true)], args := [d1, d2, d3] }
  | _ => none }
def satMadeRow : OpenClaim := { program := "ytbkmgblijncjhaa", sum := "4dd17a1288ee114f93b07962cd5ee3de6f457b989f566b8c8e3ec2cb290bc03e", func := "parterre/parterrelaw15.SatMade", spec := "satMade", inPlace := ["sync/atomic.AddInt64"], unfollowed := true, recurses := true, apart := false }
def SatMadeSaid : Prop := satMadeRow.holds Try.pinned (OpenSpec.ofChange satMadeSpec)

/-- ITS FALSE NEIGHBOUR: 'it returns false'. Refute it at one input. -/
def satMadeWrong : ChangeSpec := { name := "satMade", fn := fun _ => fun
  | [d1, d2, d3] => { results := [.lit (.bool false)], args := [d1, d2, d3] }
  | _ => none }
def SatMadeWrongFalsely : Prop := satMadeRow.holds Try.pinned (OpenSpec.ofChange satMadeWrong)

/-- 'parterrelaw15.SatGraph': WHATEVER THE INPUT: true; the input reads as it did. -/
def satGraphSpec : ChangeSpec := { name := "satGraph", fn := fun _ => fun
  | [d1, d2] => { results := [.lit (.bool true)], args := [d1, d2] }
  | _ => none }
def satGraphRow : OpenClaim := { program := "ytbkmgblijncjhaa", sum := "4dd17a1288ee114f93b07962cd5ee3de6f457b989f566b8c8e3ec2cb290bc03e", func := "parterre/parterrelaw15.SatGraph", spec := "satGraph", inPlace := ["sync/atomic.AddInt64"], unfollowed := true, recurses := true, apart := false }
def SatGraphSaid : Prop := satGraphRow.holds Try.pinned (OpenSpec.ofChange satGraphSpec)

/-- ITS FALSE NEIGHBOUR: 'it returns false'. Refute it at one input. -/
def satGraphWrong : ChangeSpec := { name := "satGraph", fn := fun _ => fun
  | [d1, d2] => { results := [.lit (.bool false)], args := [d1, d2] }
  | _ => none }
def SatGraphWrongFalsely : Prop := satGraphRow.holds Try.pinned (OpenSpec.ofChange satGraphWrong)

/-- 'parterrelaw15.SatMore': WHATEVER THE INPUT: true; the input reads as it did. -/
def satMoreSpec : ChangeSpec := { name := "satMore", fn := fun _ => fun
  | [d1, d2, d3, d4] => { results := [.lit (.bool true)], args := [d1, d2, d3, d4] }
  | _ => none }
def satMoreRow : OpenClaim := { program := "ytbkmgblijncjhaa", sum := "4dd17a1288ee114f93b07962cd5ee3de6f457b989f566b8c8e3ec2cb290bc03e", func := "parterre/parterrelaw15.SatMore", spec := "satMore", inPlace := ["sync/atomic.AddInt64"], unfollowed := true, recurses := true, apart := false }
def SatMoreSaid : Prop := satMoreRow.holds Try.pinned (OpenSpec.ofChange satMoreSpec)

/-- ITS FALSE NEIGHBOUR: 'it returns false'. Refute it at one input. -/
def satMoreWrong : ChangeSpec := { name := "satMore", fn := fun _ => fun
  | [d1, d2, d3, d4] => { results := [.lit (.bool false)], args := [d1, d2, d3, d4] }
  | _ => none }
def SatMoreWrongFalsely : Prop := satMoreRow.holds Try.pinned (OpenSpec.ofChange satMoreWrong)

/-- 'parterrelaw15.SatHard': WHATEVER THE INPUT: true; the input reads as it did. -/
def satHardSpec : ChangeSpec := { name := "satHard", fn := fun _ => fun
  | [d1, d2] => { results := [.lit (.bool true)], args := [d1, d2] }
  | _ => none }
def satHardRow : OpenClaim := { program := "ytbkmgblijncjhaa", sum := "4dd17a1288ee114f93b07962cd5ee3de6f457b989f566b8c8e3ec2cb290bc03e", func := "parterre/parterrelaw15.SatHard", spec := "satHard", inPlace := ["sync/atomic.AddInt64"], unfollowed := true, recurses := true, apart := false }
def SatHardSaid : Prop := satHardRow.holds Try.pinned (OpenSpec.ofChange satHardSpec)

/-- ITS FALSE NEIGHBOUR: 'it returns false'. Refute it at one input. -/
def satHardWrong : ChangeSpec := { name := "satHard", fn := fun _ => fun
  | [d1, d2] => { results := [.lit (.bool false)], args := [d1, d2] }
  | _ => none }
def SatHardWrongFalsely : Prop := satHardRow.holds Try.pinned (OpenSpec.ofChange satHardWrong)

/-- 'parterrelaw15.SatUnits': WHATEVER THE INPUT: true; the input reads as it did. -/
def satUnitsSpec : ChangeSpec := { name := "satUnits", fn := fun _ => fun
  | [d1, d2, d3] => { results := [.lit (.bool true)], args := [d1, d2, d3] }
  | _ => none }
def satUnitsRow : OpenClaim := { program := "ytbkmgblijncjhaa", sum := "4dd17a1288ee114f93b07962cd5ee3de6f457b989f566b8c8e3ec2cb290bc03e", func := "parterre/parterrelaw15.SatUnits", spec := "satUnits", inPlace := ["sync/atomic.AddInt64"], unfollowed := true, recurses := true, apart := false }
def SatUnitsSaid : Prop := satUnitsRow.holds Try.pinned (OpenSpec.ofChange satUnitsSpec)

/-- ITS FALSE NEIGHBOUR: 'it returns false'. Refute it at one input. -/
def satUnitsWrong : ChangeSpec := { name := "satUnits", fn := fun _ => fun
  | [d1, d2, d3] => { results := [.lit (.bool false)], args := [d1, d2, d3] }
  | _ => none }
def SatUnitsWrongFalsely : Prop := satUnitsRow.holds Try.pinned (OpenSpec.ofChange satUnitsWrong)

/-- 'parterrelaw15.SatXor': WHATEVER THE INPUT: true; the input reads as it did. -/
def satXorSpec : ChangeSpec := { name := "satXor", fn := fun _ => fun
  | [d1, d2] => { results := [.lit (.bool true)], args := [d1, d2] }
  | _ => none }
def satXorRow : OpenClaim := { program := "ytbkmgblijncjhaa", sum := "4dd17a1288ee114f93b07962cd5ee3de6f457b989f566b8c8e3ec2cb290bc03e", func := "parterre/parterrelaw15.SatXor", spec := "satXor", inPlace := ["sync/atomic.AddInt64"], unfollowed := true, recurses := true, apart := false }
def SatXorSaid : Prop := satXorRow.holds Try.pinned (OpenSpec.ofChange satXorSpec)

/-- ITS FALSE NEIGHBOUR: 'it returns false'. Refute it at one input. -/
def satXorWrong : ChangeSpec := { name := "satXor", fn := fun _ => fun
  | [d1, d2] => { results := [.lit (.bool false)], args := [d1, d2] }
  | _ => none }
def SatXorWrongFalsely : Prop := satXorRow.holds Try.pinned (OpenSpec.ofChange satXorWrong)

/- THE SECOND FORM. 'bulk': how many values and letters a reading holds, each counted each time it is reached (what is shared counts as often as it is met; a slice's spare places count too). A statement '..UptoSaid' is the law's where the arguments, and the package variables that the reading takes, are together of bulk at most 1048576: NARROWER than '..Said'. Prove '..Said' where nothing that the law and all that it calls make is longer than what came in: it says more and counts as full. Else prove '..UptoSaid'. A law counts once. -/
mutual
def uptoBulk {H : Type} : DataW H → Nat
  | .lit (.string bytes) => bytes.length + 1
  | .lit _ => 1
  | .nil => 1
  | .ptr d => uptoBulk d + 1
  | .slice elems spare => uptoBulkAll elems + uptoBulkAll spare + 1
  | .agg parts => uptoBulkAll parts + 1
  | .iface _ d => uptoBulk d + 1
  | .map entries => uptoBulkEntries entries + 1
  | .held _ => 1
def uptoBulkAll {H : Type} : List (DataW H) → Nat
  | [] => 0
  | d :: r => uptoBulk d + uptoBulkAll r
def uptoBulkEntries {H : Type} : List (Lit × DataW H) → Nat
  | [] => 0
  | x :: r => uptoBulkEntry x + uptoBulkEntries r
def uptoBulkEntry {H : Type} : Lit × DataW H → Nat
  | (.string bytes, d) => bytes.length + uptoBulk d + 1
  | (_, d) => uptoBulk d + 1
 end
def uptoSmall : (H : Type) → List (DataW H) → Bool := fun _ ds => decide (uptoBulkAll ds ≤ 1048576)
def OpenSpec.upto (s : _root_.Go.ChangeSpec) : _root_.Go.OpenSpec := { _root_.Go.OpenSpec.ofChange s with cond := some uptoSmall }

/-- 'parterrelaw15.SatAny', WHERE WHAT IT READS IS OF BULK AT MOST 1048576: true; the input reads as it did. -/
def satAnyUptoRow : OpenClaim := { program := "ytbkmgblijncjhaa", sum := "4dd17a1288ee114f93b07962cd5ee3de6f457b989f566b8c8e3ec2cb290bc03e", func := "parterre/parterrelaw15.SatAny", spec := "satAny", inPlace := ["sync/atomic.AddInt64"], unfollowed := true, recurses := true, apart := false, narrowed := true }
def SatAnyUptoSaid : Prop := satAnyUptoRow.holds Try.pinned (OpenSpec.upto satAnySpec)

/-- 'parterrelaw15.SatMade', WHERE WHAT IT READS IS OF BULK AT MOST 1048576: true; the input reads as it did. -/
def satMadeUptoRow : OpenClaim := { program := "ytbkmgblijncjhaa", sum := "4dd17a1288ee114f93b07962cd5ee3de6f457b989f566b8c8e3ec2cb290bc03e", func := "parterre/parterrelaw15.SatMade", spec := "satMade", inPlace := ["sync/atomic.AddInt64"], unfollowed := true, recurses := true, apart := false, narrowed := true }
def SatMadeUptoSaid : Prop := satMadeUptoRow.holds Try.pinned (OpenSpec.upto satMadeSpec)

/-- 'parterrelaw15.SatGraph', WHERE WHAT IT READS IS OF BULK AT MOST 1048576: true; the input reads as it did. -/
def satGraphUptoRow : OpenClaim := { program := "ytbkmgblijncjhaa", sum := "4dd17a1288ee114f93b07962cd5ee3de6f457b989f566b8c8e3ec2cb290bc03e", func := "parterre/parterrelaw15.SatGraph", spec := "satGraph", inPlace := ["sync/atomic.AddInt64"], unfollowed := true, recurses := true, apart := false, narrowed := true }
def SatGraphUptoSaid : Prop := satGraphUptoRow.holds Try.pinned (OpenSpec.upto satGraphSpec)

/-- 'parterrelaw15.SatMore', WHERE WHAT IT READS IS OF BULK AT MOST 1048576: true; the input reads as it did. -/
def satMoreUptoRow : OpenClaim := { program := "ytbkmgblijncjhaa", sum := "4dd17a1288ee114f93b07962cd5ee3de6f457b989f566b8c8e3ec2cb290bc03e", func := "parterre/parterrelaw15.SatMore", spec := "satMore", inPlace := ["sync/atomic.AddInt64"], unfollowed := true, recurses := true, apart := false, narrowed := true }
def SatMoreUptoSaid : Prop := satMoreUptoRow.holds Try.pinned (OpenSpec.upto satMoreSpec)

/-- 'parterrelaw15.SatHard', WHERE WHAT IT READS IS OF BULK AT MOST 1048576: true; the input reads as it did. -/
def satHardUptoRow : OpenClaim := { program := "ytbkmgblijncjhaa", sum := "4dd17a1288ee114f93b07962cd5ee3de6f457b989f566b8c8e3ec2cb290bc03e", func := "parterre/parterrelaw15.SatHard", spec := "satHard", inPlace := ["sync/atomic.AddInt64"], unfollowed := true, recurses := true, apart := false, narrowed := true }
def SatHardUptoSaid : Prop := satHardUptoRow.holds Try.pinned (OpenSpec.upto satHardSpec)

/-- 'parterrelaw15.SatUnits', WHERE WHAT IT READS IS OF BULK AT MOST 1048576: true; the input reads as it did. -/
def satUnitsUptoRow : OpenClaim := { program := "ytbkmgblijncjhaa", sum := "4dd17a1288ee114f93b07962cd5ee3de6f457b989f566b8c8e3ec2cb290bc03e", func := "parterre/parterrelaw15.SatUnits", spec := "satUnits", inPlace := ["sync/atomic.AddInt64"], unfollowed := true, recurses := true, apart := false, narrowed := true }
def SatUnitsUptoSaid : Prop := satUnitsUptoRow.holds Try.pinned (OpenSpec.upto satUnitsSpec)

/-- 'parterrelaw15.SatXor', WHERE WHAT IT READS IS OF BULK AT MOST 1048576: true; the input reads as it did. -/
def satXorUptoRow : OpenClaim := { program := "ytbkmgblijncjhaa", sum := "4dd17a1288ee114f93b07962cd5ee3de6f457b989f566b8c8e3ec2cb290bc03e", func := "parterre/parterrelaw15.SatXor", spec := "satXor", inPlace := ["sync/atomic.AddInt64"], unfollowed := true, recurses := true, apart := false, narrowed := true }
def SatXorUptoSaid : Prop := satXorUptoRow.holds Try.pinned (OpenSpec.upto satXorSpec)

end Rows
end Go.Proofs.Ytbkmgblijncjhaa
