/- The program lies as it has to. -/
import Derived.Carry
import Derived.DeepKeys4
import Derived.WalkKit
import Derived.Test.YtijecfmblddanaaGreatDoorProg
namespace Go.Proofs.YtijecfmblddanaaGreatDoor
open Go.RowKit
theorem laidOut : laidOutB Tryz.prog = true := by kernel_rfl
end Go.Proofs.YtijecfmblddanaaGreatDoor
