/- The program lies as it has to. -/
import Derived.Carry
import Derived.DeepKeys4
import Derived.WalkKit
import Derived.Test.YtijecfmblddanaaDoorProg
namespace Go.Proofs.YtijecfmblddanaaDoor
open Go.RowKit
theorem laidOut : laidOutB Tryd.prog = true := by kernel_rfl
end Go.Proofs.YtijecfmblddanaaDoor
