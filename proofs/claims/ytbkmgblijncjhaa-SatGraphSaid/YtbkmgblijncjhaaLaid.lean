/- The program lies as it has to. -/
import Derived.Carry
import Derived.DeepKeys4
import Derived.WalkKit
import Derived.Test.YtbkmgblijncjhaaProg
namespace Go.Proofs.Ytbkmgblijncjhaa
open Go.RowKit
theorem laidOut : laidOutB Try.prog = true := by kernel_rfl
end Go.Proofs.Ytbkmgblijncjhaa
