/- Tokens: what is taken off the shelf. -/
import Derived.WalkKit
import Derived.Test.YtijecfmblddanaaDoorTkShelf
namespace Go.Proofs.YtijecfmblddanaaDoor
open Go.RowKit Go.Shelf Go.Lib

theorem prefix_any (s p : ByteArray) (w : World) : Calls Tryd.prog 98 #[.string s, .string p] w fun e w' => e = .returned (.bool (p.data.toList.isPrefixOf s.data.toList)) ∧ w' = w := by
  have h := Any.strings_HasPrefix Tryd.lays99 s p w
  exact h

theorem trim_any (s : ByteArray) (w : World) : Calls Tryd.prog 55 #[.string s, .string ⟨#[32, 9, 10]⟩] w fun e w' => e = .returned (.string ⟨(Lib.trimLeftS s.data.toList [32, 9, 10]).toArray⟩) ∧ Below w.heap.size w w' := by
  have h := Any.strings_TrimLeft_laid Tryd.lays161 (by kernel_rfl) s ⟨#[32, 9, 10]⟩ w (by decide) (ascii_of_all (by decide))
  exact h
end Go.Proofs.YtijecfmblddanaaDoor
