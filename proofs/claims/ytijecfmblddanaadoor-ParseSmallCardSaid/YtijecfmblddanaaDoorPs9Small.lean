/- Parsing: ParseSmall. -/
import Derived.Test.YtijecfmblddanaaDoorG12
import Derived.Test.YtijecfmblddanaaDoorG13
set_option linter.unusedVariables false
set_option linter.unusedSimpArgs false
namespace Go.Proofs.YtijecfmblddanaaDoor
open Go.RowKit Go.Maps

set_option maxHeartbeats 800000 in
theorem parseSmall_any (l : List Int) (A : Option Addr) (c : Nat) (w : World) (hr : ∀ x ∈ l, 0 ≤ x ∧ x ≤ 255) (hc : l.length ≤ c) (hl : c ≤ 140737488355328) (hA : Vals w w.heap.size A (l.map (.int .u8 ·))) :
    Calls Tryd.prog 12 #[.slice A l.length c] w (Ret w (.bool true)) := by
  have HS := Lib.hid (fun w => same9_any ⟨(piecesL l).toArray⟩ (by
    show (piecesL l).toArray.size ≤ _
    rw [List.size_toArray]
    have := piecesTo_len l (min l.length 20)
    unfold piecesL
    omega) w)
  have HP := Lib.hid (fun w h => pieces_any l A c w hc hr (by omega) h)
  have HA := Lib.hid hA
  generalize (⟨(piecesL l).toArray⟩ : ByteArray) = s at HS HP
  clear hA hr
  go_enter Tryd.func12, Tryd.ntmps12
  go_wp2_with fail
  refine (awake9_any _).mono ?_
  rintro e w1 ⟨rfl, hb1⟩
  have HB1 := Lib.hid hb1
  clear hb1
  go_wp2_with fail
  refine (HP.out _ (HA.out.after HB1.out)).mono ?_
  rintro e w2 ⟨rfl, hb2⟩
  have HB2 := Lib.hid hb2
  clear hb2
  go_wp2_with fail
  refine (HS.out _).mono ?_
  rintro e w3 ⟨rfl, hb3⟩
  have HB3 := Lib.hid hb3
  clear hb3
  go_wp2_with fail
  go_ret
  exact ⟨rfl, step2 (step2 HB1.out HB2.out) HB3.out⟩
end Go.Proofs.YtijecfmblddanaaDoor
