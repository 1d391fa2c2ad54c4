/- Tokens: awake; TokenAny, Pieces, TokenSmall. -/
import Derived.Test.YtijecfmblddanaaDoorTkSame
set_option linter.unusedVariables false
set_option linter.unusedSimpArgs false
namespace Go.Proofs.YtijecfmblddanaaDoor
open Go.RowKit Go.Maps

theorem awake_toks : lexOf [65, 71, 40, 97, 45, 62, 34, 98, 46, 99, 34, 41] = ([⟨1, [65, 71], 0⟩, ⟨2, [40], 2⟩, ⟨1, [97], 3⟩, ⟨2, [45, 62], 4⟩, ⟨1, [34, 98, 46, 99, 34], 6⟩, ⟨2, [41], 11⟩, ⟨0, [], 12⟩], 0, 0) := by kernel_rfl
theorem awake_bad : lexOf [97, 32, 63] = ([], 40, 2) := by kernel_rfl

set_option maxHeartbeats 800000 in
theorem awake7_any (w : World) : Calls Tryd.prog 16 #[] w (Ret w (.bool true)) := by
  have h1 := fun w => lex_any ⟨#[65, 71, 40, 97, 45, 62, 34, 98, 46, 99, 34, 41]⟩ (by decide) w
  have h2 := fun w => lex_any ⟨#[97, 32, 63]⟩ (by decide) w
  rw [show (⟨#[65, 71, 40, 97, 45, 62, 34, 98, 46, 99, 34, 41]⟩ : ByteArray).data.toList = [65, 71, 40, 97, 45, 62, 34, 98, 46, 99, 34, 41] from rfl, awake_toks] at h1
  rw [show (⟨#[97, 32, 63]⟩ : ByteArray).data.toList = [97, 32, 63] from rfl, awake_bad] at h2
  have H1 := Lib.hid h1
  have H2 := Lib.hid h2
  clear h1 h2
  go_enter Tryd.func16, Tryd.ntmps16
  go_wp2_with fail
  refine (H1.out _).mono ?_
  rintro e w1 ⟨A, c, rfl, hc, hv, hb1⟩
  have HV := Lib.hid hv
  have HB1 := Lib.hid hb1
  clear hv hb1 hc
  go_wp2_with fail
  refine (H2.out _).mono ?_
  rintro e w2 ⟨B, d, rfl, hd, hv2, hb2⟩
  have hv := HV.out.after hb2
  have HB2 := Lib.hid hb2
  clear hv2 hb2 hd
  obtain ⟨b, o, rfl, hb, d0⟩ := hv 1 _ rfl
  obtain ⟨b', o', e', _, d3⟩ := hv 10 _ rfl
  cases e'
  obtain ⟨b', o', e', _, d4⟩ := hv 13 _ rfl
  cases e'
  obtain ⟨b', o', e', _, d6⟩ := hv 20 _ rfl
  cases e'
  clear hv
  go_wp2_with fail
  go_ret
  exact ⟨rfl, step2 HB1.out HB2.out⟩

set_option maxHeartbeats 800000 in
theorem tokenAny_any (s : ByteArray) (w : World) (hs : s.size ≤ 140737488355328) : Calls Tryd.prog 3 #[.string s] w (Ret w (.bool true)) := by
  have HS := Lib.hid (fun w => same_any s hs w)
  by_cases h1 : 600 < s.size
  · have h1' : (600 : Int) < (s.size : Int) := by omega
    by_cases h2 : s.size ≤ 20000
    · have h2' : (s.size : Int) ≤ 20000 := by omega
      go_enter Tryd.func3, Tryd.ntmps3
      go_wp2_with fail
      refine (awake7_any _).mono ?_
      rintro e w1 ⟨rfl, hb1⟩
      have HB1 := Lib.hid hb1
      clear hb1
      go_wp2_with fail
      go_ret
      exact ⟨rfl, HB1.out⟩
    · have h2' : ¬ ((s.size : Int) ≤ 20000) := by omega
      go_enter Tryd.func3, Tryd.ntmps3
      go_wp2_with fail
      refine (awake7_any _).mono ?_
      rintro e w1 ⟨rfl, hb1⟩
      have HB1 := Lib.hid hb1
      clear hb1
      go_wp2_with fail
      refine (HS.out _).mono ?_
      rintro e w2 ⟨rfl, hb2⟩
      have HB2 := Lib.hid hb2
      clear hb2
      go_wp2_with fail
      go_ret
      exact ⟨rfl, step2 HB1.out HB2.out⟩
  · have h1' : ¬ ((600 : Int) < (s.size : Int)) := by omega
    go_enter Tryd.func3, Tryd.ntmps3
    go_wp2_with fail
    refine (awake7_any _).mono ?_
    rintro e w1 ⟨rfl, hb1⟩
    have HB1 := Lib.hid hb1
    clear hb1
    go_wp2_with fail
    refine (HS.out _).mono ?_
    rintro e w2 ⟨rfl, hb2⟩
    have HB2 := Lib.hid hb2
    clear hb2
    go_wp2_with fail
    go_ret
    exact ⟨rfl, step2 HB1.out HB2.out⟩
end Go.Proofs.YtijecfmblddanaaDoor
