/- Formulas: shapes. -/
import Derived.Test.YtijecfmblddanaaDoorIMap
import Derived.Test.YtijecfmblddanaaDoorPFm
import Derived.Test.YtijecfmblddanaaDoorProg
set_option linter.unusedVariables false
set_option linter.unusedSimpArgs false
namespace Go.Proofs.YtijecfmblddanaaDoor
open Go.RowKit Go.Maps

/-- What lies under a kind. -/
def shapeV (k : Int) : Value := .agg #[.int .i64 (nk k), .string ⟨(shp k).1.toArray⟩, .string ⟨(shp k).2.1.toArray⟩, .string ⟨(shp k).2.2.toArray⟩]
def shapeF (k : Int) : Option Value := if (1 ≤ k ∧ k ≤ 18) ∧ k ≠ 3 then some (shapeV k) else none

set_option maxRecDepth 100000 in
set_option maxHeartbeats 2000000 in
theorem shapes_any (w : World) : Calls Tryd.prog 44 #[] w fun e w' => e = .returned (.map (some w.heap.size)) ∧ IMap Tryd.prog 3 w' w.heap.size 17 shapeF ∧ Below w.heap.size w w' := by
  have hmm := @run_makeMap Tryd.prog
  have H0 := Lib.hid (IMap.made Tryd.prog 3 w)
  have HB0 := Lib.hid (stepA w (.map #[] 0))
  go_enter Tryd.func44, Tryd.ntmps44
  go_wp2_with fail
  obtain ⟨w1, hr, h1, hg⟩ := (H0.out).store Tryd.underlying3 Tryd.underlying65 (by unfold maxLen; omega) (i := 1) (by omega) (by omega) (shapeV 1)
  rw [show shapeV 1 = .agg #[.int .i64 0, .string ⟨#[102, 97, 108, 115, 101]⟩, .string ⟨#[]⟩, .string ⟨#[]⟩] from rfl] at hr
  have H1 := Lib.hid h1
  have HB1 := Lib.hid ((HB0.out).grown hg (HB0.out).size (fun k e => by cases e; exact Nat.le_refl _))
  clear h1 hg
  rw [hr]
  clear hr
  go_wp2_with fail
  obtain ⟨w2, hr, h2, hg⟩ := (H1.out).store Tryd.underlying3 Tryd.underlying65 (by unfold maxLen; omega) (i := 2) (by omega) (by omega) (shapeV 2)
  rw [show shapeV 2 = .agg #[.int .i64 0, .string ⟨#[116, 114, 117, 101]⟩, .string ⟨#[]⟩, .string ⟨#[]⟩] from rfl] at hr
  have H2 := Lib.hid h2
  have HB2 := Lib.hid ((HB1.out).grown hg (HB1.out).size (fun k e => by cases e; exact Nat.le_refl _))
  clear h2 hg
  rw [hr]
  clear hr
  go_wp2_with fail
  obtain ⟨w3, hr, h3, hg⟩ := (H2.out).store Tryd.underlying3 Tryd.underlying65 (by unfold maxLen; omega) (i := 4) (by omega) (by omega) (shapeV 4)
  rw [show shapeV 4 = .agg #[.int .i64 1, .string ⟨#[33]⟩, .string ⟨#[]⟩, .string ⟨#[]⟩] from rfl] at hr
  have H3 := Lib.hid h3
  have HB3 := Lib.hid ((HB2.out).grown hg (HB2.out).size (fun k e => by cases e; exact Nat.le_refl _))
  clear h3 hg
  rw [hr]
  clear hr
  go_wp2_with fail
  obtain ⟨w4, hr, h4, hg⟩ := (H3.out).store Tryd.underlying3 Tryd.underlying65 (by unfold maxLen; omega) (i := 5) (by omega) (by omega) (shapeV 5)
  rw [show shapeV 5 = .agg #[.int .i64 2, .string ⟨#[]⟩, .string ⟨#[32, 38, 32]⟩, .string ⟨#[]⟩] from rfl] at hr
  have H4 := Lib.hid h4
  have HB4 := Lib.hid ((HB3.out).grown hg (HB3.out).size (fun k e => by cases e; exact Nat.le_refl _))
  clear h4 hg
  rw [hr]
  clear hr
  go_wp2_with fail
  obtain ⟨w5, hr, h5, hg⟩ := (H4.out).store Tryd.underlying3 Tryd.underlying65 (by unfold maxLen; omega) (i := 6) (by omega) (by omega) (shapeV 6)
  rw [show shapeV 6 = .agg #[.int .i64 2, .string ⟨#[]⟩, .string ⟨#[32, 124, 32]⟩, .string ⟨#[]⟩] from rfl] at hr
  have H5 := Lib.hid h5
  have HB5 := Lib.hid ((HB4.out).grown hg (HB4.out).size (fun k e => by cases e; exact Nat.le_refl _))
  clear h5 hg
  rw [hr]
  clear hr
  go_wp2_with fail
  obtain ⟨w6, hr, h6, hg⟩ := (H5.out).store Tryd.underlying3 Tryd.underlying65 (by unfold maxLen; omega) (i := 7) (by omega) (by omega) (shapeV 7)
  rw [show shapeV 7 = .agg #[.int .i64 2, .string ⟨#[]⟩, .string ⟨#[32, 45, 62, 32]⟩, .string ⟨#[]⟩] from rfl] at hr
  have H6 := Lib.hid h6
  have HB6 := Lib.hid ((HB5.out).grown hg (HB5.out).size (fun k e => by cases e; exact Nat.le_refl _))
  clear h6 hg
  rw [hr]
  clear hr
  go_wp2_with fail
  obtain ⟨w7, hr, h7, hg⟩ := (H6.out).store Tryd.underlying3 Tryd.underlying65 (by unfold maxLen; omega) (i := 8) (by omega) (by omega) (shapeV 8)
  rw [show shapeV 8 = .agg #[.int .i64 2, .string ⟨#[]⟩, .string ⟨#[32, 60, 45, 62, 32]⟩, .string ⟨#[]⟩] from rfl] at hr
  have H7 := Lib.hid h7
  have HB7 := Lib.hid ((HB6.out).grown hg (HB6.out).size (fun k e => by cases e; exact Nat.le_refl _))
  clear h7 hg
  rw [hr]
  clear hr
  go_wp2_with fail
  obtain ⟨w8, hr, h8, hg⟩ := (H7.out).store Tryd.underlying3 Tryd.underlying65 (by unfold maxLen; omega) (i := 9) (by omega) (by omega) (shapeV 9)
  rw [show shapeV 9 = .agg #[.int .i64 1, .string ⟨#[69, 88, 32]⟩, .string ⟨#[]⟩, .string ⟨#[]⟩] from rfl] at hr
  have H8 := Lib.hid h8
  have HB8 := Lib.hid ((HB7.out).grown hg (HB7.out).size (fun k e => by cases e; exact Nat.le_refl _))
  clear h8 hg
  rw [hr]
  clear hr
  go_wp2_with fail
  obtain ⟨w9, hr, h9, hg⟩ := (H8.out).store Tryd.underlying3 Tryd.underlying65 (by unfold maxLen; omega) (i := 10) (by omega) (by omega) (shapeV 10)
  rw [show shapeV 10 = .agg #[.int .i64 1, .string ⟨#[65, 88, 32]⟩, .string ⟨#[]⟩, .string ⟨#[]⟩] from rfl] at hr
  have H9 := Lib.hid h9
  have HB9 := Lib.hid ((HB8.out).grown hg (HB8.out).size (fun k e => by cases e; exact Nat.le_refl _))
  clear h9 hg
  rw [hr]
  clear hr
  go_wp2_with fail
  obtain ⟨w10, hr, h10, hg⟩ := (H9.out).store Tryd.underlying3 Tryd.underlying65 (by unfold maxLen; omega) (i := 11) (by omega) (by omega) (shapeV 11)
  rw [show shapeV 11 = .agg #[.int .i64 1, .string ⟨#[69, 70, 32]⟩, .string ⟨#[]⟩, .string ⟨#[]⟩] from rfl] at hr
  have H10 := Lib.hid h10
  have HB10 := Lib.hid ((HB9.out).grown hg (HB9.out).size (fun k e => by cases e; exact Nat.le_refl _))
  clear h10 hg
  rw [hr]
  clear hr
  go_wp2_with fail
  obtain ⟨w11, hr, h11, hg⟩ := (H10.out).store Tryd.underlying3 Tryd.underlying65 (by unfold maxLen; omega) (i := 12) (by omega) (by omega) (shapeV 12)
  rw [show shapeV 12 = .agg #[.int .i64 1, .string ⟨#[65, 70, 32]⟩, .string ⟨#[]⟩, .string ⟨#[]⟩] from rfl] at hr
  have H11 := Lib.hid h11
  have HB11 := Lib.hid ((HB10.out).grown hg (HB10.out).size (fun k e => by cases e; exact Nat.le_refl _))
  clear h11 hg
  rw [hr]
  clear hr
  go_wp2_with fail
  obtain ⟨w12, hr, h12, hg⟩ := (H11.out).store Tryd.underlying3 Tryd.underlying65 (by unfold maxLen; omega) (i := 13) (by omega) (by omega) (shapeV 13)
  rw [show shapeV 13 = .agg #[.int .i64 1, .string ⟨#[69, 71, 32]⟩, .string ⟨#[]⟩, .string ⟨#[]⟩] from rfl] at hr
  have H12 := Lib.hid h12
  have HB12 := Lib.hid ((HB11.out).grown hg (HB11.out).size (fun k e => by cases e; exact Nat.le_refl _))
  clear h12 hg
  rw [hr]
  clear hr
  go_wp2_with fail
  obtain ⟨w13, hr, h13, hg⟩ := (H12.out).store Tryd.underlying3 Tryd.underlying65 (by unfold maxLen; omega) (i := 14) (by omega) (by omega) (shapeV 14)
  rw [show shapeV 14 = .agg #[.int .i64 1, .string ⟨#[65, 71, 32]⟩, .string ⟨#[]⟩, .string ⟨#[]⟩] from rfl] at hr
  have H13 := Lib.hid h13
  have HB13 := Lib.hid ((HB12.out).grown hg (HB12.out).size (fun k e => by cases e; exact Nat.le_refl _))
  clear h13 hg
  rw [hr]
  clear hr
  go_wp2_with fail
  obtain ⟨w14, hr, h14, hg⟩ := (H13.out).store Tryd.underlying3 Tryd.underlying65 (by unfold maxLen; omega) (i := 15) (by omega) (by omega) (shapeV 15)
  rw [show shapeV 15 = .agg #[.int .i64 2, .string ⟨#[69, 32, 91]⟩, .string ⟨#[32, 85, 32]⟩, .string ⟨#[93]⟩] from rfl] at hr
  have H14 := Lib.hid h14
  have HB14 := Lib.hid ((HB13.out).grown hg (HB13.out).size (fun k e => by cases e; exact Nat.le_refl _))
  clear h14 hg
  rw [hr]
  clear hr
  go_wp2_with fail
  obtain ⟨w15, hr, h15, hg⟩ := (H14.out).store Tryd.underlying3 Tryd.underlying65 (by unfold maxLen; omega) (i := 16) (by omega) (by omega) (shapeV 16)
  rw [show shapeV 16 = .agg #[.int .i64 2, .string ⟨#[65, 32, 91]⟩, .string ⟨#[32, 85, 32]⟩, .string ⟨#[93]⟩] from rfl] at hr
  have H15 := Lib.hid h15
  have HB15 := Lib.hid ((HB14.out).grown hg (HB14.out).size (fun k e => by cases e; exact Nat.le_refl _))
  clear h15 hg
  rw [hr]
  clear hr
  go_wp2_with fail
  obtain ⟨w16, hr, h16, hg⟩ := (H15.out).store Tryd.underlying3 Tryd.underlying65 (by unfold maxLen; omega) (i := 17) (by omega) (by omega) (shapeV 17)
  rw [show shapeV 17 = .agg #[.int .i64 2, .string ⟨#[69, 32, 91]⟩, .string ⟨#[32, 82, 32]⟩, .string ⟨#[93]⟩] from rfl] at hr
  have H16 := Lib.hid h16
  have HB16 := Lib.hid ((HB15.out).grown hg (HB15.out).size (fun k e => by cases e; exact Nat.le_refl _))
  clear h16 hg
  rw [hr]
  clear hr
  go_wp2_with fail
  obtain ⟨w17, hr, h17, hg⟩ := (H16.out).store Tryd.underlying3 Tryd.underlying65 (by unfold maxLen; omega) (i := 18) (by omega) (by omega) (shapeV 18)
  rw [show shapeV 18 = .agg #[.int .i64 2, .string ⟨#[65, 32, 91]⟩, .string ⟨#[32, 82, 32]⟩, .string ⟨#[93]⟩] from rfl] at hr
  have H17 := Lib.hid h17
  have HB17 := Lib.hid ((HB16.out).grown hg (HB16.out).size (fun k e => by cases e; exact Nat.le_refl _))
  clear h17 hg
  rw [hr]
  clear hr
  go_wp2_with fail
  go_ret
  refine ⟨rfl, H17.out.congr fun i => ?_, HB17.out⟩
  simp only [putI]
  unfold shapeF
  by_cases h : (1 ≤ i ∧ i ≤ 18) ∧ i ≠ 3
  · rw [if_pos h]
    obtain ⟨⟨h1, h2⟩, h3⟩ := h
    have hi : i = 1 ∨ i = 2 ∨ i = 4 ∨ i = 5 ∨ i = 6 ∨ i = 7 ∨ i = 8 ∨ i = 9 ∨ i = 10 ∨ i = 11 ∨ i = 12 ∨ i = 13 ∨ i = 14 ∨ i = 15 ∨ i = 16 ∨ i = 17 ∨ i = 18 := by omega
    rcases hi with rfl | rfl | rfl | rfl | rfl | rfl | rfl | rfl | rfl | rfl | rfl | rfl | rfl | rfl | rfl | rfl | rfl <;> rfl
  · rw [if_neg h]
    repeat (rw [if_neg (by omega)])
end Go.Proofs.YtijecfmblddanaaDoor
