/- Layer 1's 'awake'. -/
import Derived.Test.YtbdhkagcbncefaaLaw1
namespace Go.Proofs.Ytbdhkagcbncefaa
open Go.RowKit Go.Maps

def g1 : Gr := ⟨2, [(4, 2)]⟩
theorem g1_and : andG ⟨2, []⟩ 2 4 = (g1, 6, 0) := by rfl
theorem g1_or : orG g1 7 6 = (g1, 1, 0) := by rfl
theorem g1_no : andG g1 8 2 = (noG, 0, 1) := by rfl
theorem g1_right : rightB g1 = true := by rfl
theorem g1_lit7 : litB g1 7 = true := by rfl
theorem g1_lit8 : litB g1 8 = false := by rfl
theorem g0_ok : GOk ⟨2, []⟩ := ⟨by decide, by simp, by simp⟩
theorem g1_ok : GOk g1 := ⟨by decide, by simp [g1], by simp [g1, PrOk]; decide⟩

theorem vals2 {A : Option Addr} {w : World} {B : Nat} (h : Prs w B A [(4, 2)]) : ∃ b o, A = some ⟨b, o, none⟩ ∧ b < B ∧ w.cell? ⟨b, o, none⟩ = some (.int .i64 4) ∧ w.cell? ⟨b, o + 1, none⟩ = some (.int .i64 2) := by
  obtain ⟨b, o, e, hb, h1, h2⟩ := h 0 _ rfl
  exact ⟨b, o, e, hb, by simpa using h1, by simpa using h2⟩

set_option maxHeartbeats 1000000 in
theorem awake1_any (w : World) : Calls Try.prog 38 #[] w (Ret w (.bool true)) := by
  have hnot := @not_run Try.prog
  have hqe := @eql_pair
  have n1 : g1.n = 2 := rfl
  have l1 : g1.as.length = 1 := rfl
  have n0 : noG.n = 0 := rfl
  have l0 : noG.as.length = 0 := rfl
  have H1 := Lib.hid (and_p ⟨2, []⟩ none 0 w g0_ok (by simp) Prs.nil 2 4 (by omega) (by omega))
  rw [g1_and] at H1
  go_enter Try.func38, Try.ntmps38
  go_wp2_with fail
  refine H1.out.mono ?_
  rintro e w1 ⟨A1, c1, rfl, hc1, hp1, hb1⟩
  have HB1 := Lib.hid (hb1.trans (((Below.refl w1.heap.size w1).alloc (Nat.le_refl _) (.cells #[.int .i64 2, .slice A1 1 c1] 24)).mono hb1.size))
  have HP1 := Lib.hid ((hp1.alloc (Nat.le_refl _) (.cells #[.int .i64 2, .slice A1 1 c1] 24)).more (Nat.le_of_lt (by simp : w1.heap.size < (w1.alloc (.cells #[.int .i64 2, .slice A1 1 c1] 24)).heap.size)))
  have HX1 := Lib.hid (Blk.new w1 24 #[.int .i64 2, .slice A1 1 c1])
  have HC1 := Lib.hid hc1
  clear hb1 hp1 hc1 H1
  have H2 := Lib.hid (or_p g1 A1 c1 _ g1_ok HC1.out HP1.out 7 6 (by omega) (by omega))
  rw [g1_or] at H2
  go_wp2_with fail
  refine H2.out.mono ?_
  rintro e w2 ⟨A2, c2, rfl, hc2, hp2, hb2⟩
  have hbb := hb2.trans (((Below.refl w2.heap.size w2).alloc (Nat.le_refl _) (.cells #[.int .i64 2, .slice A2 1 c2] 24)).mono hb2.size)
  have HX2 := Lib.hid (HX1.out.below hbb HX1.out.lt)
  have HP2 := Lib.hid (HP1.out.after hbb)
  have HB2 := Lib.hid (below2 HB1.out HB1.out.size hbb)
  clear hbb hb2 hp2 hc2 H2 HX1 HP1 HB1
  have H3 := Lib.hid (and_p g1 A1 c1 _ g1_ok HC1.out HP2.out 8 2 (by omega) (by omega))
  rw [g1_no] at H3
  have x0 : (w2.alloc (.cells #[.int .i64 2, .slice A2 1 c2] 24)).cell? ⟨w1.heap.size, 0, none⟩ = some (.int .i64 2) := HX2.out.cell 0
  have x1 : (w2.alloc (.cells #[.int .i64 2, .slice A2 1 c2] 24)).cell? ⟨w1.heap.size, 1, none⟩ = some (.slice A1 1 c1) := HX2.out.cell 1
  go_wp2_with fail
  refine H3.out.mono ?_
  rintro e w3 ⟨A3, c3, rfl, hc3, hp3, hb3⟩
  have hbb := hb3.trans (((Below.refl w3.heap.size w3).alloc (Nat.le_refl _) (.cells #[.int .i64 0, .slice A3 0 c3] 24)).mono hb3.size)
  have HX3 := Lib.hid (HX2.out.below hbb HX2.out.lt)
  have HP3 := Lib.hid (HP2.out.after hbb)
  have HB3 := Lib.hid (below2 HB2.out HB2.out.size hbb)
  clear hbb hb3 hp3 hc3 H3 HX2 HP2 HB2 x0 x1
  have x0 : (w3.alloc (.cells #[.int .i64 0, .slice A3 0 c3] 24)).cell? ⟨w1.heap.size, 0, none⟩ = some (.int .i64 2) := HX3.out.cell 0
  have x1 : (w3.alloc (.cells #[.int .i64 0, .slice A3 0 c3] 24)).cell? ⟨w1.heap.size, 1, none⟩ = some (.slice A1 1 c1) := HX3.out.cell 1
  obtain ⟨b, o, hA, _, q0, q1⟩ := vals2 HP3.out
  have H4 : Calls _ _ _ _ _ := Right_any g1 A1 c1 _ g1_ok HP3.out
  rw [g1_right] at H4
  subst hA
  have H4 := Lib.hid H4
  go_wp2_with fail
  refine H4.out.mono ?_
  rintro e w4 ⟨rfl, hb4⟩
  have HX4 := Lib.hid (HX3.out.below hb4 HX3.out.lt)
  have HB4 := Lib.hid (below2 HB3.out HB3.out.size hb4)
  clear x0 x1 q0 q1 hb4 HX3 HB3 H4
  have x0 : w4.cell? ⟨w1.heap.size, 0, none⟩ = some (.int .i64 2) := HX4.out.cell 0
  have x1 : w4.cell? ⟨w1.heap.size, 1, none⟩ = some (.slice (some ⟨b, o, none⟩) 1 c1) := HX4.out.cell 1
  go_wp2_with fail
  refine (lit_yes g1 7 true g1_lit7 (some ⟨b, o, none⟩) c1 _ (by decide) (by omega)).mono ?_
  rintro e w5 ⟨rfl, hb5⟩
  have HX5 := Lib.hid (HX4.out.below hb5 HX4.out.lt)
  have HB5 := Lib.hid (below2 HB4.out HB4.out.size hb5)
  clear x0 x1 hb5 HX4 HB4
  have x0 : w5.cell? ⟨w1.heap.size, 0, none⟩ = some (.int .i64 2) := HX5.out.cell 0
  have x1 : w5.cell? ⟨w1.heap.size, 1, none⟩ = some (.slice (some ⟨b, o, none⟩) 1 c1) := HX5.out.cell 1
  go_wp2_with fail
  refine (lit_yes g1 8 false g1_lit8 (some ⟨b, o, none⟩) c1 _ (by decide) (by omega)).mono ?_
  rintro e w6 ⟨rfl, hb6⟩
  have HB6 := Lib.hid (below2 HB5.out HB5.out.size hb6)
  clear x0 x1 hb6 HX5 HB5
  go_wp2_with fail
  go_ret
  exact ⟨rfl, HB6.out⟩
end Go.Proofs.Ytbdhkagcbncefaa
