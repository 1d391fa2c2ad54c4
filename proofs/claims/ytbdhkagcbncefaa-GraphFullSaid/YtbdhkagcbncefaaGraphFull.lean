/- GraphFull's walk. -/
import Derived.Test.YtbdhkagcbncefaaAwake1
namespace Go.Proofs.Ytbdhkagcbncefaa
open Go.RowKit Go.Maps

theorem graphFull_any (n a b : Int) (w : World) (hn : 0 ≤ n ∧ n ≤ 255) (ha : 0 ≤ a ∧ a ≤ 255) (hb : 0 ≤ b ∧ b ≤ 255) :
    Calls Try.prog 11 #[.int .u8 n, .int .u8 a, .int .u8 b] w (Ret w (.bool true)) := by
  have HX := Lib.hid (Blk.new w 24 #[.int .i64 (1995 + n % 10), .slice none 0 0])
  have HB := Lib.hid ((Below.refl _ _).alloc (Nat.le_refl w.heap.size) (.cells #[.int .i64 (1995 + n % 10), .slice none 0 0] 24))
  go_enter Try.func11, Try.ntmps11
  go_wp2_with fail
  refine (awake1_any _).mono ?_
  rintro e w1 ⟨rfl, hb1⟩
  have HB1 := Lib.hid (below2 HB.out HB.out.size hb1)
  have HX1 := Lib.hid (HX.out.below hb1 HX.out.lt)
  have x0 : w1.cell? ⟨w.heap.size, 0, none⟩ = some (.int .i64 (1995 + n % 10)) := HX1.out.cell 0
  have x1 : w1.cell? ⟨w.heap.size, 1, none⟩ = some (.slice none 0 0) := HX1.out.cell 1
  clear hb1
  go_wp2_with fail
  refine (lsame_any ⟨1995 + n % 10, []⟩ a b 5 none 0 _ ⟨(wf_iff (1995 + n % 10)).2 (by omega), by simp, by simp⟩ (by omega) (by omega) (by omega) (Nat.le_refl _) Prs.nil).mono ?_
  rintro e w2 ⟨rfl, hb2⟩
  have HB2 := Lib.hid (below2 HB1.out HB1.out.size hb2)
  clear hb2
  go_wp2_with fail
  go_ret
  exact ⟨rfl, HB2.out⟩
end Go.Proofs.Ytbdhkagcbncefaa
