/- GraphAny's walk. -/
import Derived.Test.YtbdhkagcbncefaaAwake1
namespace Go.Proofs.Ytbdhkagcbncefaa
open Go.RowKit Go.Maps

theorem graphAny_any (g : Gr) (a b k : Int) (A : Option Addr) (c : Nat) (w : World) (hg : GOk g) (ha : a ≤ 9223372036854775807) (hb : b ≤ 9223372036854775807) (hk : k ≤ 9223372036854775807) (hc : g.as.length ≤ c) (hp : Prs w w.heap.size A g.as) :
    Calls Try.prog 8 #[.agg #[.int .i64 g.n, .slice A g.as.length c], .int .i64 a, .int .i64 b, .int .i64 k] w (Ret w (.bool true)) := by
  have hgl : g.as.length ≤ 8796093022208 := hg.2.1
  have HG := Lib.hid hg
  have HB0 := Lib.hid ((Below.refl _ _).alloc (Nat.le_refl w.heap.size) (.cells #[.int .i64 g.n, .slice A g.as.length c] 24))
  have HP := Lib.hid (hp.after HB0.out)
  have HX := Lib.hid (Blk.new w 24 #[.int .i64 g.n, .slice A g.as.length c])
  clear hg hp
  go_enter Try.func8, Try.ntmps8
  go_wp2_with fail
  refine (awake1_any _).mono ?_
  rintro e w1 ⟨rfl, hb1⟩
  have HB1 := Lib.hid (below2 HB0.out HB0.out.size hb1)
  have HP1 := Lib.hid (HP.out.after hb1)
  have HX1 := Lib.hid (HX.out.below hb1 HX.out.lt)
  have x0 : w1.cell? ⟨w.heap.size, 0, none⟩ = some (.int .i64 g.n) := HX1.out.cell 0
  have x1 : w1.cell? ⟨w.heap.size, 1, none⟩ = some (.slice A g.as.length c) := HX1.out.cell 1
  clear hb1 HB0 HP HX
  by_cases hl : g.as.length > 100
  · go_wp2_with fail
    go_ret
    exact ⟨rfl, HB1.out⟩
  · have hl' : g.as.length ≤ 100 := by omega
    clear hl
    go_wp2_with fail
    refine (lsame_any g a b k A c _ HG.out ha hb hk hc HP1.out).mono ?_
    rintro e w2 ⟨rfl, hb2⟩
    have HB2 := Lib.hid (below2 HB1.out HB1.out.size hb2)
    clear hb2
    go_wp2_with fail
    go_ret
    exact ⟨rfl, HB2.out⟩
end Go.Proofs.Ytbdhkagcbncefaa
