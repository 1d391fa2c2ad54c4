/- GraphOr's walk. -/
import Derived.Test.YtbdhkagcbncefaaMade
namespace Go.Proofs.Ytbdhkagcbncefaa
open Go.RowKit Go.Maps

set_option maxHeartbeats 1000000 in
theorem graphOr_any (n : Int) (xs : List Int) (A : Option Addr) (cp : Nat) (a : Int) (w : World) (hn : 0 ≤ n ∧ n ≤ 255) (hx : U16 xs) (hcp : xs.length ≤ cp) (hcl : cp ≤ 70368744177664) (hp : Vals w w.heap.size A (u16s xs))
    (ha : 0 ≤ a ∧ a ≤ 255) :
    Calls Try.prog 13 #[.int .u8 n, .slice A xs.length cp, .int .u8 a] w (Ret w (.bool true)) := by
  have HM := Lib.hid (made_any (n % 7) xs A cp w (by omega) (by omega) hx (by omega) hp)
  have HI := Lib.hid (madeG_inv (n := n % 7) (by omega) (by omega) xs)
  generalize madeG (n % 7) xs = s at HM HI
  have n0 : 0 ≤ s.1.n := by rw [HI.out.n]; omega
  have n1 : s.1.n ≤ 6 := by rw [HI.out.n]; omega
  have l1 : s.1.as.length ≤ 40 := HI.out.len
  have hlt := lit_lt HI.out.lit
  have hla : s.2 ≤ 9223372036854775807 := by unfold Gr.vars at hlt; omega
  have hmz : (2 * (s.1.n + 1 + (s.1.as.length : Int)) == 0) = false := by simp; omega
  obtain ⟨x, hxe⟩ : ∃ x, x = a % (2 * (s.1.n + 1 + (s.1.as.length : Int))) := ⟨_, rfl⟩
  have x0 : 0 ≤ x := by rw [hxe]; exact Int.emod_nonneg _ (by omega)
  have x1 : x ≤ 9223372036854775807 := by
    have := Int.emod_lt_of_pos a (by omega : 0 < 2 * (s.1.n + 1 + (s.1.as.length : Int)))
    omega
  have hfl := flip_max x0 x1
  have hxf : bits .xor .i64 x 1 = flip x := xor_flip x x0 x1
  have hxe' := hxe.symm
  clear hp hx hlt hxe
  go_enter Try.func13, Try.ntmps13
  go_wp2_with fail
  refine HM.out.mono ?_
  rintro e w1 ⟨B, d, rfl, hc1, hp1, hb1⟩
  have HB1 := Lib.hid (hb1.trans (((Below.refl w1.heap.size w1).alloc (Nat.le_refl _) (.cells #[.int .i64 s.1.n, .slice B s.1.as.length d] 24)).mono hb1.size))
  have HP1 := Lib.hid (hp1.after ((Below.refl w1.heap.size w1).alloc (Nat.le_refl _) (.cells #[.int .i64 s.1.n, .slice B s.1.as.length d] 24)))
  have HX1 := Lib.hid (Blk.new w1 24 #[.int .i64 s.1.n, .slice B s.1.as.length d])
  have HC1 := Lib.hid hc1
  clear hb1 hp1 hc1 HM
  go_wp2_with fail
  refine (rvars_any _ _ _ _ _ n0 (by omega) (by omega)).mono ?_
  rintro e w2 ⟨rfl, hb2⟩
  have HB2 := Lib.hid (below2 HB1.out HB1.out.size hb2)
  have HP2 := Lib.hid (HP1.out.after hb2)
  have HX2 := Lib.hid (HX1.out.below hb2 HX1.out.lt)
  clear hb2 HB1 HP1 HX1
  go_wp2_with fail
  rw [hxe']
  clear hxe'
  refine (awake1_any _).mono ?_
  rintro e w3 ⟨rfl, hb3⟩
  have HB3 := Lib.hid (below2 HB2.out HB2.out.size hb3)
  have HP3 := Lib.hid (HP2.out.after hb3)
  have HX3 := Lib.hid (HX2.out.below hb3 HX2.out.lt)
  have y0 : w3.cell? ⟨w1.heap.size, 0, none⟩ = some (.int .i64 s.1.n) := HX3.out.cell 0
  have y1 : w3.cell? ⟨w1.heap.size, 1, none⟩ = some (.slice B s.1.as.length d) := HX3.out.cell 1
  clear hb3 HB2 HP2 HX2
  go_wp2_with fail
  refine (lsame_any s.1 x x s.2 B d _ HI.out.ok x1 x1 hla HC1.out HP3.out).mono ?_
  rintro e w4 ⟨rfl, hb4⟩
  have HB4 := Lib.hid (below2 HB3.out HB3.out.size hb4)
  have HP4 := Lib.hid (HP3.out.after hb4)
  have HX4 := Lib.hid (HX3.out.below hb4 HX3.out.lt)
  clear hb4 HB3 HP3 HX3 y0 y1
  have y0 : w4.cell? ⟨w1.heap.size, 0, none⟩ = some (.int .i64 s.1.n) := HX4.out.cell 0
  have y1 : w4.cell? ⟨w1.heap.size, 1, none⟩ = some (.slice B s.1.as.length d) := HX4.out.cell 1
  go_wp2_with fail
  try rw [hxf]
  refine (lsame_any s.1 x (flip x) s.2 B d _ HI.out.ok x1 hfl.2 hla HC1.out HP4.out).mono ?_
  rintro e w5 ⟨rfl, hb5⟩
  have HB5 := Lib.hid (below2 HB4.out HB4.out.size hb5)
  have HP5 := Lib.hid (HP4.out.after hb5)
  have HX5 := Lib.hid (HX4.out.below hb5 HX4.out.lt)
  clear hb5 HB4 HP4 HX4 y0 y1
  have y0 : w5.cell? ⟨w1.heap.size, 0, none⟩ = some (.int .i64 s.1.n) := HX5.out.cell 0
  have y1 : w5.cell? ⟨w1.heap.size, 1, none⟩ = some (.slice B s.1.as.length d) := HX5.out.cell 1
  go_wp2_with fail
  refine (lsame_any s.1 x 0 x B d _ HI.out.ok x1 (by omega) x1 HC1.out HP5.out).mono ?_
  rintro e w6 ⟨rfl, hb6⟩
  have HB6 := Lib.hid (below2 HB5.out HB5.out.size hb6)
  have HP6 := Lib.hid (HP5.out.after hb6)
  have HX6 := Lib.hid (HX5.out.below hb6 HX5.out.lt)
  clear hb6 HB5 HP5 HX5 y0 y1
  have y0 : w6.cell? ⟨w1.heap.size, 0, none⟩ = some (.int .i64 s.1.n) := HX6.out.cell 0
  have y1 : w6.cell? ⟨w1.heap.size, 1, none⟩ = some (.slice B s.1.as.length d) := HX6.out.cell 1
  go_wp2_with fail
  try rw [hxf]
  refine (lsame_any s.1 1 x (flip x) B d _ HI.out.ok (by omega) x1 hfl.2 HC1.out HP6.out).mono ?_
  rintro e w7 ⟨rfl, hb7⟩
  have HB7 := Lib.hid (below2 HB6.out HB6.out.size hb7)
  clear hb7
  go_wp2_with fail
  go_ret
  exact ⟨rfl, HB7.out⟩
end Go.Proofs.Ytbdhkagcbncefaa
