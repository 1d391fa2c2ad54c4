/- GraphTurned's walk. -/
import Derived.Test.YtbdhkagcbncefaaBox
namespace Go.Proofs.Ytbdhkagcbncefaa
open Go.RowKit Go.Maps

set_option maxHeartbeats 1000000 in
theorem graphTurned_any (n : Int) (xs : List Int) (A : Option Addr) (cp : Nat) (a b : Int) (w : World) (hn : 0 ≤ n ∧ n ≤ 255) (hx : U16 xs) (hcp : xs.length ≤ cp) (hcl : cp ≤ 70368744177664) (hp : Vals w w.heap.size A (u16s xs))
    (ha : 0 ≤ a ∧ a ≤ 255) (hb : 0 ≤ b ∧ b ≤ 255) :
    Calls Try.prog 14 #[.int .u8 n, .slice A xs.length cp, .int .u8 a, .int .u8 b] w (Ret w (.bool true)) := by
  have hnot := @not_run Try.prog
  have HM := Lib.hid (fun (w1 : World) (h : Below w.heap.size w w1) => made_any (n % 7) xs A cp w1 (by omega) (by omega) hx (by omega) (hp.after h))
  have HI := Lib.hid (madeG_inv (n := n % 7) (by omega) (by omega) xs)
  generalize madeG (n % 7) xs = s at HM HI
  have n0 : 0 ≤ s.1.n := by rw [HI.out.n]; omega
  have n1 : s.1.n ≤ 6 := by rw [HI.out.n]; omega
  have l1 : s.1.as.length ≤ 40 := HI.out.len
  have hmz : (2 * (s.1.n + 1 + (s.1.as.length : Int)) == 0) = false := by simp; omega
  have hM0 : 0 < 2 * (s.1.n + 1 + (s.1.as.length : Int)) := by omega
  obtain ⟨x, hxe⟩ : ∃ x, x = a % (2 * (s.1.n + 1 + (s.1.as.length : Int))) := ⟨_, rfl⟩
  obtain ⟨y, hye⟩ : ∃ y, y = b % (2 * (s.1.n + 1 + (s.1.as.length : Int))) := ⟨_, rfl⟩
  have lx : litB s.1 x = true := lit_of HI.out.right (by rw [hxe]; exact Int.emod_nonneg _ (by omega)) (by rw [hxe]; exact Int.emod_lt_of_pos _ hM0)
  have ly : litB s.1 y = true := lit_of HI.out.right (by rw [hye]; exact Int.emod_nonneg _ (by omega)) (by rw [hye]; exact Int.emod_lt_of_pos _ hM0)
  have lo : litB s.1 1 = true := lit_of HI.out.right (by omega) (by unfold Gr.vars; omega)
  have hv : s.1.vars < 1990 := by unfold Gr.vars; omega
  have x0 : 0 ≤ x := litB_ge lx
  have y0 : 0 ≤ y := litB_ge ly
  have x1 : x ≤ 9223372036854775807 := by have := lit_lt lx; omega
  have y1 : y ≤ 9223372036854775807 := by have := lit_lt ly; omega
  have hxf : bits .xor .i64 x 1 = flip x := xor_flip x x0 x1
  have hyf : bits .xor .i64 y 1 = flip y := xor_flip y y0 y1
  have fx := flip_max x0 x1
  have fy := flip_max y0 y1
  have ea := andG_ok_of HI.out.right (flip_lit lx) (flip_lit ly) (by omega)
  have go := andG_grows ea
  have eo := orG_eq x0 y0 ea
  have hal := andG_lit s.1 (flip x) (flip y)
  obtain ⟨j, r, hc⟩ := ite_chosen HI.out.right lx lo ly hv
  have hok1 := andG_ok HI.out.ok (flip x) (flip y)
  have hlen1 := andG_len s.1 (flip x) (flip y)
  have hokj : GOk j := by have := iteG_ok HI.out.ok x 1 y; rw [hc.is] at this; exact this
  obtain ⟨t, ht⟩ : ∃ t, t = andG s.1 (flip x) (flip y) := ⟨_, rfl⟩
  have HA := Lib.hid (fun (B : Option Addr) (d : Nat) (w1 : World) (k1 : s.1.as.length ≤ d) (k2 : Prs w1 w1.heap.size B s.1.as) => and_p s.1 B d w1 HI.out.ok k1 k2 (flip x) (flip y) fx.2 fy.2)
  have HO := Lib.hid (fun (B : Option Addr) (d : Nat) (w1 : World) (k1 : s.1.as.length ≤ d) (k2 : Prs w1 w1.heap.size B s.1.as) => or_p s.1 B d w1 HI.out.ok k1 k2 x y x1 y1)
  have HT := Lib.hid (fun (B : Option Addr) (d : Nat) (w1 : World) (k1 : s.1.as.length ≤ d) (k2 : Prs w1 w1.heap.size B s.1.as) => ite_p s.1 B d w1 HI.out.ok k1 k2 x 1 y x1 (by omega) y1)
  rw [hc.is] at HT
  rw [eo] at HO
  rw [← ht] at HA HO ea hal hok1 hlen1 go
  have HPJ := Lib.hid hc.grows
  have HOJ := Lib.hid hokj
  have hxe' := hxe.symm
  have hye' := hye.symm
  have hff : bits .xor .i64 t.2.1 1 = flip t.2.1 := xor_flip _ hal.1 (by omega)
  clear hp hx hxe hye eo hc hokj ht go hok1
  go_enter Try.func14, Try.ntmps14
  go_wp2_with fail
  refine (awake1_any _).mono ?_
  rintro e w0 ⟨rfl, hb0⟩
  have HB0 := Lib.hid hb0
  clear hb0
  go_wp2_with fail
  refine (HM.out w0 HB0.out).mono ?_
  rintro e w1 ⟨B, d, rfl, hc1, hp1, hb1⟩
  have HB1 := Lib.hid (below_alloc (below2 HB0.out HB0.out.size hb1) (.cells #[.int .i64 s.1.n, .slice B s.1.as.length d] 24))
  have HG1 := Lib.hid (GBox.new hc1 hp1)
  clear hb1 hp1 hc1 HM HB0
  go_wp2_with fail
  refine (rvars_any _ _ _ _ _ n0 (by omega) (by omega)).mono ?_
  rintro e w2 ⟨rfl, hb2⟩
  have HB2 := Lib.hid (below2 HB1.out HB1.out.size hb2)
  have HG2 := Lib.hid (HG1.out.step hb2)
  have c0 := HG2.out.c0
  have c1 := HG2.out.c1
  clear hb2 HB1 HG1
  go_wp2_with fail
  go_quiet (fail)
  rw [hxe', hye']
  go_wp2_with fail
  refine (HO.out B d _ HG2.out.cap (HG2.out.step (below_drewN (Below.refl w2.heap.size w2) _)).prs).mono ?_
  rintro e w3 ⟨B3, d3, rfl, hc3, hp3, hb3⟩
  have hb23 : Below w2.heap.size w2 w3 := below2 (below_drewN (Below.refl w2.heap.size w2) _) (Nat.le_refl _) hb3
  have HB3 := Lib.hid (below_alloc (below2 HB2.out HB2.out.size hb23) (.cells #[.int .i64 t.1.n, .slice B3 t.1.as.length d3] 24))
  have HG3 := Lib.hid ((HG2.out.step hb23).alloc (.cells #[.int .i64 t.1.n, .slice B3 t.1.as.length d3] 24))
  have HH3 := Lib.hid (GBox.new hc3 hp3)
  clear hb3 hb23 hp3 hc3 HB2 HG2 HO c0 c1 hxe' hye'
  have c0 := HG3.out.c0
  have c1 := HG3.out.c1
  go_wp2_with fail
  try rw [hxf]
  try rw [hyf]
  refine (HA.out B d _ HG3.out.cap HG3.out.prs).mono ?_
  rintro e w4 ⟨B4, d4, rfl, hc4, hp4, hb4⟩
  have HB4 := Lib.hid (below_alloc (below2 HB3.out HB3.out.size hb4) (.cells #[.int .i64 t.1.n, .slice B4 t.1.as.length d4] 24))
  have HG4 := Lib.hid ((HG3.out.step hb4).alloc (.cells #[.int .i64 t.1.n, .slice B4 t.1.as.length d4] 24))
  have HH4 := Lib.hid ((HH3.out.step hb4).alloc (.cells #[.int .i64 t.1.n, .slice B4 t.1.as.length d4] 24))
  have HI4 := Lib.hid (GBox.new hc4 hp4)
  clear hb4 hp4 hc4 HB3 HG3 HH3 HA c0 c1
  have c0 := HG4.out.c0
  have c1 := HG4.out.c1
  go_wp2_with fail
  refine (HT.out B d _ HG4.out.cap HG4.out.prs).mono ?_
  rintro e w5 ⟨B5, d5, rfl, hc5, hp5, hb5⟩
  have HB5 := Lib.hid (below_alloc (below2 HB4.out HB4.out.size hb5) (.cells #[.int .i64 j.n, .slice B5 j.as.length d5] 24))
  have HH5 := Lib.hid ((HH4.out.step hb5).alloc (.cells #[.int .i64 j.n, .slice B5 j.as.length d5] 24))
  have HI5 := Lib.hid ((HI4.out.step hb5).alloc (.cells #[.int .i64 j.n, .slice B5 j.as.length d5] 24))
  have HJ5 := Lib.hid (GBox.new hc5 hp5)
  clear hb5 hp5 hc5 HB4 HG4 HH4 HI4 HT c0 c1
  have c0 := HH5.out.c0
  have c1 := HH5.out.c1
  have e0 := HI5.out.c0
  have e1 := HI5.out.c1
  have ea' : (t.2.2 == 0) = true := by simpa using ea
  go_wp2_with fail
  refine (same_any t.1 B3 B4 d3 d4 _ (by omega) HH5.out.prs HI5.out.prs).mono ?_
  rintro e w6 ⟨rfl, hb6⟩
  have HB6 := Lib.hid (below2 HB5.out HB5.out.size hb6)
  have HJ6 := Lib.hid (HJ5.out.step hb6)
  clear hb6 HB5 HJ5 HH5 HI5 c0 c1 e0 e1
  have c0 := HJ6.out.c0
  have c1 := HJ6.out.c1
  have hbq : (flip t.2.1 == bits .xor .i64 t.2.1 1) = true := by rw [hff]; simp
  go_wp2_with fail
  refine (Right_any j B5 d5 _ HOJ.out HJ6.out.prs).mono ?_
  rintro e w7 ⟨rfl, hb7⟩
  rw [HPJ.out.right]
  have HB7 := Lib.hid (below2 HB6.out HB6.out.size hb7)
  have HJ7 := Lib.hid (HJ6.out.step hb7)
  clear hb7 HB6 HJ6 c0 c1
  have c0 := HJ7.out.c0
  have c1 := HJ7.out.c1
  go_wp2_with fail
  refine (lit_yes j r true HPJ.out.lit B5 d5 _ HOJ.out.2.1 (by have := lit_lt HPJ.out.lit; have := right_vars HPJ.out.right; omega)).mono ?_
  rintro e w8 ⟨rfl, hb8⟩
  have HB8 := Lib.hid (below2 HB7.out HB7.out.size hb8)
  clear hb8
  go_wp2_with fail
  go_ret
  exact ⟨rfl, HB8.out⟩
end Go.Proofs.Ytbdhkagcbncefaa
