/- GraphMade's walk. -/
import Derived.Test.YtbdhkagcbncefaaBox
namespace Go.Proofs.Ytbdhkagcbncefaa
open Go.RowKit Go.Maps

set_option maxHeartbeats 1000000 in
theorem graphMade_any (n : Int) (xs : List Int) (A : Option Addr) (cp : Nat) (a b c : Int) (w : World) (hn : 0 ≤ n ∧ n ≤ 255) (hx : U16 xs) (hcp : xs.length ≤ cp) (hcl : cp ≤ 70368744177664) (hp : Vals w w.heap.size A (u16s xs))
    (ha : 0 ≤ a ∧ a ≤ 255) (hb : 0 ≤ b ∧ b ≤ 255) (hc : 0 ≤ c ∧ c ≤ 255) :
    Calls Try.prog 9 #[.int .u8 n, .slice A xs.length cp, .int .u8 a, .int .u8 b, .int .u8 c] w (Ret w (.bool true)) := by
  have HM := Lib.hid (made_any (n % 7) xs A cp w (by omega) (by omega) hx (by omega) hp)
  have HI := Lib.hid (madeG_inv (n := n % 7) (by omega) (by omega) xs)
  generalize madeG (n % 7) xs = s at HM HI
  have n0 : 0 ≤ s.1.n := by rw [HI.out.n]; omega
  have n1 : s.1.n ≤ 6 := by rw [HI.out.n]; omega
  have l1 : s.1.as.length ≤ 40 := HI.out.len
  have hlt := lit_lt HI.out.lit
  have hla : s.2 ≤ 9223372036854775807 := by unfold Gr.vars at hlt; omega
  have hmz : (2 * (s.1.n + 1 + (s.1.as.length : Int)) + 1 == 0) = false := by simp; omega
  have e1 := Int.emod_lt_of_pos a (by omega : 0 < 2 * (s.1.n + 1 + (s.1.as.length : Int)) + 1)
  have e2 := Int.emod_lt_of_pos b (by omega : 0 < 2 * (s.1.n + 1 + (s.1.as.length : Int)) + 1)
  have e3 := Int.emod_lt_of_pos c (by omega : 0 < 2 * (s.1.n + 1 + (s.1.as.length : Int)) + 1)
  have f1 : a % (2 * (s.1.n + 1 + (s.1.as.length : Int)) + 1) ≤ 9223372036854775807 := by omega
  have f2 : b % (2 * (s.1.n + 1 + (s.1.as.length : Int)) + 1) ≤ 9223372036854775807 := by omega
  have f3 : c % (2 * (s.1.n + 1 + (s.1.as.length : Int)) + 1) ≤ 9223372036854775807 := by omega
  have HF := Lib.hid (And.intro f1 (And.intro f2 f3))
  have hw1 : IntKind.i64.wrap a = a := IntWalk.i64_in a (by omega)
  have hw2 : IntKind.i64.wrap b = b := IntWalk.i64_in b (by omega)
  have hw3 : IntKind.i64.wrap c = c := IntWalk.i64_in c (by omega)
  have hz1 : ¬ (2 * (s.1.n + 1 + (s.1.as.length : Int)) + 1 = 0) := by omega
  have ht1 : a.tmod (2 * (s.1.n + 1 + (s.1.as.length : Int)) + 1) = a % (2 * (s.1.n + 1 + (s.1.as.length : Int)) + 1) := Int.tmod_eq_emod_of_nonneg ha.1
  have ht2 : b.tmod (2 * (s.1.n + 1 + (s.1.as.length : Int)) + 1) = b % (2 * (s.1.n + 1 + (s.1.as.length : Int)) + 1) := Int.tmod_eq_emod_of_nonneg hb.1
  have ht3 : c.tmod (2 * (s.1.n + 1 + (s.1.as.length : Int)) + 1) = c % (2 * (s.1.n + 1 + (s.1.as.length : Int)) + 1) := Int.tmod_eq_emod_of_nonneg hc.1
  clear hp hx e1 e2 e3 f1 f2 f3 hlt
  go_enter Try.func9, Try.ntmps9
  go_wp2_with fail
  refine HM.out.mono ?_
  rintro e w1 ⟨B, d, rfl, hc1, hp1, hb1⟩
  have HB1 := Lib.hid (hb1.trans (((Below.refl w1.heap.size w1).alloc (Nat.le_refl _) (.cells #[.int .i64 s.1.n, .slice B s.1.as.length d] 24)).mono hb1.size))
  have HP1 := Lib.hid (hp1.after ((Below.refl w1.heap.size w1).alloc (Nat.le_refl _) (.cells #[.int .i64 s.1.n, .slice B s.1.as.length d] 24)))
  have HX1 := Lib.hid (Blk.new w1 24 #[.int .i64 s.1.n, .slice B s.1.as.length d])
  have HC1 := Lib.hid hc1
  clear hb1 hp1 hc1 HM
  go_wp2_with fail
  refine (rvars_any _ _ _ _ _ n0 (by omega) (by omega)).mono ?_
  rintro e w7 ⟨rfl, hb2⟩
  have HB7 := Lib.hid (below2 HB1.out HB1.out.size hb2)
  have HP7 := Lib.hid (HP1.out.after hb2)
  have HX7 := Lib.hid (HX1.out.below hb2 HX1.out.lt)
  have x0 : w7.cell? ⟨w1.heap.size, 0, none⟩ = some (.int .i64 s.1.n) := HX7.out.cell 0
  have x1 : w7.cell? ⟨w1.heap.size, 1, none⟩ = some (.slice B s.1.as.length d) := HX7.out.cell 1
  have hbig := HX7.out.lt
  clear hb2 HB1 HP1 HX1
  go_wp2_with fail
  go_region_held3 (fun W => (∀ b o, b < w7.heap.size → W.cell? ⟨b, o, none⟩ = w7.cell? ⟨b, o, none⟩) ∧ Below w7.heap.size w7 W)
    (first
      | exact held_begin w7
      | exact held_step (by assumption) (by assumption))
    (first
      | (go_at_call 38; refine (awake1_any _).mono ?_; rintro e w8 ⟨rfl, hb8⟩)
      | (go_at_call 39; (with_reducible refine (lsame_any s.1 (a % (2 * (s.1.n + 1 + (s.1.as.length : Int)) + 1)) (b % (2 * (s.1.n + 1 + (s.1.as.length : Int)) + 1)) (c % (2 * (s.1.n + 1 + (s.1.as.length : Int)) + 1)) B d _ HI.out.ok HF.out.1 HF.out.2.1 HF.out.2.2 HC1.out (HP7.out.after (And.right (by assumption)))).mono ?_); rintro e w8 ⟨rfl, hb8⟩)
      | (go_at_call 39; (with_reducible refine (lsame_any s.1 s.2 (a % (2 * (s.1.n + 1 + (s.1.as.length : Int)) + 1)) (c % (2 * (s.1.n + 1 + (s.1.as.length : Int)) + 1)) B d _ HI.out.ok hla HF.out.1 HF.out.2.2 HC1.out (HP7.out.after (And.right (by assumption)))).mono ?_); rintro e w8 ⟨rfl, hb8⟩))
  go_wp2_with fail
  go_ret
  exact ⟨rfl, HB7.out.trans ((And.right (by assumption : (∀ b o, b < w7.heap.size → World.cell? _ ⟨b, o, none⟩ = w7.cell? ⟨b, o, none⟩) ∧ Below w7.heap.size w7 _)).mono HB7.out.size)⟩
end Go.Proofs.Ytbdhkagcbncefaa
