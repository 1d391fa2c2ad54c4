/- GraphRight's walk. -/
import Derived.Test.YtbdhkagcbncefaaBox
namespace Go.Proofs.Ytbdhkagcbncefaa
open Go.RowKit Go.Maps

set_option maxRecDepth 100000 in
set_option maxHeartbeats 2000000 in
theorem graphRight_any (n : Int) (xs : List Int) (A : Option Addr) (cp : Nat) (a b c : Int) (w : World) (hn : 0 ≤ n ∧ n ≤ 255) (hx : U16 xs) (hcp : xs.length ≤ cp) (hcl : cp ≤ 70368744177664) (hp : Vals w w.heap.size A (u16s xs))
    (ha : 0 ≤ a ∧ a ≤ 255) (hb : 0 ≤ b ∧ b ≤ 255) (hc : 0 ≤ c ∧ c ≤ 255) :
    Calls Try.prog 12 #[.int .u8 n, .slice A xs.length cp, .int .u8 a, .int .u8 b, .int .u8 c] w (Ret w (.bool true)) := by
  have hnot := @not_run Try.prog
  have HM := Lib.hid (fun (w1 : World) (h : Below w.heap.size w w1) => made_any (n % 7) xs A cp w1 (by omega) (by omega) hx (by omega) (hp.after h))
  have HI := Lib.hid (madeG_inv (n := n % 7) (by omega) (by omega) xs)
  generalize madeG (n % 7) xs = s at HM HI
  have n0 : 0 ≤ s.1.n := by rw [HI.out.n]; omega
  have n1 : s.1.n ≤ 6 := by rw [HI.out.n]; omega
  have l1 : s.1.as.length ≤ 40 := HI.out.len
  have hmz : (2 * (s.1.n + 1 + (s.1.as.length : Int)) == 0) = false := by simp; omega
  have hM0 : 0 < 2 * (s.1.n + 1 + (s.1.as.length : Int)) := by omega
  obtain ⟨x, hxe⟩ : ∃ x, x = a % (2 * (s.1.n + 1 + (s.1.as.length : Int))) := ⟨_, rfl⟩
  obtain ⟨y, hye⟩ : ∃ y, y = b % (2 * (s.1.n + 1 + (s.1.as.length : Int))) := ⟨_, rfl⟩
  obtain ⟨z, hze⟩ : ∃ z, z = c % (2 * (s.1.n + 1 + (s.1.as.length : Int))) := ⟨_, rfl⟩
  have lx : litB s.1 x = true := lit_of HI.out.right (by rw [hxe]; exact Int.emod_nonneg _ (by omega)) (by rw [hxe]; exact Int.emod_lt_of_pos _ hM0)
  have ly : litB s.1 y = true := lit_of HI.out.right (by rw [hye]; exact Int.emod_nonneg _ (by omega)) (by rw [hye]; exact Int.emod_lt_of_pos _ hM0)
  have lz : litB s.1 z = true := lit_of HI.out.right (by rw [hze]; exact Int.emod_nonneg _ (by omega)) (by rw [hze]; exact Int.emod_lt_of_pos _ hM0)
  have hv : s.1.vars < 1990 := by unfold Gr.vars; omega
  have x1 : x ≤ 9223372036854775807 := by have := lit_lt lx; omega
  have y1 : y ≤ 9223372036854775807 := by have := lit_lt ly; omega
  have z1 : z ≤ 9223372036854775807 := by have := lit_lt lz; omega
  have ea := andG_ok_of HI.out.right lx ly (by omega)
  have ga := andG_grows ea
  have ag := (andG_again ea ga.right (Ext.refl _)).2
  have hok1 := andG_ok HI.out.ok x y
  obtain ⟨j, r, hch⟩ := ite_chosen HI.out.right lz lx ly hv
  have hokj : GOk j := by have := iteG_ok HI.out.ok z x y; rw [hch.is] at this; exact this
  obtain ⟨h, p, hh⟩ : ∃ h p, andG s.1 x y = (h, p, 0) := ⟨(andG s.1 x y).1, (andG s.1 x y).2.1, by rw [← ea]⟩
  rw [hh] at ga ag hok1
  have HA := Lib.hid (fun (B : Option Addr) (d : Nat) (w1 : World) (k1 : s.1.as.length ≤ d) (k2 : Prs w1 w1.heap.size B s.1.as) => and_p s.1 B d w1 HI.out.ok k1 k2 x y x1 y1)
  have HA2 := Lib.hid (fun (B : Option Addr) (d : Nat) (w1 : World) (k1 : h.as.length ≤ d) (k2 : Prs w1 w1.heap.size B h.as) => and_p h B d w1 hok1 k1 k2 y x y1 x1)
  have HT := Lib.hid (fun (B : Option Addr) (d : Nat) (w1 : World) (k1 : s.1.as.length ≤ d) (k2 : Prs w1 w1.heap.size B s.1.as) => ite_p s.1 B d w1 HI.out.ok k1 k2 z x y z1 x1 y1)
  have HT2 := Lib.hid (fun (B : Option Addr) (d : Nat) (w1 : World) (k1 : j.as.length ≤ d) (k2 : Prs w1 w1.heap.size B j.as) => ite_p j B d w1 hokj k1 k2 z x y z1 x1 y1)
  rw [hch.is] at HT
  rw [hch.again] at HT2
  rw [hh] at HA
  rw [ag] at HA2
  have HGA := Lib.hid ga
  have HGJ := Lib.hid hch.grows
  have HOH := Lib.hid hok1
  have HOJ := Lib.hid hokj
  obtain ⟨qh, eqh, hqh⟩ := ga.more
  obtain ⟨qj, eqj, hqj⟩ := hch.grows.more
  have HQH : Hid (∀ k, k < s.1.as.length → h.as[k]? = s.1.as[k]?) := fun k hk => by
    show h.as[k]? = _
    rw [show h.as = s.1.as ++ qh from eqh, List.getElem?_append_left hk]
  have HQJ : Hid (∀ k, k < s.1.as.length → j.as[k]? = s.1.as[k]?) := fun k hk => by rw [eqj, List.getElem?_append_left hk]
  have m1 : h.as.length = s.1.as.length + qh.length := by rw [show h.as = s.1.as ++ qh from eqh, List.length_append]
  have m2 : j.as.length = s.1.as.length + qj.length := by rw [eqj, List.length_append]
  have k1 : (s.1.as.length : Int) ≤ (h.as.length : Int) := by omega
  have k2 : (h.as.length : Int) ≤ (s.1.as.length : Int) + 1 := by omega
  have k3 : (s.1.as.length : Int) ≤ (j.as.length : Int) := by omega
  have k4 : (j.as.length : Int) ≤ (s.1.as.length : Int) + 3 := by omega
  have hxe' := hxe.symm
  have hye' := hye.symm
  have hze' := hze.symm
  clear hp hx hxe hye hze hch hokj ga ag hok1 ea hh eqh hqh eqj hqj m1 m2
  go_enter Try.func12, Try.ntmps12
  go_wp2_with fail
  refine (awake1_any _).mono ?_
  rintro e w0 ⟨rfl, hb0⟩
  have HB0 := Lib.hid hb0
  clear hb0
  go_wp2_with fail
  refine (HM.out w0 HB0.out).mono ?_
  rintro e w1 ⟨B, d, rfl, hc1, hp1, hb1⟩
  have HB1 := Lib.hid (below_alloc (below2 HB0.out HB0.out.size hb1) (.cells #[.int .i64 s.1.n, .slice B s.1.as.length d] 24))
  have HG1 := Lib.hid (GBox.new hc1 hp1)
  clear hb1 hp1 hc1 HM HB0
  go_wp2_with fail
  refine (rvars_any _ _ _ _ _ n0 (by omega) (by omega)).mono ?_
  rintro e w2 ⟨rfl, hb2⟩
  have HB2 := Lib.hid (below2 HB1.out HB1.out.size hb2)
  have HG2 := Lib.hid (HG1.out.step hb2)
  have c0 := HG2.out.c0
  have c1 := HG2.out.c1
  clear hb2 HB1 HG1
  go_wp2_with fail
  go_quiet (fail)
  rw [hxe', hye', hze']
  go_wp2_with fail
  refine (HA.out B d _ HG2.out.cap (HG2.out.step (below_drewN (Below.refl w2.heap.size w2) _)).prs).mono ?_
  rintro e w3 ⟨B3, d3, rfl, hc3, hp3, hb3⟩
  have hb23 : Below w2.heap.size w2 w3 := below2 (below_drewN (Below.refl w2.heap.size w2) _) (Nat.le_refl _) hb3
  have HB3 := Lib.hid (below_alloc (below2 HB2.out HB2.out.size hb23) (.cells #[.int .i64 h.n, .slice B3 h.as.length d3] 24))
  have HG3 := Lib.hid ((HG2.out.step hb23).alloc (.cells #[.int .i64 h.n, .slice B3 h.as.length d3] 24))
  have HH3 := Lib.hid (GBox.new hc3 hp3)
  clear hb3 hb23 hp3 hc3 HB2 HG2 HA c0 c1 hxe' hye' hze'
  have c0 := HH3.out.c0
  have c1 := HH3.out.c1
  go_wp2_with fail
  refine (HA2.out B3 d3 _ HH3.out.cap HH3.out.prs).mono ?_
  rintro e w4 ⟨B4, d4, rfl, hc4, hp4, hb4⟩
  have HB4 := Lib.hid (below_alloc (below2 HB3.out HB3.out.size hb4) (.cells #[.int .i64 h.n, .slice B4 h.as.length d4] 24))
  have HG4 := Lib.hid ((HG3.out.step hb4).alloc (.cells #[.int .i64 h.n, .slice B4 h.as.length d4] 24))
  have HH4 := Lib.hid ((HH3.out.step hb4).alloc (.cells #[.int .i64 h.n, .slice B4 h.as.length d4] 24))
  have HI4 := Lib.hid (GBox.new hc4 hp4)
  clear hb4 hp4 hc4 HB3 HG3 HH3 HA2 c0 c1
  have c0 := HG4.out.c0
  have c1 := HG4.out.c1
  go_wp2_with fail
  refine (HT.out B d _ HG4.out.cap HG4.out.prs).mono ?_
  rintro e w5 ⟨B5, d5, rfl, hc5, hp5, hb5⟩
  have HB5 := Lib.hid (below_alloc (below2 HB4.out HB4.out.size hb5) (.cells #[.int .i64 j.n, .slice B5 j.as.length d5] 24))
  have HG5 := Lib.hid ((HG4.out.step hb5).alloc (.cells #[.int .i64 j.n, .slice B5 j.as.length d5] 24))
  have HH5 := Lib.hid ((HH4.out.step hb5).alloc (.cells #[.int .i64 j.n, .slice B5 j.as.length d5] 24))
  have HI5 := Lib.hid ((HI4.out.step hb5).alloc (.cells #[.int .i64 j.n, .slice B5 j.as.length d5] 24))
  have HJ5 := Lib.hid (GBox.new hc5 hp5)
  clear hb5 hp5 hc5 HB4 HG4 HH4 HI4 HT c0 c1
  have c0 := HJ5.out.c0
  have c1 := HJ5.out.c1
  go_wp2_with fail
  refine (HT2.out B5 d5 _ HJ5.out.cap HJ5.out.prs).mono ?_
  rintro e w6 ⟨B6, d6, rfl, hc6, hp6, hb6⟩
  have HB6 := Lib.hid (below_alloc (below2 HB5.out HB5.out.size hb6) (.cells #[.int .i64 j.n, .slice B6 j.as.length d6] 24))
  have HG6 := Lib.hid ((HG5.out.step hb6).alloc (.cells #[.int .i64 j.n, .slice B6 j.as.length d6] 24))
  have HH6 := Lib.hid ((HH5.out.step hb6).alloc (.cells #[.int .i64 j.n, .slice B6 j.as.length d6] 24))
  have HI6 := Lib.hid ((HI5.out.step hb6).alloc (.cells #[.int .i64 j.n, .slice B6 j.as.length d6] 24))
  have HJ6 := Lib.hid ((HJ5.out.step hb6).alloc (.cells #[.int .i64 j.n, .slice B6 j.as.length d6] 24))
  have HK6 := Lib.hid (GBox.new hc6 hp6)
  clear hb6 hp6 hc6 HB5 HG5 HH5 HI5 HJ5 HT2 c0 c1
  have c0 := HG6.out.c0
  have c1 := HG6.out.c1
  have d0 := HH6.out.c0
  have d1 := HH6.out.c1
  have e0 := HJ6.out.c0
  have e1 := HJ6.out.c1
  go_wp2_with fail
  clear c0 c1 d0 d1 e0 e1
  go_loopw [30, 31] (fun v i wr => ∃ k : Nat, k ≤ s.1.as.length ∧ v = .bool true ∧ i = .int .i64 k ∧ Below w.heap.size w wr ∧ GBox wr w1.heap.size s.1 B d ∧ GBox wr w3.heap.size h B3 d3 ∧ GBox wr w4.heap.size h B4 d4 ∧ GBox wr w5.heap.size j B5 d5 ∧ GBox wr w6.heap.size j B6 d6) (fun _ i _ => s.1.as.length - (intOf i).toNat)
  case atStart => exact ⟨0, Nat.zero_le _, rfl, rfl, HB6.out, HG6.out, HH6.out, HI6.out, HJ6.out, HK6.out⟩
  case round =>
    obtain ⟨k, hk, rfl, rfl, hbw, hg, hh, hi, hj, hm⟩ := hrel
    have HB7 := Lib.hid hbw
    have HG7 := Lib.hid hg
    have HH7 := Lib.hid hh
    have HI7 := Lib.hid hi
    have HJ7 := Lib.hid hj
    have HK7 := Lib.hid hm
    have c0 := HG7.out.c0
    have c1 := HG7.out.c1
    have d0 := HH7.out.c0
    have d1 := HH7.out.c1
    have e0 := HJ7.out.c0
    have e1 := HJ7.out.c1
    clear hbw hg hh hi hj hm HB6 HG6 HH6 HI6 HJ6 HK6
    by_cases hlt : k < s.1.as.length
    · have hlt1 : (k : Int) < (s.1.as.length : Int) := by omega
      have hlt2 : (k : Int) < (h.as.length : Int) := by omega
      have hlt3 : (k : Int) < (j.as.length : Int) := by omega
      obtain ⟨⟨p1, p2⟩, hpk⟩ : ∃ q, s.1.as[k]? = some q := ⟨_, List.getElem?_eq_getElem hlt⟩
      obtain ⟨b1, o1, rfl, _, g1, g2⟩ := HG7.out.prs k _ hpk
      obtain ⟨b2, o2, rfl, _, g3, g4⟩ := HH7.out.prs k _ ((HQH.out k hlt).trans hpk)
      obtain ⟨b3, o3, rfl, _, g5, g6⟩ := HJ7.out.prs k _ ((HQJ.out k hlt).trans hpk)
      have hqe := @eql_pair
      clear hpk
      go_wp2_with fail
      go_quiet (fail)
      all_goals go_wp2_with fail
      all_goals go_roundw
      case rel => exact ⟨k + 1, by omega, rfl, by go_num, below_drewN HB7.out _, HG7.out.step (below_drewN (Below.refl _ _) _), HH7.out.step (below_drewN (Below.refl _ _) _), HI7.out.step (below_drewN (Below.refl _ _) _), HJ7.out.step (below_drewN (Below.refl _ _) _), HK7.out.step (below_drewN (Below.refl _ _) _)⟩
      case measure => simp [intOf]; omega
    · have hlt1 : ¬ ((k : Int) < (s.1.as.length : Int)) := by omega
      go_wp2_with fail
      refine (Right_any h B3 d3 _ HOH.out HH7.out.prs).mono ?_
      rintro e w8 ⟨rfl, hb⟩
      rw [HGA.out.right]
      have HB8 := Lib.hid (below2 HB7.out HB7.out.size hb)
      have HH8 := Lib.hid (HH7.out.step hb)
      have HI8 := Lib.hid (HI7.out.step hb)
      have HJ8 := Lib.hid (HJ7.out.step hb)
      have HK8 := Lib.hid (HK7.out.step hb)
      clear hb c0 c1 d0 d1 e0 e1
      have d0 := HH8.out.c0
      have d1 := HH8.out.c1
      have e0 := HJ8.out.c0
      have e1 := HJ8.out.c1
      have c0 := True.intro
      have c1 := True.intro
      go_wp2_with fail
      refine (Right_any j B5 d5 _ HOJ.out HJ8.out.prs).mono ?_
      rintro e w9 ⟨rfl, hb⟩
      rw [HGJ.out.right]
      have HB9 := Lib.hid (below2 HB8.out HB8.out.size hb)
      have HH9 := Lib.hid (HH8.out.step hb)
      have HI9 := Lib.hid (HI8.out.step hb)
      have HJ9 := Lib.hid (HJ8.out.step hb)
      have HK9 := Lib.hid (HK8.out.step hb)
      clear hb c0 c1 d0 d1 e0 e1
      have d0 := HH9.out.c0
      have d1 := HH9.out.c1
      have c0 := HI9.out.c0
      have c1 := HI9.out.c1
      have e0 := HJ9.out.c0
      have e1 := HJ9.out.c1
      go_wp2_with fail
      refine (same_any h B3 B4 d3 d4 _ (by omega) HH9.out.prs HI9.out.prs).mono ?_
      rintro e w10 ⟨rfl, hb⟩
      have HB10 := Lib.hid (below2 HB9.out HB9.out.size hb)
      have HH10 := Lib.hid (HH9.out.step hb)
      have HJ10 := Lib.hid (HJ9.out.step hb)
      have HK10 := Lib.hid (HK9.out.step hb)
      clear hb c0 c1 d0 d1 e0 e1
      have d0 := HH10.out.c0
      have d1 := HH10.out.c1
      have e0 := HJ10.out.c0
      have e1 := HJ10.out.c1
      have c0 := HK10.out.c0
      have c1 := HK10.out.c1
      go_wp2_with fail
      refine (same_any j B5 B6 d5 d6 _ (by omega) HJ10.out.prs HK10.out.prs).mono ?_
      rintro e w11 ⟨rfl, hb⟩
      have HB11 := Lib.hid (below2 HB10.out HB10.out.size hb)
      have HH11 := Lib.hid (HH10.out.step hb)
      have HJ11 := Lib.hid (HJ10.out.step hb)
      clear hb c0 c1 d0 d1 e0 e1
      have d0 := HH11.out.c0
      have d1 := HH11.out.c1
      have e0 := HJ11.out.c0
      have e1 := HJ11.out.c1
      have c0 := True.intro
      have c1 := True.intro
      go_wp2_with fail
      refine (lit_yes h p true HGA.out.lit B3 d3 _ HOH.out.2.1 (by have := lit_lt HGA.out.lit; have := right_vars HGA.out.right; omega)).mono ?_
      rintro e w12 ⟨rfl, hb⟩
      have HB12 := Lib.hid (below2 HB11.out HB11.out.size hb)
      have HJ12 := Lib.hid (HJ11.out.step hb)
      clear hb c0 c1 d0 d1 e0 e1
      have e0 := HJ12.out.c0
      have e1 := HJ12.out.c1
      have c0 := True.intro
      have c1 := True.intro
      have d0 := True.intro
      have d1 := True.intro
      go_wp2_with fail
      refine (lit_yes j r true HGJ.out.lit B5 d5 _ HOJ.out.2.1 (by have := lit_lt HGJ.out.lit; have := right_vars HGJ.out.right; omega)).mono ?_
      rintro e w13 ⟨rfl, hb⟩
      have HB13 := Lib.hid (below2 HB12.out HB12.out.size hb)
      clear hb c0 c1 d0 d1 e0 e1
      have c0 := True.intro
      have c1 := True.intro
      have d0 := True.intro
      have d1 := True.intro
      have e0 := True.intro
      have e1 := True.intro
      go_wp2_with fail
      go_ret
      exact ⟨rfl, HB13.out⟩
end Go.Proofs.Ytbdhkagcbncefaa
