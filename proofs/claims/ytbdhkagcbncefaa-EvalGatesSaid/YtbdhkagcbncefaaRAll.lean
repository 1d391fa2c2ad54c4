/- Layer 2, the document's: what all variables are. -/
import Derived.Test.YtbdhkagcbncefaaBit
set_option linter.unusedVariables false
set_option linter.unusedSimpArgs false
namespace Go.Proofs.Ytbdhkagcbncefaa
open Go.RowKit Go.Maps

/-- A list of truth values is handed back. -/
def RetB (w : World) (v : List Bool) (e : Ending) (w' : World) : Prop :=
  ∃ A c, e = .returned (.slice A v.length c) ∧ v.length ≤ c ∧ Vals w' w'.heap.size A (bools v) ∧ Below w.heap.size w w'

theorem boolInfo : (Try.prog.info? 4).map (fun i => (i.zero, i.size, i.bytes)) = some (some (.bool false), 1, 1) := by kernel_rfl

/-- A right graph's gates look back. -/
theorem gate_lits {g : Gr} (hr : rightB g = true) {k : Nat} {p : Pr} (h : g.as[k]? = some p) : 0 ≤ p.1 ∧ p.1 / 2 < g.n + 1 + k ∧ 0 ≤ p.2 ∧ p.2 / 2 < g.n + 1 + k ∧ p.1 ≤ 4001 ∧ p.2 ≤ 4001 := by
  obtain ⟨⟨h0, h1, h2, h3⟩, hall, _⟩ := (right_iff g).1 hr
  have hm := hall k p h
  have hk := (List.getElem?_eq_some_iff.1 h).1
  obtain ⟨m1, m2, m3⟩ := (of_decide_eq_true hm : 2 ≤ p.2 ∧ p.2 / 2 < p.1 / 2 ∧ p.1 / 2 < g.n + 1 + k)
  omega

/-- The world with the parameter's box. -/
abbrev gBox (w : World) (g : Gr) (A : Option Addr) (c : Nat) : World := w.alloc (.cells #[.int .i64 g.n, .slice A g.as.length c] 24)

/-- What is known of a world within the call: the box stands, and all that was there before. -/
structure Boxed (w wr : World) (g : Gr) (A : Option Addr) (c : Nat) : Prop where
  below : Below (w.heap.size + 1) (gBox w g A c) wr

section
variable {w wr wr' : World} {g : Gr} {A : Option Addr} {c : Nat}
theorem gBox_size : (gBox w g A c).heap.size = w.heap.size + 1 := by simp [gBox]
theorem Boxed.begin_ : Boxed w (gBox w g A c) g A c := ⟨Below.refl _ _⟩
theorem Boxed.size (h : Boxed w wr g A c) : w.heap.size + 1 ≤ wr.heap.size := by have := h.below.size; rw [gBox_size] at this; exact this
theorem Boxed.blk (h : Boxed w wr g A c) : Blk wr w.heap.size 24 #[.int .i64 g.n, .slice A g.as.length c] := (Blk.new w _ _).below h.below (Nat.lt_succ_self _)
theorem Boxed.c0 (h : Boxed w wr g A c) : wr.cell? ⟨w.heap.size, 0, none⟩ = some (.int .i64 g.n) := h.blk.cell 0
theorem Boxed.c1 (h : Boxed w wr g A c) : wr.cell? ⟨w.heap.size, 1, none⟩ = some (.slice A g.as.length c) := h.blk.cell 1
theorem Boxed.low (h : Boxed w wr g A c) : Below w.heap.size w wr := ((Below.refl _ _).alloc (Nat.le_refl _) _).trans (h.below.mono (Nat.le_succ _))
theorem Boxed.step (h : Boxed w wr g A c) (hb : Below wr.heap.size wr wr') : Boxed w wr' g A c := ⟨h.below.trans (hb.mono h.size)⟩
theorem Boxed.alloc (h : Boxed w wr g A c) (o : Obj) : Boxed w (wr.alloc o) g A c := h.step ((Below.refl _ _).alloc (Nat.le_refl _) o)
theorem Boxed.grown (h : Boxed w wr g A c) {row : Option Nat} (hg : wr.grownBy wr' row) (hr : ∀ k, row = some k → w.heap.size + 1 ≤ k) : Boxed w wr' g A c := ⟨h.below.grown hg h.size hr⟩
theorem Boxed.prs (h : Boxed w wr g A c) (hp : Prs w w.heap.size A g.as) : Prs wr wr.heap.size A g.as := hp.after h.low
theorem Boxed.vals (h : Boxed w wr g A c) {B : Option Addr} {xs : List Value} (hx : Vals w w.heap.size B xs) : Vals wr wr.heap.size B xs := hx.after h.low
end

set_option maxRecDepth 100000 in
set_option maxHeartbeats 2000000 in
theorem rall_any (g : Gr) (xs : List Bool) (A B : Option Addr) (c d : Nat) (w : World) (hg : GOk g) (hc : g.as.length ≤ c) (hp : Prs w w.heap.size A g.as) (hd : xs.length ≤ d) (hl : xs.length ≤ 140737488355328) (hx : Vals w w.heap.size B (bools xs)) :
    Calls Try.prog 30 #[.agg #[.int .i64 g.n, .slice A g.as.length c], .slice B xs.length d] w (RetB w (allG g xs)) := by
  have hnot := @not_run Try.prog
  have HX := Lib.hid hx
  have HP := Lib.hid hp
  have HOK := Lib.hid hg
  have H0 := Lib.hid (Boxed.begin_ (w := w) (g := g) (A := A) (c := c))
  clear hp hx hg
  go_enter Try.func30, Try.ntmps30
  go_wp2_with fail
  refine (rright_any g A c _ HOK.out (H0.out.prs HP.out)).mono ?_
  rintro e w1 ⟨rfl, hb1⟩
  have H1 := Lib.hid (H0.out.step hb1)
  clear hb1
  have c0 := H1.out.c0
  have c1 := H1.out.c1
  cases hr : rightB g
  · have HE : Hid (allG g xs = []) := by show allG g xs = []; unfold allG; rw [hr]; rfl
    go_wp2_with fail
    go_ret
    rw [HE.out]
    exact ⟨none, 0, rfl, Nat.le_refl _, Vals.nil, H1.out.low⟩
  · by_cases hn : (xs.length : Int) = g.n
    · have HE : Hid (allG g xs = valsAt g xs g.as.length) := allG_is hr hn
      have HR := Lib.hid hr
      obtain ⟨g0, g1, g2, g3⟩ := (size_iff g).1 (right_size hr)
      have hl2 : xs.length ≤ 2000 := by omega
      obtain ⟨i0, hi0, hz0, hz1, hz2⟩ := info_parts boolInfo
      clear hr
      have HO1 := Lib.hid (World.ownsRow_lit (base := w.heap.size + 1) (e := 4) (size := 1) w1 #[.bool false] 1 H1.out.size (by unfold maxLen; omega) rfl)
      have H2 := Lib.hid (H1.out.alloc (.cells #[.bool false] 4))
      have hs := H1.out.size
      go_wp2_with (first
        | (at_builtin; refine wpList_append_vals _ rfl (.tmp 17) (.tmp 18) _ rfl (w.heap.size + 1) 4 i0 _ 1 1 Try.underlying25 hi0 hz0 hz1 hz2 rfl (by omega) (.slice (some ⟨w1.heap.size, 0, none⟩) 1 1) 1 [.bool false] rfl HO1.out _ B xs.length d (bools xs) rfl (by simp [bools]) (H2.out.vals HX.out) (bools_one xs) (by unfold maxLen; omega) (by omega) (by simp; omega) ?_; intro v1 w2 hown2 hg2; have H3 := Lib.hid (H2.out.grown hg2 (own_block HO1.out)); have HO2 := Lib.hid hown2; clear hown2 hg2 c0 c1; have c0 := H3.out.c0; have c1 := H3.out.c1))
      obtain ⟨A2, d2, hv2, _⟩ := own_form HO2.out
      subst hv2
      clear c0 c1 H0 H1 H2 HO1
      go_loopw [5, 6] (fun v i wr => ∃ (k : Nat) (A' : Option Addr) (c' : Nat), k ≤ g.as.length ∧ v = .slice A' (valsAt g xs k).length c' ∧ i = .int .i64 k ∧ wr.ownsRow (w.heap.size + 1) 4 1 (.slice A' (valsAt g xs k).length c') (valsAt g xs k).length (bools (valsAt g xs k)) ∧ Boxed w wr g A c) (fun _ i _ => g.as.length - (intOf i).toNat)
      case atStart =>
        have hl0 : (valsAt g xs 0).length = 1 + xs.length := by rw [valsAt_zero]; simp; omega
        refine ⟨0, A2, d2, Nat.zero_le _, by rw [hl0], rfl, ?_, H3.out⟩
        rw [hl0, valsAt_zero]
        exact HO2.out
      case round =>
        obtain ⟨k, A', c', hk, rfl, rfl, hown, hbx⟩ := hrel
        have HO := Lib.hid hown
        have HB := Lib.hid hbx
        have c0 := HB.out.c0
        have c1 := HB.out.c1
        have HVL : Hid ((valsAt g xs k).length = 1 + xs.length + k) := valsAt_length hk
        clear hown hbx H3 HO2
        by_cases hlt : k < g.as.length
        · have hlt' : (k : Int) < (g.as.length : Int) := by omega
          obtain ⟨⟨p1, p2⟩, hpk⟩ : ∃ q, g.as[k]? = some q := ⟨_, List.getElem?_eq_getElem hlt⟩
          obtain ⟨b', o', rfl, _, q1, q2⟩ := (HB.out.prs HP.out) k _ hpk
          obtain ⟨r1, r2, r3, r4, r5, r6⟩ := gate_lits HR.out hpk
          simp only at r1 r2 r3 r4 r5 r6
          have HPK := Lib.hid hpk
          clear hpk
          have v1' : p1 / 2 < ((valsAt g xs k).length : Int) := by rw [HVL.out]; omega
          have v2' : p2 / 2 < ((valsAt g xs k).length : Int) := by rw [HVL.out]; omega
          have V1 := Lib.hid v1'
          have V2 := Lib.hid v2'
          clear v1' v2'
          go_wp2_with fail
          refine (rbit_any (valsAt g xs k) p1 A' c' _ r1 V1.out (by omega) (Vals.of_own HO.out)).mono ?_
          rintro e w3 ⟨rfl, hb3⟩
          have HB3 := Lib.hid (HB.out.step hb3)
          have HO3 := Lib.hid (own_below HO.out hb3)
          clear hb3 HB HO c0 c1 q1 q2
          have c0 := HB3.out.c0
          have c1 := HB3.out.c1
          obtain ⟨b4, o4, e4, _, q1, q2⟩ := (HB3.out.prs HP.out) k _ HPK.out
          injection e4 with e4
          injection e4 with e4 e5
          subst e4 e5
          have hs3 := HB3.out.size
          cases hx1 : bitB (valsAt g xs k) p1
          · have HX1 := Lib.hid hx1
            clear hx1
            go_wp2_with (first | (at_builtin; refine wpList_append_vals _ rfl (.tmp 27) (.tmp 46) _ rfl (w.heap.size + 1) 4 i0 _ 1 1 Try.underlying25 hi0 hz0 hz1 hz2 rfl (by omega) (.slice A' (valsAt g xs k).length c') (valsAt g xs k).length (bools (valsAt g xs k)) rfl (HO3.out.alloc _) _ _ 1 1 [.bool false] rfl rfl (vals_new w3 [.bool false] 4) (bools_one [false]) (by rw [HVL.out]; unfold maxLen; omega) (by rw [HVL.out]; omega) (by simp; omega) ?_; intro v5 w5 hown5 hg5; have HO5 := Lib.hid hown5; have HB5 := Lib.hid ((HB3.out.alloc (.cells #[.bool false] 4)).grown hg5 (own_block HO3.out)); clear hown5 hg5))
            all_goals go_roundw
            case rel =>
              obtain ⟨A6, c6, hv6, _⟩ := own_form HO5.out
              subst hv6
              have hl6 : (valsAt g xs (k + 1)).length = (valsAt g xs k).length + 1 := by rw [valsAt_succ HPK.out]; simp
              refine ⟨k + 1, A6, c6, by omega, by rw [hl6], by go_num, ?_, HB5.out⟩
              rw [hl6, valsAt_succ HPK.out, bools_snoc, HX1.out, Bool.false_and]
              exact HO5.out
            case measure => simp [intOf]; omega
          · have HX1 := Lib.hid hx1
            clear hx1
            go_wp2_with fail
            refine (rbit_any (valsAt g xs k) p2 A' c' _ r3 V2.out (by omega) (Vals.of_own HO3.out)).mono ?_
            rintro e w4 ⟨rfl, hb4⟩
            have HB4 := Lib.hid (HB3.out.step hb4)
            have HO4 := Lib.hid (own_below HO3.out hb4)
            clear hb4 HB3 HO3 c0 c1 q1 q2
            have c0 := HB4.out.c0
            have c1 := HB4.out.c1
            have hs4 := HB4.out.size
            obtain ⟨y, hy⟩ : ∃ y, y = bitB (valsAt g xs k) p2 := ⟨_, rfl⟩
            rw [← hy]
            have HY := Lib.hid hy
            clear hy
            go_wp2_with (first | (at_builtin; refine wpList_append_vals _ rfl (.tmp 27) (.tmp 46) _ rfl (w.heap.size + 1) 4 i0 _ 1 1 Try.underlying25 hi0 hz0 hz1 hz2 rfl (by omega) (.slice A' (valsAt g xs k).length c') (valsAt g xs k).length (bools (valsAt g xs k)) rfl (HO4.out.alloc _) _ _ 1 1 [.bool y] rfl rfl (vals_new w4 [.bool y] 4) (bools_one [y]) (by rw [HVL.out]; unfold maxLen; omega) (by rw [HVL.out]; omega) (by simp; omega) ?_; intro v5 w5 hown5 hg5; have HO5 := Lib.hid hown5; have HB5 := Lib.hid ((HB4.out.alloc (.cells #[.bool y] 4)).grown hg5 (own_block HO4.out)); clear hown5 hg5))
            all_goals go_roundw
            case rel =>
              obtain ⟨A6, c6, hv6, _⟩ := own_form HO5.out
              subst hv6
              have hl6 : (valsAt g xs (k + 1)).length = (valsAt g xs k).length + 1 := by rw [valsAt_succ HPK.out]; simp
              refine ⟨k + 1, A6, c6, by omega, by rw [hl6], by go_num, ?_, HB5.out⟩
              rw [hl6, valsAt_succ HPK.out, bools_snoc, HX1.out, Bool.true_and, ← HY.out]
              exact HO5.out
            case measure => simp [intOf]; omega
        · have hlt' : ¬ ((k : Int) < (g.as.length : Int)) := by omega
          obtain rfl : k = g.as.length := by omega
          go_wp2_with fail
          go_ret
          rw [HE.out]
          exact ⟨A', c', rfl, own_cap HO.out, Vals.of_own HO.out, HB.out.low⟩
    · have HE : Hid (allG g xs = []) := by show allG g xs = []; unfold allG; rw [hr, decide_eq_false hn]; rfl
      have hn' : ¬ ((xs.length : Int) = g.n) := hn
      clear hr
      go_wp2_with fail
      go_ret
      rw [HE.out]
      exact ⟨none, 0, rfl, Nat.le_refl _, Vals.nil, H1.out.low⟩
end Go.Proofs.Ytbdhkagcbncefaa
