/- Layer 2: a literal by the variables' values. Layer 2, the document's: what all variables are. Layer 2, the document's: whether a literal is so. Layer 2: what all variables are. Layer 2: values of three, the small functions. Layer 2, the document's: what a literal is by inputs that may be either. Layer 2: whether a literal is so; the lowest bits of a number; two lists. Layer 2: what a literal is by inputs that may be either. Layer 2: lists of truth values, the lowest bits, 'awake'. -/
import Derived.Test.YtbkmgblijncjhaaK3
import Derived.Test.YtbkmgblijncjhaaG1
import Derived.Deep.QuietTactic
import Derived.BigQuiet
import Derived.Test.YtbkmgblijncjhaaK2
namespace Go.Proofs.Ytbkmgblijncjhaa
open Go.RowKit Go.Maps

/-- The value at a literal's variable. -/
theorem bools_at {w : World} {B : Nat} {A : Option Addr} {v : List Bool} (h : Vals w B A (bools v)) {l : Int} (h0 : 0 ≤ l) (h1 : l / 2 < v.length) :
    ∃ b o x, A = some ⟨b, o, none⟩ ∧ b < B ∧ w.cell? ⟨b, o + (l / 2).toNat, none⟩ = some (.bool x) ∧ bitB v l = (x != decide (l % 2 = 1)) := by
  have hl : (l / 2).toNat < v.length := by omega
  obtain ⟨b, o, e, hb, hc⟩ := h.at_ (k := (l / 2).toNat) (by rw [bools_length]; exact hl)
  refine ⟨b, o, v[(l / 2).toNat], e, hb, by rw [hc]; simp [bools], ?_⟩
  unfold bitB
  rw [List.getElem?_eq_getElem hl]
  rfl

theorem and_i64 (a b : Nat) (ha : a < 9223372036854775808) (hb : b < 9223372036854775808) : bits .and .i64 (a : Int) (b : Int) = ((a &&& b : Nat) : Int) := by
  have hx : a &&& b < 9223372036854775808 := Nat.and_lt_two_pow (n := 63) a hb
  show IntKind.i64.wrap ((BitVec.ofInt 64 (a : Int) &&& BitVec.ofInt 64 (b : Int)).toNat : Int) = _
  rw [BitVec.toNat_and, ofInt64_nat a ha, ofInt64_nat b hb]
  exact IntWalk.i64_in _ (by omega)

theorem and_one (l : Int) (h0 : 0 ≤ l) (h1 : l ≤ 9223372036854775807) : bits .and .i64 l 1 = l % 2 := by
  have := and_i64 l.toNat 1 (by omega) (by omega)
  rw [Nat.and_one_is_mod] at this
  have e : ((l.toNat : Nat) : Int) = l := by omega
  rw [e] at this
  rw [show ((1 : Nat) : Int) = 1 from rfl] at this
  rw [this]
  omega

theorem odd_beq (l : Int) : (l % 2 == 1) = decide (l % 2 = 1) := by by_cases h : l % 2 = 1 <;> simp [h]

theorem rbit_any (v : List Bool) (l : Int) (A : Option Addr) (c : Nat) (w : World) (h0 : 0 ≤ l) (h1 : l / 2 < v.length) (h2 : l ≤ 9223372036854775807) (hv : Vals w w.heap.size A (bools v)) :
    Calls Try.prog 37 #[.slice A v.length c, .int .i64 l] w (Ret w (.bool (bitB v l))) := by
  obtain ⟨b, o, x, rfl, _, q, e⟩ := bools_at hv h0 h1
  have HE := Lib.hid e
  have hd : 0 ≤ l / 2 := by omega
  clear hv e
  go_enter Try.func37, Try.ntmps37
  go_wp2_with fail
  go_ret
  refine Ret.mk ?_ (Below.refl _ _)
  show Value.bool (!(x == (l % 2 == 1))) = _
  rw [HE.out, odd_beq]
  rfl

end Go.Proofs.Ytbkmgblijncjhaa

set_option linter.unusedVariables false
set_option linter.unusedSimpArgs false
namespace Go.Proofs.Ytbkmgblijncjhaa
open Go.RowKit Go.Maps

/-- A list of truth values is handed back. -/
def RetB (w : World) (v : List Bool) (e : Ending) (w' : World) : Prop :=
  ∃ A c, e = .returned (.slice A v.length c) ∧ v.length ≤ c ∧ Vals w' w'.heap.size A (bools v) ∧ Below w.heap.size w w'

theorem boolInfo : (Try.prog.info? 4).map (fun i => (i.zero, i.size, i.bytes)) = some (some (.bool false), 1, 1) := by kernel_rfl

/-- A right graph's gates look back. -/
theorem gate_lits {g : Gr} (hr : rightB g = true) {k : Nat} {p : Pr} (h : g.as[k]? = some p) : 0 ≤ p.1 ∧ p.1 / 2 < g.n + 1 + k ∧ 0 ≤ p.2 ∧ p.2 / 2 < g.n + 1 + k ∧ p.1 ≤ 4001 ∧ p.2 ≤ 4001 := by
  obtain ⟨⟨h0, h1, h2, h3⟩, hall, _⟩ := (right_iff g).1 hr
  have hm := hall k p h
  have hk := (List.getElem?_eq_some_iff.1 h).1
  obtain ⟨m1, m2, m3⟩ := (of_decide_eq_true hm : 2 ≤ p.2 ∧ p.2 / 2 < p.1 / 2 ∧ p.1 / 2 < g.n + 1 + k)
  omega

/-- The world with the parameter's box. -/
abbrev gBox (w : World) (g : Gr) (A : Option Addr) (c : Nat) : World := w.alloc (.cells #[.int .i64 g.n, .slice A g.as.length c] 41)

/-- What is known of a world within the call: the box stands, and all that was there before. -/
structure Boxed (w wr : World) (g : Gr) (A : Option Addr) (c : Nat) : Prop where
  below : Below (w.heap.size + 1) (gBox w g A c) wr

section
variable {w wr wr' : World} {g : Gr} {A : Option Addr} {c : Nat}
theorem gBox_size : (gBox w g A c).heap.size = w.heap.size + 1 := by simp [gBox]
theorem Boxed.begin_ : Boxed w (gBox w g A c) g A c := ⟨Below.refl _ _⟩
theorem Boxed.size (h : Boxed w wr g A c) : w.heap.size + 1 ≤ wr.heap.size := by have := h.below.size; rw [gBox_size] at this; exact this
theorem Boxed.blk (h : Boxed w wr g A c) : Blk wr w.heap.size 41 #[.int .i64 g.n, .slice A g.as.length c] := (Blk.new w _ _).below h.below (Nat.lt_succ_self _)
theorem Boxed.c0 (h : Boxed w wr g A c) : wr.cell? ⟨w.heap.size, 0, none⟩ = some (.int .i64 g.n) := h.blk.cell 0
theorem Boxed.c1 (h : Boxed w wr g A c) : wr.cell? ⟨w.heap.size, 1, none⟩ = some (.slice A g.as.length c) := h.blk.cell 1
theorem Boxed.low (h : Boxed w wr g A c) : Below w.heap.size w wr := ((Below.refl _ _).alloc (Nat.le_refl _) _).trans (h.below.mono (Nat.le_succ _))
theorem Boxed.step (h : Boxed w wr g A c) (hb : Below wr.heap.size wr wr') : Boxed w wr' g A c := ⟨h.below.trans (hb.mono h.size)⟩
theorem Boxed.alloc (h : Boxed w wr g A c) (o : Obj) : Boxed w (wr.alloc o) g A c := h.step ((Below.refl _ _).alloc (Nat.le_refl _) o)
theorem Boxed.grown (h : Boxed w wr g A c) {row : Option Nat} (hg : wr.grownBy wr' row) (hr : ∀ k, row = some k → w.heap.size + 1 ≤ k) : Boxed w wr' g A c := ⟨h.below.grown hg h.size hr⟩
theorem Boxed.prs (h : Boxed w wr g A c) (hp : Prs w w.heap.size A g.as) : Prs wr wr.heap.size A g.as := hp.after h.low
theorem Boxed.vals (h : Boxed w wr g A c) {B : Option Addr} {xs : List Value} (hx : Vals w w.heap.size B xs) : Vals wr wr.heap.size B xs := hx.after h.low
end

set_option maxRecDepth 100000 in
set_option maxHeartbeats 2000000 in
theorem rall_any (g : Gr) (xs : List Bool) (A B : Option Addr) (c d : Nat) (w : World) (hg : GOk g) (hc : g.as.length ≤ c) (hp : Prs w w.heap.size A g.as) (hd : xs.length ≤ d) (hl : xs.length ≤ 140737488355328) (hx : Vals w w.heap.size B (bools xs)) :
    Calls Try.prog 36 #[.agg #[.int .i64 g.n, .slice A g.as.length c], .slice B xs.length d] w (RetB w (allG g xs)) := by
  have hnot := @not_run Try.prog
  have HX := Lib.hid hx
  have HP := Lib.hid hp
  have HOK := Lib.hid hg
  have H0 := Lib.hid (Boxed.begin_ (w := w) (g := g) (A := A) (c := c))
  clear hp hx hg
  go_enter Try.func36, Try.ntmps36
  go_wp2_with fail
  refine (rright_any g A c _ HOK.out (H0.out.prs HP.out)).mono ?_
  rintro e w1 ⟨rfl, hb1⟩
  have H1 := Lib.hid (H0.out.step hb1)
  clear hb1
  have c0 := H1.out.c0
  have c1 := H1.out.c1
  cases hr : rightB g
  · have HE : Hid (allG g xs = []) := by show allG g xs = []; unfold allG; rw [hr]; rfl
    go_wp2_with fail
    go_ret
    rw [HE.out]
    exact ⟨none, 0, rfl, Nat.le_refl _, Vals.nil, H1.out.low⟩
  · by_cases hn : (xs.length : Int) = g.n
    · have HE : Hid (allG g xs = valsAt g xs g.as.length) := allG_is hr hn
      have HR := Lib.hid hr
      obtain ⟨g0, g1, g2, g3⟩ := (size_iff g).1 (right_size hr)
      have hl2 : xs.length ≤ 2000 := by omega
      obtain ⟨i0, hi0, hz0, hz1, hz2⟩ := info_parts boolInfo
      clear hr
      have HO1 := Lib.hid (World.ownsRow_lit (base := w.heap.size + 1) (e := 4) (size := 1) w1 #[.bool false] 1 H1.out.size (by unfold maxLen; omega) rfl)
      have H2 := Lib.hid (H1.out.alloc (.cells #[.bool false] 4))
      have hs := H1.out.size
      go_wp2_with (first
        | (at_builtin; refine wpList_append_vals _ rfl (.tmp 17) (.tmp 18) _ rfl (w.heap.size + 1) 4 i0 _ 1 1 Try.underlying27 hi0 hz0 hz1 hz2 rfl (by omega) (.slice (some ⟨w1.heap.size, 0, none⟩) 1 1) 1 [.bool false] rfl HO1.out _ B xs.length d (bools xs) rfl (by simp [bools]) (H2.out.vals HX.out) (bools_one xs) (by unfold maxLen; omega) (by omega) (by simp; omega) ?_; intro v1 w2 hown2 hg2; have H3 := Lib.hid (H2.out.grown hg2 (own_block HO1.out)); have HO2 := Lib.hid hown2; clear hown2 hg2 c0 c1; have c0 := H3.out.c0; have c1 := H3.out.c1))
      obtain ⟨A2, d2, hv2, _⟩ := own_form HO2.out
      subst hv2
      clear c0 c1 H0 H1 H2 HO1
      go_loopw [5, 6] (fun v i wr => ∃ (k : Nat) (A' : Option Addr) (c' : Nat), k ≤ g.as.length ∧ v = .slice A' (valsAt g xs k).length c' ∧ i = .int .i64 k ∧ wr.ownsRow (w.heap.size + 1) 4 1 (.slice A' (valsAt g xs k).length c') (valsAt g xs k).length (bools (valsAt g xs k)) ∧ Boxed w wr g A c) (fun _ i _ => g.as.length - (intOf i).toNat)
      case atStart =>
        have hl0 : (valsAt g xs 0).length = 1 + xs.length := by rw [valsAt_zero]; simp; omega
        refine ⟨0, A2, d2, Nat.zero_le _, by rw [hl0], rfl, ?_, H3.out⟩
        rw [hl0, valsAt_zero]
        exact HO2.out
      case round =>
        obtain ⟨k, A', c', hk, rfl, rfl, hown, hbx⟩ := hrel
        have HO := Lib.hid hown
        have HB := Lib.hid hbx
        have c0 := HB.out.c0
        have c1 := HB.out.c1
        have HVL : Hid ((valsAt g xs k).length = 1 + xs.length + k) := valsAt_length hk
        clear hown hbx H3 HO2
        by_cases hlt : k < g.as.length
        · have hlt' : (k : Int) < (g.as.length : Int) := by omega
          obtain ⟨⟨p1, p2⟩, hpk⟩ : ∃ q, g.as[k]? = some q := ⟨_, List.getElem?_eq_getElem hlt⟩
          obtain ⟨b', o', rfl, _, q1, q2⟩ := (HB.out.prs HP.out) k _ hpk
          obtain ⟨r1, r2, r3, r4, r5, r6⟩ := gate_lits HR.out hpk
          simp only at r1 r2 r3 r4 r5 r6
          have HPK := Lib.hid hpk
          clear hpk
          have v1' : p1 / 2 < ((valsAt g xs k).length : Int) := by rw [HVL.out]; omega
          have v2' : p2 / 2 < ((valsAt g xs k).length : Int) := by rw [HVL.out]; omega
          have V1 := Lib.hid v1'
          have V2 := Lib.hid v2'
          clear v1' v2'
          go_wp2_with fail
          refine (rbit_any (valsAt g xs k) p1 A' c' _ r1 V1.out (by omega) (Vals.of_own HO.out)).mono ?_
          rintro e w3 ⟨rfl, hb3⟩
          have HB3 := Lib.hid (HB.out.step hb3)
          have HO3 := Lib.hid (own_below HO.out hb3)
          clear hb3 HB HO c0 c1 q1 q2
          have c0 := HB3.out.c0
          have c1 := HB3.out.c1
          obtain ⟨b4, o4, e4, _, q1, q2⟩ := (HB3.out.prs HP.out) k _ HPK.out
          injection e4 with e4
          injection e4 with e4 e5
          subst e4 e5
          have hs3 := HB3.out.size
          cases hx1 : bitB (valsAt g xs k) p1
          · have HX1 := Lib.hid hx1
            clear hx1
            go_wp2_with (first | (at_builtin; refine wpList_append_vals _ rfl (.tmp 27) (.tmp 46) _ rfl (w.heap.size + 1) 4 i0 _ 1 1 Try.underlying27 hi0 hz0 hz1 hz2 rfl (by omega) (.slice A' (valsAt g xs k).length c') (valsAt g xs k).length (bools (valsAt g xs k)) rfl (HO3.out.alloc _) _ _ 1 1 [.bool false] rfl rfl (vals_new w3 [.bool false] 4) (bools_one [false]) (by rw [HVL.out]; unfold maxLen; omega) (by rw [HVL.out]; omega) (by simp; omega) ?_; intro v5 w5 hown5 hg5; have HO5 := Lib.hid hown5; have HB5 := Lib.hid ((HB3.out.alloc (.cells #[.bool false] 4)).grown hg5 (own_block HO3.out)); clear hown5 hg5))
            all_goals go_roundw
            case rel =>
              obtain ⟨A6, c6, hv6, _⟩ := own_form HO5.out
              subst hv6
              have hl6 : (valsAt g xs (k + 1)).length = (valsAt g xs k).length + 1 := by rw [valsAt_succ HPK.out]; simp
              refine ⟨k + 1, A6, c6, by omega, by rw [hl6], by go_num, ?_, HB5.out⟩
              rw [hl6, valsAt_succ HPK.out, bools_snoc, HX1.out, Bool.false_and]
              exact HO5.out
            case measure => simp [intOf]; omega
          · have HX1 := Lib.hid hx1
            clear hx1
            go_wp2_with fail
            refine (rbit_any (valsAt g xs k) p2 A' c' _ r3 V2.out (by omega) (Vals.of_own HO3.out)).mono ?_
            rintro e w4 ⟨rfl, hb4⟩
            have HB4 := Lib.hid (HB3.out.step hb4)
            have HO4 := Lib.hid (own_below HO3.out hb4)
            clear hb4 HB3 HO3 c0 c1 q1 q2
            have c0 := HB4.out.c0
            have c1 := HB4.out.c1
            have hs4 := HB4.out.size
            obtain ⟨y, hy⟩ : ∃ y, y = bitB (valsAt g xs k) p2 := ⟨_, rfl⟩
            rw [← hy]
            have HY := Lib.hid hy
            clear hy
            go_wp2_with (first | (at_builtin; refine wpList_append_vals _ rfl (.tmp 27) (.tmp 46) _ rfl (w.heap.size + 1) 4 i0 _ 1 1 Try.underlying27 hi0 hz0 hz1 hz2 rfl (by omega) (.slice A' (valsAt g xs k).length c') (valsAt g xs k).length (bools (valsAt g xs k)) rfl (HO4.out.alloc _) _ _ 1 1 [.bool y] rfl rfl (vals_new w4 [.bool y] 4) (bools_one [y]) (by rw [HVL.out]; unfold maxLen; omega) (by rw [HVL.out]; omega) (by simp; omega) ?_; intro v5 w5 hown5 hg5; have HO5 := Lib.hid hown5; have HB5 := Lib.hid ((HB4.out.alloc (.cells #[.bool y] 4)).grown hg5 (own_block HO4.out)); clear hown5 hg5))
            all_goals go_roundw
            case rel =>
              obtain ⟨A6, c6, hv6, _⟩ := own_form HO5.out
              subst hv6
              have hl6 : (valsAt g xs (k + 1)).length = (valsAt g xs k).length + 1 := by rw [valsAt_succ HPK.out]; simp
              refine ⟨k + 1, A6, c6, by omega, by rw [hl6], by go_num, ?_, HB5.out⟩
              rw [hl6, valsAt_succ HPK.out, bools_snoc, HX1.out, Bool.true_and, ← HY.out]
              exact HO5.out
            case measure => simp [intOf]; omega
        · have hlt' : ¬ ((k : Int) < (g.as.length : Int)) := by omega
          obtain rfl : k = g.as.length := by omega
          go_wp2_with fail
          go_ret
          rw [HE.out]
          exact ⟨A', c', rfl, own_cap HO.out, Vals.of_own HO.out, HB.out.low⟩
    · have HE : Hid (allG g xs = []) := by show allG g xs = []; unfold allG; rw [hr, decide_eq_false hn]; rfl
      have hn' : ¬ ((xs.length : Int) = g.n) := hn
      clear hr
      go_wp2_with fail
      go_ret
      rw [HE.out]
      exact ⟨none, 0, rfl, Nat.le_refl _, Vals.nil, H1.out.low⟩
end Go.Proofs.Ytbkmgblijncjhaa

namespace Go.Proofs.Ytbkmgblijncjhaa
open Go.RowKit Go.Maps

theorem lit_vals {g : Gr} {xs : List Bool} {l : Int} (ha : 0 < (allG g xs).length) (hl : litB g l = true) : 0 ≤ l ∧ l / 2 < ((allG g xs).length : Int) ∧ l ≤ 4001 := by
  unfold allG at ha ⊢
  split at ha
  · rename_i h
    rw [if_pos h]
    simp only [Bool.and_eq_true, decide_eq_true_eq] at h
    obtain ⟨hr, hn⟩ := h
    obtain ⟨a, b, c, d⟩ := (litB_iff g l).1 hl
    obtain ⟨h0, h1, h2, h3⟩ := (size_iff g).1 (right_size hr)
    rw [valsFrom_length]
    simp only [List.length_cons]
    omega
  · simp at ha

set_option maxRecDepth 100000 in
set_option maxHeartbeats 2000000 in
theorem reval_any (g : Gr) (l : Int) (xs : List Bool) (A B : Option Addr) (c d : Nat) (w : World) (hg : GOk g) (hc : g.as.length ≤ c) (hp : Prs w w.heap.size A g.as) (hd : xs.length ≤ d) (hl : xs.length ≤ 140737488355328) (hx : Vals w w.heap.size B (bools xs)) (hll : l ≤ 9223372036854775807) :
    Calls Try.prog 17 #[.agg #[.int .i64 g.n, .slice A g.as.length c], .int .i64 l, .slice B xs.length d] w (Ret w (.bool (evalG g l xs))) := by
  have HX := Lib.hid hx
  have HP := Lib.hid hp
  have HOK := Lib.hid hg
  have hgl : g.as.length ≤ 8796093022208 := hg.2.1
  have H0 := Lib.hid (Boxed.begin_ (w := w) (g := g) (A := A) (c := c))
  clear hp hx hg
  go_enter Try.func17, Try.ntmps17
  go_wp2_with fail
  refine (rall_any g xs A B c d _ HOK.out hc (H0.out.prs HP.out) hd hl (H0.out.vals HX.out)).mono ?_
  rintro e w1 ⟨A1, c1, rfl, hc1, hv1, hb1⟩
  have H1 := Lib.hid (H0.out.step hb1)
  have HV1 := Lib.hid hv1
  clear hb1 hv1
  have c0 := H1.out.c0
  have c1 := H1.out.c1
  by_cases hz : 0 < (allG g xs).length
  · have hz' : (0 : Int) < ((allG g xs).length : Int) := by omega
    go_wp2_with fail
    refine (rlit_any g l A c _ hgl hll).mono ?_
    rintro e w2 ⟨rfl, hb2⟩
    have H2 := Lib.hid (H1.out.step hb2)
    have HV2 := Lib.hid (HV1.out.after hb2)
    clear hb2 c0 c1
    cases hlt : litB g l
    · have HE : Hid (evalG g l xs = false) := by show evalG g l xs = false; unfold evalG; rw [hlt]; simp
      go_wp2_with fail
      go_ret
      exact Ret.mk (by rw [HE.out]; rfl) H2.out.low
    · have HE : Hid (evalG g l xs = bitB (allG g xs) l) := by show evalG g l xs = _; unfold evalG; rw [hlt, decide_eq_true hz]; simp
      obtain ⟨q0, q1, q2⟩ := lit_vals hz hlt
      have Q1 := Lib.hid q1
      clear q1
      go_wp2_with fail
      refine (rbit_any (allG g xs) l A1 _ _ q0 Q1.out hll HV2.out).mono ?_
      rintro e w3 ⟨rfl, hb3⟩
      have H3 := Lib.hid (H2.out.step hb3)
      clear hb3
      go_wp2_with fail
      go_ret
      exact Ret.mk (by rw [HE.out]; rfl) H3.out.low
  · have HE : Hid (evalG g l xs = false) := by show evalG g l xs = false; unfold evalG; rw [decide_eq_false hz]; rfl
    have hz' : ¬ ((0 : Int) < ((allG g xs).length : Int)) := by omega
    go_wp2_with fail
    go_ret
    exact Ret.mk (by rw [HE.out]; rfl) H1.out.low
end Go.Proofs.Ytbkmgblijncjhaa

set_option linter.unusedVariables false
set_option linter.unusedSimpArgs false
namespace Go.Proofs.Ytbkmgblijncjhaa
open Go.RowKit Go.Maps

/-- A row of truth values that is made with one element. -/
theorem make_bools (C : Int) (h1 : 1 ≤ C) (h2 : C ≤ 4001) : ∃ (n : Nat) (cs : Array Value), (n : Int) = C ∧ cs.size = n * 1 ∧ cs.toList.take (1 * 1) = [.bool false] ∧
    ∀ w : World, (Instr.makeSlice 27 (.int .i64 1) (.int .i64 C)).run Try.prog w = .ok (.slice (some ⟨w.heap.size, 0, none⟩) 1 n) (w.alloc (.cells cs 4)) := by
  obtain ⟨i, hi, hz, hs, hb⟩ := info_parts boolInfo
  refine ⟨C.toNat, madeCells #[.bool false] C.toNat, by omega, by rw [size_madeCells]; simp, ?_, fun w => ?_⟩
  · obtain ⟨m, hm⟩ : ∃ m, C.toNat = m + 1 := ⟨C.toNat - 1, by omega⟩
    rw [hm]
    have h0 : (madeCells #[Value.bool false] (m + 1)).toList[0]? = some (.bool false) := by simp [madeCells]
    match h : (madeCells #[Value.bool false] (m + 1)).toList, h0 with
    | a :: r, h0 => simp at h0; simp [h0]
  · have hr := run_make (P := Try.prog) w 27 4 i (.bool false) Try.underlying27 hi hz .i64 .i64 1 C (by omega) h1 (by rw [hb]; omega) (by omega)
    rw [hs, Nat.mul_one] at hr
    exact hr

end Go.Proofs.Ytbkmgblijncjhaa

namespace Go.Proofs.Ytbkmgblijncjhaa
open Go.RowKit Go.Maps

/-- The value at a literal's variable. -/
theorem i64s_lit {w : World} {B : Nat} {A : Option Addr} {v : List Int} (h : Vals w B A (i64s v)) (h3 : ∀ x ∈ v, Is3 x) {l : Int} (h0 : 0 ≤ l) (h1 : l / 2 < v.length) :
    ∃ b o x, A = some ⟨b, o, none⟩ ∧ b < B ∧ w.cell? ⟨b, o + (l / 2).toNat, none⟩ = some (.int .i64 x) ∧ Is3 x ∧ bit3 v l = if l % 2 = 1 then turn3 x else x := by
  have hl : (l / 2).toNat < v.length := by omega
  obtain ⟨b, o, e, hb, hc⟩ := h.at_ (k := (l / 2).toNat) (by rw [i64s_length]; exact hl)
  refine ⟨b, o, v[(l / 2).toNat], e, hb, by rw [hc]; simp [i64s], h3 _ (List.getElem_mem hl), ?_⟩
  unfold bit3
  rw [List.getElem?_eq_getElem hl]
  rfl

end Go.Proofs.Ytbkmgblijncjhaa

set_option linter.unusedVariables false
set_option linter.unusedSimpArgs false
namespace Go.Proofs.Ytbkmgblijncjhaa
open Go.RowKit Go.Maps

/-- Inputs' values behind so many. -/
def toldAt (xs : List Int) (k : Nat) : List Int := 0 :: (xs.take k).map told3
theorem toldAt_zero (xs : List Int) : toldAt xs 0 = [0] := by simp [toldAt]
theorem toldAt_succ {xs : List Int} {k : Nat} {x : Int} (h : xs[k]? = some x) : toldAt xs (k + 1) = toldAt xs k ++ [told3 x] := by
  unfold toldAt
  rw [List.take_add_one, h]
  simp
theorem toldAt_length {xs : List Int} {k : Nat} (h : k ≤ xs.length) : (toldAt xs k).length = k + 1 := by
  simp [toldAt, Nat.min_eq_left h]
theorem toldAt_all (g : Gr) (xs : List Int) : toldAt xs xs.length = vals3At g xs 0 := by
  rw [vals3At_zero]
  simp [toldAt]

theorem lit3_vals {g : Gr} {xs : List Int} {l : Int} (hn : (xs.length : Int) = g.n) (hl : litB g l = true) : 0 ≤ l ∧ l / 2 < ((vals3At g xs g.as.length).length : Int) ∧ l ≤ 4001 ∨ rightB g = false := by
  cases hr : rightB g
  · exact .inr rfl
  · obtain ⟨a, b, c, d⟩ := (litB_iff g l).1 hl
    obtain ⟨h0, h1, h2, h3⟩ := (size_iff g).1 (right_size hr)
    rw [vals3At_length (Nat.le_refl _)]
    left
    omega

end Go.Proofs.Ytbkmgblijncjhaa

namespace Go.Proofs.Ytbkmgblijncjhaa
open Go.RowKit Go.Maps

end Go.Proofs.Ytbkmgblijncjhaa

set_option linter.unusedVariables false
set_option linter.unusedSimpArgs false
namespace Go.Proofs.Ytbkmgblijncjhaa
open Go.RowKit Go.Maps

/-- A row of numbers that is made with one element. -/
theorem make_ints (C : Int) (h1 : 1 ≤ C) (h2 : C ≤ 4001) : ∃ (n : Nat) (cs : Array Value), (n : Int) = C ∧ cs.size = n * 1 ∧ cs.toList.take (1 * 1) = [.int .i64 0] ∧
    ∀ w : World, (Instr.makeSlice 25 (.int .i64 1) (.int .i64 C)).run Try.prog w = .ok (.slice (some ⟨w.heap.size, 0, none⟩) 1 n) (w.alloc (.cells cs 3)) := by
  obtain ⟨i, hi, hz, hs, hb⟩ := info_parts intInfo
  refine ⟨C.toNat, madeCells #[.int .i64 0] C.toNat, by omega, by rw [size_madeCells]; simp, ?_, fun w => ?_⟩
  · obtain ⟨m, hm⟩ : ∃ m, C.toNat = m + 1 := ⟨C.toNat - 1, by omega⟩
    rw [hm]
    have h0 : (madeCells #[Value.int .i64 0] (m + 1)).toList[0]? = some (.int .i64 0) := by simp [madeCells]
    match h : (madeCells #[Value.int .i64 0] (m + 1)).toList, h0 with
    | a :: r, h0 => simp at h0; simp [h0]
  · have hr := run_make (P := Try.prog) w 25 3 i (.int .i64 0) Try.underlying25 hi hz .i64 .i64 1 C (by omega) h1 (by rw [hb]; omega) (by omega)
    rw [hs, Nat.mul_one] at hr
    exact hr

end Go.Proofs.Ytbkmgblijncjhaa

set_option linter.unusedVariables false
set_option linter.unusedSimpArgs false
namespace Go.Proofs.Ytbkmgblijncjhaa
open Go.RowKit Go.Maps

theorem vals_new' (w : World) (xs : List Value) (e : TypeId) : Vals (w.alloc (.cells xs.toArray e)) (w.alloc (.cells xs.toArray e)).heap.size (some ⟨w.heap.size, 0, none⟩) xs := by
  have := vals_new w xs e
  rw [World.size_alloc]
  exact this

theorem shr_pow (n : Int) (k : Nat) : n >>> k = n / 2 ^ k := Int.shiftRight_eq_div_pow n k

set_option maxRecDepth 100000 in
set_option maxHeartbeats 1000000 in
theorem bits_own (n : Int) (m : Nat) (w : World) (h0 : 0 ≤ n) (h1 : n ≤ 9223372036854775807) (hm : m ≤ 63) :
    Calls Try.prog 18 #[.int .i64 n, .int .i64 m] w (fun e w' => ∃ A c, e = .returned (.slice A (bitsG n m).length c) ∧ w'.ownsRow w.heap.size 4 1 (.slice A (bitsG n m).length c) (bitsG n m).length (bools (bitsG n m)) ∧ Below w.heap.size w w') := by
  go_enter Try.func18, Try.ntmps18
  go_wp2_with fail
  go_loopw [5, 6] (fun v i wr => ∃ (k : Nat) (A' : Option Addr) (c' : Nat), k ≤ m ∧ v = .slice A' k c' ∧ i = .int .i64 k ∧ OwnF wr w.heap.size 4 1 (.slice A' k c') k (bools (bitsG n k)) ∧ Low w wr) (fun _ i _ => m - (intOf i).toNat)
  case atStart => exact ⟨0, none, 0, Nat.zero_le _, rfl, rfl, ⟨World.ownsRow_nil _ _ _ _⟩, Low.refl _⟩
  case round =>
    obtain ⟨k, A', c', hk, rfl, rfl, hown, hlow⟩ := hrel
    have HO := Lib.hid hown
    have HL := Lib.hid hlow
    obtain ⟨i0, hi0, hz0, hz1, hz2⟩ := info_parts boolInfo
    have hs := HL.out.size
    clear hown hlow
    by_cases hlt : k < m
    · have hlt' : (k : Int) < (m : Int) := by omega
      have hdn : 0 ≤ n / 2 ^ k := Int.ediv_nonneg h0 (Int.le_of_lt (Int.pow_pos (by omega)))
      have hdl : n / 2 ^ k ≤ n := Int.ediv_le_self _ h0
      have HE : Hid ((bits .and .i64 (n / 2 ^ k) 1 == 1) = decide (n / 2 ^ k % 2 = 1)) := by
        show (bits .and .i64 (n / 2 ^ k) 1 == 1) = _
        rw [and_one _ hdn (by omega), odd_beq]
      clear hdn hdl
      go_wp2_with (first | (at_builtin; refine wpList_append_vals _ rfl (.tmp 12) (.tmp 18) _ rfl w.heap.size 4 i0 _ 1 1 Try.underlying27 hi0 hz0 hz1 hz2 rfl (by omega) (.slice A' k c') k (bools (bitsG n k)) rfl (HO.out.p.alloc _) _ _ 1 1 [.bool (bits .and .i64 (n / 2 ^ k) 1 == 1)] rfl rfl (vals_new wr [.bool (bits .and .i64 (n / 2 ^ k) 1 == 1)] 4) (bools_one [_]) (by unfold maxLen; omega) (by omega) (by simp; omega) ?_; intro v5 w5 hown5 hg5; have HO5 := Lib.hid hown5; have HL5 := Lib.hid ((HL.out.step (stepA wr (.cells #[.bool (bits .and .i64 (n / 2 ^ k) 1 == 1)] 4))).grown hg5 (own_block HO.out.p)); clear hown5 hg5))
      go_roundw
      case rel =>
        obtain ⟨A6, c6, hv6, _⟩ := own_form HO5.out
        subst hv6
        refine ⟨k + 1, A6, c6, by omega, rfl, by go_num, ⟨?_⟩, HL5.out⟩
        rw [bitsG_succ, bools_snoc, ← HE.out]
        exact HO5.out
      case measure => simp [intOf]; omega
    · obtain rfl : k = m := by omega
      have hlt' : ¬ ((k : Int) < (k : Int)) := by omega
      go_wp2_with fail
      go_ret
      have hle : (bitsG n k).length = k := bitsG_length n k
      refine ⟨A', c', ?_, ?_, HL.out.b⟩
      · rw [hle]; rfl
      · rw [hle]; exact HO.out.p

theorem bits_any (n : Int) (m : Nat) (w : World) (h0 : 0 ≤ n) (h1 : n ≤ 9223372036854775807) (hm : m ≤ 63) :
    Calls Try.prog 18 #[.int .i64 n, .int .i64 m] w (RetB w (bitsG n m)) :=
  (bits_own n m w h0 h1 hm).mono fun e w' ⟨A, c, he, ho, hb⟩ => ⟨A, c, he, own_cap ho, Vals.of_own ho, hb⟩

def bt2 : List Bool := [true, true]
theorem al_g1 : allG g1 [true, true] = [false, true, true, true] := by rfl
theorem ev_g1 : evalG g1 6 [true, true] = true := by rfl
theorem ev_g1' : evalG g1 7 [true, true] = false := by rfl
theorem th_g1 : threeG g1 6 [0, 2] = 0 := by rfl
theorem th_g1' : threeG g1 7 [0, 2] = 1 := by rfl
theorem th_g1n : threeG g1 6 [] = 2 := by rfl

theorem vals4 {A : Option Addr} {w : World} {B : Nat} {a b c d : Bool} (h : Vals w B A (bools [a, b, c, d])) : ∃ b' o, A = some ⟨b', o, none⟩ ∧ w.cell? ⟨b', o, none⟩ = some (.bool a) ∧ w.cell? ⟨b', o + 3, none⟩ = some (.bool d) := by
  obtain ⟨b1, o1, e1, _, h1⟩ := h 0 _ rfl
  obtain ⟨b2, o2, e2, _, h2⟩ := h 3 _ rfl
  rw [e1] at e2
  cases e2
  exact ⟨b1, o1, e1, h1, h2⟩

end Go.Proofs.Ytbkmgblijncjhaa
