/- The document's answer for layer 1: And. -/
import Derived.Test.YtbdhkagcbncefaaRef
import Derived.Test.YtbdhkagcbncefaaApp
namespace Go.Proofs.Ytbdhkagcbncefaa
open Go.RowKit Go.Maps

theorem Two.step {w w' w'' : World} {Q : Nat → Prop} {g : Gr} {A : Option Addr} {c : Nat} (h : Two w w' Q g A c) (hb : Below w'.heap.size w' w'') : Two w w'' Q g A c :=
  ⟨below2 h.below h.below.size hb, Nat.le_trans h.big hb.size, h.gb.below hb h.gb.lt, h.rb.below hb h.rb.lt, h.prs.below hb⟩

/-- What Two's own world hands back: no graph, an error. -/
theorem Two.err {w w' : World} {Q : Nat → Prop} {g : Gr} {A : Option Addr} {c : Nat} (h : Two w w' Q g A c) (e : Int) (x y : Value) :
    RetG w Q (noG, 0, e) (.returned (.tuple #[.agg #[.int .i64 0, .slice none 0 0], .int .i64 0, .int .i64 e])) ((w'.setCell ⟨w.heap.size + 1, 0, none⟩ x).setCell ⟨w.heap.size + 1, 1, none⟩ y) :=
  ⟨none, 0, rfl, Nat.le_refl _, PrsQ.nil, (h.below.setCell (p := ⟨w.heap.size + 1, 0, none⟩) (by simp) _).setCell (p := ⟨w.heap.size + 1, 1, none⟩) (by simp) _⟩

/-- .. or its graph, and a literal. -/
theorem Two.same {w w' : World} {Q : Nat → Prop} {g : Gr} {A : Option Addr} {c : Nat} (h : Two w w' Q g A c) (hc : g.as.length ≤ c) (l : Int) (x y : Value) :
    RetG w Q (g, l, 0) (.returned (.tuple #[.agg #[.int .i64 g.n, .slice A g.as.length c], .int .i64 l, .int .i64 0])) ((w'.setCell ⟨w.heap.size + 1, 0, none⟩ x).setCell ⟨w.heap.size + 1, 1, none⟩ y) := by
  refine ⟨A, c, rfl, hc, ?_, (h.below.setCell (p := ⟨w.heap.size + 1, 0, none⟩) (by simp) _).setCell (p := ⟨w.heap.size + 1, 1, none⟩) (by simp) _⟩
  refine ((h.prs.setCell (g := w.heap.size + 1) ?_ _).setCell (g := w.heap.size + 1) ?_ _).imp ?_
  · rintro b (⟨_, h⟩ | h) <;> omega
  · rintro b (⟨_, h⟩ | h) <;> omega
  · rintro b (⟨h1, h2⟩ | h) _
    · exact .inl ⟨h1, h2⟩
    · exact .inr (by omega)

theorem own_snoc {w : World} {base : Nat} {e : TypeId} {v : Value} {n : Nat} {ps : List Pr} {x y : Int} (h : w.ownsRow base e 2 v (0 + n + 1) ([] ++ flat ps ++ [.int .i64 x, .int .i64 y])) :
    w.ownsRow base e 2 v (n + 1) (flat (ps ++ [(x, y)])) := by
  rw [flat_append]
  rw [Nat.zero_add] at h
  exact h

theorem own_below {w w' : World} {base : Nat} {e : TypeId} {size n : Nat} {v : Value} {xs : List Value} (h : w.ownsRow base e size v n xs) (hb : Below w.heap.size w w') : w'.ownsRow base e size v n xs := by
  obtain ⟨h1, h2⟩ := h
  refine ⟨h1, ?_⟩
  rcases h2 with h2 | ⟨g, cap, cur, hv, hg, hh, r⟩
  · exact .inl h2
  · exact .inr ⟨g, cap, cur, hv, hg, Blk.below (cs := cur) hh hb (Blk.lt (cs := cur) hh), r⟩

theorem rlit_is (g : Gr) (l : Int) (x : Bool) (hx : litB g l = x) (A : Option Addr) (c : Nat) (w : World) (h2 : g.as.length ≤ 8796093022208) (h3 : l ≤ 9223372036854775807) :
    Calls Try.prog 64 #[.agg #[.int .i64 g.n, .slice A g.as.length c], .int .i64 l] w (Ret w (.bool x)) := by
  subst hx
  exact rlit_any g l A c w h2 h3
theorem rright_is (g : Gr) (x : Bool) (hx : rightB g = x) (A : Option Addr) (c : Nat) (w : World) (hg : GOk g) (hp : Prs w w.heap.size A g.as) :
    Calls Try.prog 60 #[.agg #[.int .i64 g.n, .slice A g.as.length c]] w (Ret w (.bool x)) := by
  subst hx
  exact rright_any g A c w hg hp

theorem rand_no (g : Gr) (a b : Int) (A : Option Addr) (c : Nat) (w : World) (Q : Nat → Prop) (hg : GOk g) (ha : a ≤ 9223372036854775807) (hb : b ≤ 9223372036854775807) (hp : PrsQ w Q A g.as) (hl : (rightB g && (litB g a && litB g b)) = false) :
    Calls Try.prog 69 #[.agg #[.int .i64 g.n, .slice A g.as.length c], .int .i64 a, .int .i64 b] w (RetG w Q (noG, 0, 1)) := by
  have hnot := @not_run Try.prog
  have hgl : g.as.length ≤ 8796093022208 := hg.2.1
  have HT := Lib.hid (Two.begin_ (c := c) hp)
  have HG := Lib.hid hg
  clear hg hp
  cases hr : rightB g
  · have HC := Lib.hid (rright_is g false hr A c _ HG.out HT.out.prs.prs)
    clear hl hr
    go_enter Try.func69, Try.ntmps69
    go_wp2_with fail
    refine HC.out.mono ?_
    rintro e w2 ⟨rfl, hb2⟩
    have HT2 := Lib.hid (HT.out.step hb2)
    have d0 : w2.cell? ⟨w.heap.size + 1, 0, none⟩ = some (.int .i64 0) := HT2.out.rb.cell 0
    have d1 : w2.cell? ⟨w.heap.size + 1, 1, none⟩ = some (.slice none 0 0) := HT2.out.rb.cell 1
    have f0 := HT2.out.rb.frozen 0
    have f1 := HT2.out.rb.frozen 1
    clear hb2
    go_wp2_with fail
    refine bodyPost_ret (v := .tuple #[.agg #[.int .i64 0, .slice none 0 0], .int .i64 0, .int .i64 1]) (by simp [results, Try.results69, go_sem, d0, d1]) rfl (HT2.out.err 1 _ _)
  · rw [hr] at hl
    have HC := Lib.hid (rright_is g true hr A c _ HG.out HT.out.prs.prs)
    clear hr
    cases hla : litB g a
    · have HLA := Lib.hid hla
      clear hl hla
      go_enter Try.func69, Try.ntmps69
      go_wp2_with fail
      refine HC.out.mono ?_
      rintro e w2 ⟨rfl, hb2⟩
      have HT2 := Lib.hid (HT.out.step hb2)
      have e0 : w2.cell? ⟨w.heap.size, 0, none⟩ = some (.int .i64 g.n) := HT2.out.gb.cell 0
      have e1 : w2.cell? ⟨w.heap.size, 1, none⟩ = some (.slice A g.as.length c) := HT2.out.gb.cell 1
      clear hb2
      go_wp2_with fail
      refine (rlit_is g a false HLA.out A c _ hgl ha).mono ?_
      rintro e w3 ⟨rfl, hb3⟩
      have HT3 := Lib.hid (HT2.out.step hb3)
      clear hb3 e0 e1
      have d0 : w3.cell? ⟨w.heap.size + 1, 0, none⟩ = some (.int .i64 0) := HT3.out.rb.cell 0
      have d1 : w3.cell? ⟨w.heap.size + 1, 1, none⟩ = some (.slice none 0 0) := HT3.out.rb.cell 1
      have f0 := HT3.out.rb.frozen 0
      have f1 := HT3.out.rb.frozen 1
      go_wp2_with fail
      refine bodyPost_ret (v := .tuple #[.agg #[.int .i64 0, .slice none 0 0], .int .i64 0, .int .i64 1]) (by simp [results, Try.results69, go_sem, d0, d1]) rfl (HT3.out.err 1 _ _)
    · have hlb : litB g b = false := by rw [hla] at hl; simpa using hl
      have HLA := Lib.hid hla
      have HLB := Lib.hid hlb
      clear hl hla hlb
      go_enter Try.func69, Try.ntmps69
      go_wp2_with fail
      refine HC.out.mono ?_
      rintro e w2 ⟨rfl, hb2⟩
      have HT2 := Lib.hid (HT.out.step hb2)
      have e0 : w2.cell? ⟨w.heap.size, 0, none⟩ = some (.int .i64 g.n) := HT2.out.gb.cell 0
      have e1 : w2.cell? ⟨w.heap.size, 1, none⟩ = some (.slice A g.as.length c) := HT2.out.gb.cell 1
      clear hb2
      go_wp2_with fail
      refine (rlit_is g a true HLA.out A c _ hgl ha).mono ?_
      rintro e w3 ⟨rfl, hb3⟩
      have HT3 := Lib.hid (HT2.out.step hb3)
      clear hb3 e0 e1
      have e0 : w3.cell? ⟨w.heap.size, 0, none⟩ = some (.int .i64 g.n) := HT3.out.gb.cell 0
      have e1 : w3.cell? ⟨w.heap.size, 1, none⟩ = some (.slice A g.as.length c) := HT3.out.gb.cell 1
      go_wp2_with fail
      refine (rlit_is g b false HLB.out A c _ hgl hb).mono ?_
      rintro e w4 ⟨rfl, hb4⟩
      have HT4 := Lib.hid (HT3.out.step hb4)
      clear hb4 e0 e1
      have d0 : w4.cell? ⟨w.heap.size + 1, 0, none⟩ = some (.int .i64 0) := HT4.out.rb.cell 0
      have d1 : w4.cell? ⟨w.heap.size + 1, 1, none⟩ = some (.slice none 0 0) := HT4.out.rb.cell 1
      have f0 := HT4.out.rb.frozen 0
      have f1 := HT4.out.rb.frozen 1
      go_wp2_with fail
      refine bodyPost_ret (v := .tuple #[.agg #[.int .i64 0, .slice none 0 0], .int .i64 0, .int .i64 1]) (by simp [results, Try.results69, go_sem, d0, d1]) rfl (HT4.out.err 1 _ _)

theorem triv_cases (x y : Int) (hle : y ≤ x) (hy : 0 ≤ y) :
    (y = 0 ∧ trivG x y = some 0) ∨ (y ≠ 0 ∧ x / 2 = y / 2 ∧ x ≠ y ∧ trivG x y = some 0) ∨ (y ≠ 0 ∧ x / 2 = y / 2 ∧ x = y ∧ trivG x y = some x) ∨ (y ≠ 0 ∧ x / 2 ≠ y / 2 ∧ x ≠ y ∧ y = 1 ∧ trivG x y = some x) ∨
      (y ≠ 0 ∧ x / 2 ≠ y / 2 ∧ y ≠ 1 ∧ x ≠ y ∧ trivG x y = none) := by
  unfold trivG
  by_cases h1 : y = 0
  · exact .inl ⟨h1, if_pos (.inl h1)⟩
  · by_cases h2 : x / 2 = y / 2
    · by_cases h3 : x = y
      · exact .inr (.inr (.inl ⟨h1, h2, h3, (if_neg (by omega)).trans (if_pos (.inr h3))⟩))
      · exact .inr (.inl ⟨h1, h2, h3, if_pos (.inr ⟨h2, h3⟩)⟩)
    · have h3 : x ≠ y := fun e => h2 (by rw [e])
      by_cases h4 : y = 1
      · exact .inr (.inr (.inr (.inl ⟨h1, h2, h3, h4, (if_neg (by omega)).trans (if_pos (.inl h4))⟩)))
      · exact .inr (.inr (.inr (.inr ⟨h1, h2, h4, h3, (if_neg (by omega)).trans (if_neg (by omega))⟩)))

set_option maxRecDepth 100000 in
set_option maxHeartbeats 1000000 in
theorem rand_hi (g : Gr) (a b x y : Int) (hxy : (x = a ∧ y = b) ∨ (x = b ∧ y = a)) (hlt : y < x) (A : Option Addr) (c : Nat) (w : World) (Q : Nat → Prop) (hg : GOk g) (hy0 : 0 ≤ y) (hx1 : x ≤ 4001) (hc : g.as.length ≤ c) (hp : PrsQ w Q A g.as) (hr : rightB g = true) (hla : litB g a = true) (hlb : litB g b = true) :
    Calls Try.prog 69 #[.agg #[.int .i64 g.n, .slice A g.as.length c], .int .i64 a, .int .i64 b] w (RetG w Q (andHi g x y)) := by
  have hnot := @not_run Try.prog
  have hgl : g.as.length ≤ 8796093022208 := hg.2.1
  have HT := Lib.hid (Two.begin_ (c := c) hp)
  have HC := Lib.hid (rright_is g true hr A c _ hg HT.out.prs.prs)
  obtain ⟨⟨n0, n1, n2, n3⟩, _, hnd⟩ := (right_iff g).1 hr
  clear hg hp hr hnd
  rcases hxy with ⟨rfl, rfl⟩ | ⟨rfl, rfl⟩
  all_goals
    have HLA := Lib.hid hla
    have HLB := Lib.hid hlb
    clear hla hlb
    go_enter Try.func69, Try.ntmps69
    go_wp2_with fail
    refine HC.out.mono ?_
    rintro e w2 ⟨rfl, hb2⟩
    have HT2 := Lib.hid (HT.out.step hb2)
    have e0 : w2.cell? ⟨w.heap.size, 0, none⟩ = some (.int .i64 g.n) := HT2.out.gb.cell 0
    have e1 : w2.cell? ⟨w.heap.size, 1, none⟩ = some (.slice A g.as.length c) := HT2.out.gb.cell 1
    clear hb2
    go_wp2_with fail
    refine (rlit_is g _ true HLA.out A c _ hgl (by omega)).mono ?_
    rintro e w3 ⟨rfl, hb3⟩
    have HT3 := Lib.hid (HT2.out.step hb3)
    clear hb3 e0 e1
    have e0 : w3.cell? ⟨w.heap.size, 0, none⟩ = some (.int .i64 g.n) := HT3.out.gb.cell 0
    have e1 : w3.cell? ⟨w.heap.size, 1, none⟩ = some (.slice A g.as.length c) := HT3.out.gb.cell 1
    go_wp2_with fail
    refine (rlit_is g _ true HLB.out A c _ hgl (by omega)).mono ?_
    rintro e w4 ⟨rfl, hb4⟩
    have HT4 := Lib.hid (HT3.out.step hb4)
    clear hb4 e0 e1 HLA HLB HT HT2 HT3 HC
    have e0 : w4.cell? ⟨w.heap.size, 0, none⟩ = some (.int .i64 g.n) := HT4.out.gb.cell 0
    have e1 : w4.cell? ⟨w.heap.size, 1, none⟩ = some (.slice A g.as.length c) := HT4.out.gb.cell 1
    have d0 : w4.cell? ⟨w.heap.size + 1, 0, none⟩ = some (.int .i64 0) := HT4.out.rb.cell 0
    have d1 : w4.cell? ⟨w.heap.size + 1, 1, none⟩ = some (.slice none 0 0) := HT4.out.rb.cell 1
    have f0 := HT4.out.rb.frozen 0
    have f1 := HT4.out.rb.frozen 1
    rcases triv_cases x y (by omega) hy0 with ⟨h1, ht⟩ | ⟨h1, h2, h3, ht⟩ | ⟨h1, h2, h3, ht⟩ | ⟨h1, h2, h3, h4, ht⟩ | ⟨h1, h2, h3, h4, ht⟩
    · have hA : Hid (andHi g x y = (g, 0, 0)) := by show andHi g x y = _; unfold andHi; rw [ht]
      have b1 : (y == 0) = true := by simpa using h1
      clear h1 ht
      go_wp2_with fail
      refine bodyPost_ret (v := .tuple #[.agg #[.int .i64 g.n, .slice A g.as.length c], .int .i64 0, .int .i64 0]) (by simp [results, Try.results69, go_sem, d0, d1]) rfl ?_
      rw [hA.out]
      exact HT4.out.same hc 0 _ _
    · have hA : Hid (andHi g x y = (g, 0, 0)) := by show andHi g x y = _; unfold andHi; rw [ht]
      have b1 : (y == 0) = false := by simpa using h1
      have b2 : (x / 2 == y / 2) = true := by simpa using h2
      have b3 : (x != y) = true := by simpa using h3
      clear h1 h2 h3 ht
      go_wp2_with fail
      refine bodyPost_ret (v := .tuple #[.agg #[.int .i64 g.n, .slice A g.as.length c], .int .i64 0, .int .i64 0]) (by simp [results, Try.results69, go_sem, d0, d1]) rfl ?_
      rw [hA.out]
      exact HT4.out.same hc 0 _ _
    · omega
    · have hA : Hid (andHi g x y = (g, x, 0)) := by show andHi g x y = _; unfold andHi; rw [ht]
      have b1 : (y == 0) = false := by simpa using h1
      have b2 : (x / 2 == y / 2) = false := by simpa using h2
      have b3 : (y == 1) = true := by simpa using h4
      clear h1 h2 h3 h4 ht
      go_wp2_with fail
      refine bodyPost_ret (v := .tuple #[.agg #[.int .i64 g.n, .slice A g.as.length c], .int .i64 x, .int .i64 0]) (by simp [results, Try.results69, go_sem, d0, d1]) rfl ?_
      rw [hA.out]
      exact HT4.out.same hc x _ _
    · have hA : Hid (andHi g x y = match placeOf g.as (x, y) with
        | some i => (g, 2 * (g.n + 1 + i), 0)
        | none => if g.vars ≥ 2000 then (noG, 0, 2) else (⟨g.n, g.as ++ [(x, y)]⟩, 2 * g.vars, 0)) := by show andHi g x y = _; unfold andHi; rw [ht]; rfl
      have b1 : (y == 0) = false := by simpa using h1
      have b2 : (x / 2 == y / 2) = false := by simpa using h2
      have b3 : (y == 1) = false := by simpa using h3
      have b4 : (x == y) = false := by simpa using h4
      clear h1 h2 h3 h4 ht
      go_wp2_with fail
      go_loop [9] (fun s => ∃ k : Nat, k ≤ g.as.length ∧ s = .int .i64 k ∧ Hid (∀ j : Nat, j < k → g.as[j]? ≠ some (x, y))) (fun s => g.as.length - (intOf s).toNat)
      case atStart => exact ⟨0, Nat.zero_le _, rfl, fun j hj => by omega⟩
      case round =>
        obtain ⟨k, hk, rfl, hne⟩ := hrel
        by_cases hlk : k < g.as.length
        · obtain ⟨⟨p1, p2⟩, hpk⟩ : ∃ p, g.as[k]? = some p := ⟨_, List.getElem?_eq_getElem hlk⟩
          obtain ⟨b', o', rfl, hlb, q1, q2⟩ := HT4.out.prs k _ hpk
          have hqe := @eql_pair
          have HPK := Lib.hid hpk
          clear hpk
          by_cases he : p1 = x ∧ p2 = y
          · obtain ⟨rfl, rfl⟩ := he
            have HI : Hid (andHi g p1 p2 = (g, 2 * (g.n + 1 + k), 0)) := by
              show andHi g p1 p2 = _
              rw [hA.out, placeOf_first HPK.out hne.out]
            clear hA hne
            go_wp2_with fail
            go_region
            all_goals go_wp2_with fail
            all_goals
              refine bodyPost_ret (v := .tuple #[.agg #[.int .i64 g.n, .slice (some ⟨b', o', none⟩) g.as.length c], .int .i64 (2 * (g.n + 1 + k)), .int .i64 0]) (by simp [results, Try.results69, go_sem, d0, d1]) rfl ?_
              rw [HI.out]
              exact (HT4.out.step (Below.refl _ _).drew).same hc _ _ _
          · have he' : (p1 == x && p2 == y) = false := by simpa using he
            have HNE : Hid (∀ j : Nat, j < k + 1 → g.as[j]? ≠ some (x, y)) := fun j hj => by
              rcases Nat.lt_or_ge j k with h | h
              · exact hne.out j h
              · obtain rfl : j = k := by omega
                rw [HPK.out]
                intro e'
                simp at e'
                exact he e'
            clear he hne
            go_wp2_with fail
            go_round
            case rel => exact ⟨k + 1, by omega, by go_num, HNE.out⟩
            case measure => simp [intOf]; omega
        · have hke : k = g.as.length := by omega
          subst hke
          have HI : Hid (andHi g x y = if g.vars ≥ 2000 then (noG, 0, 2) else (⟨g.n, g.as ++ [(x, y)]⟩, 2 * g.vars, 0)) := by
            show andHi g x y = _
            rw [hA.out, placeOf_none.2]
            intro hm
            obtain ⟨j, hj, e⟩ := List.getElem_of_mem hm
            exact hne.out j hj (by rw [List.getElem?_eq_getElem hj, e])
          clear hA hne
          go_wp2_with fail
          refine (rvars_any g.n A g.as.length c _ n0 (by omega) hgl).mono ?_
          rintro e w5 ⟨rfl, hb5⟩
          have HT5 := Lib.hid (HT4.out.step hb5)
          clear hb5 e0 e1 d0 d1 f0 f1 HT4
          have e0 : w5.cell? ⟨w.heap.size, 0, none⟩ = some (.int .i64 g.n) := HT5.out.gb.cell 0
          have e1 : w5.cell? ⟨w.heap.size, 1, none⟩ = some (.slice A g.as.length c) := HT5.out.gb.cell 1
          have d0 : w5.cell? ⟨w.heap.size + 1, 0, none⟩ = some (.int .i64 0) := HT5.out.rb.cell 0
          have d1 : w5.cell? ⟨w.heap.size + 1, 1, none⟩ = some (.slice none 0 0) := HT5.out.rb.cell 1
          have f0 := HT5.out.rb.frozen 0
          have f1 := HT5.out.rb.frozen 1
          by_cases hv : g.n + 1 + g.as.length ≥ 2000
          · have HI2 : Hid (andHi g x y = (noG, 0, 2)) := HI.out.trans (if_pos hv)
            go_wp2_with fail
            refine bodyPost_ret (v := .tuple #[.agg #[.int .i64 0, .slice none 0 0], .int .i64 0, .int .i64 2]) (by simp [results, Try.results69, go_sem, d0, d1]) rfl ?_
            rw [HI2.out]
            exact HT5.out.err 2 _ _
          · have HI2 : Hid (andHi g x y = (⟨g.n, g.as ++ [(x, y)]⟩, 2 * g.vars, 0)) := HI.out.trans (if_neg hv)
            have hv' : g.n + 1 + g.as.length < 2000 := by omega
            clear hv
            clear e0 e1
            have g0 : ∀ O, (w5.alloc O).cell? ⟨w.heap.size, 0, none⟩ = some (.int .i64 g.n) := fun O => (HT5.out.gb.alloc O).cell 0
            have g1 : ∀ O, (w5.alloc O).cell? ⟨w.heap.size, 1, none⟩ = some (.slice A g.as.length c) := fun O => (HT5.out.gb.alloc O).cell 1
            have HV : ∀ O, Hid (Vals (w5.alloc O) _ A (flat g.as)) := fun O => ((HT5.out.prs.prs.alloc (Nat.le_refl _) O).vals)
            obtain ⟨i0, hi0, hz0, hz1, hz2⟩ := info_parts pairInfo
            go_wp2_with (first
              | (at_builtin; refine wpList_append_vals _ rfl (.tmp 90) (.tmp 92) _ rfl (w5.heap.size + 1) 41 i0 _ 2 16 Try.underlying22 hi0 hz0 hz1 hz2 rfl (by omega) (.slice none 0 0) 0 [] rfl (World.ownsRow_nil _ _ _ _) _ A g.as.length c (flat g.as) rfl (flat_length g.as) (HV _).out (flat_one g.as) (by unfold maxLen; omega) (by omega) (by simp) ?_; intro v1 w6 hown1 hg6; have hz6 : w5.heap.size + 1 ≤ w6.heap.size := (by have := hg6.size; simpa using this); have HO6 := Lib.hid hown1; have HG6 := Lib.hid hg6; clear hown1 hg6)
              | (at_builtin; refine wpList_append_vals _ rfl (.tmp 93) (.tmp 97) _ rfl (w5.heap.size + 1) 41 i0 _ 2 16 Try.underlying22 hi0 hz0 hz1 hz2 rfl (by omega) v1 (0 + g.as.length) ([] ++ flat g.as) rfl (HO6.out.alloc _) _ _ 1 1 [.int .i64 x, .int .i64 y] rfl rfl (vals_new w6 [.int .i64 x, .int .i64 y] 41) (flat_one [(x, y)]) (by unfold maxLen; omega) (by omega) (by simp; omega) ?_; intro v2 w7 hown2 hg7; have HO7 := Lib.hid (own_snoc hown2); obtain ⟨A7, c7, hv7, hc7⟩ := own_form HO7.out; have HG7 := Lib.hid hg7; clear hown2 hg7; subst hv7; have OB := ((Blk.new w5 24 #[.int .i64 g.n, .slice none 0 0]).grown HG6.out (by simp [Value.ownBlock])).alloc (.cells #[.int .i64 x, .int .i64 y] 41); have OB7 := OB.grown HG7.out (fun e => by have := own_block HO6.out _ e.symm; omega); have o0 : w7.cell? ⟨w5.heap.size, 0, none⟩ = some (.int .i64 g.n) := OB7.cell 0; have o1 : w7.cell? ⟨w5.heap.size, 1, none⟩ = some (.slice none 0 0) := OB7.cell 1; have fo1 := OB7.frozen 1; have HOB := Lib.hid OB7; clear OB OB7))
            have hb7 : Below w5.heap.size w5 w7 := (((Below.refl _ _).alloc (Nat.le_refl _) _).grown HG6.out (by simp) (by simp [Value.ownBlock])).alloc (by omega) _ |>.grown HG7.out (by simp; omega) (fun k hk => by have := own_block HO6.out _ hk; omega)
            have HT7 := Lib.hid (HT5.out.step hb7)
            have OB8 := HOB.out.set_ 1 (.slice A7 (g.as.length + 1) c7)
            have hbig := HT5.out.big
            have hz7 := hb7.size
            have rb8 := HT7.out.rb.far (p := ⟨w5.heap.size, 1, none⟩) (by simp; omega) (.slice A7 (g.as.length + 1) c7)
            have hbl8 := HT7.out.below.setCell (p := ⟨w5.heap.size, 1, none⟩) (by simp; omega) (.slice A7 (g.as.length + 1) c7)
            have own8 := ownsRow_setCell_below HO7.out (a := ⟨w5.heap.size, 1, none⟩) (by simp) (.slice A7 (g.as.length + 1) c7)
            have hz8 : (w7.setCell ⟨w5.heap.size, 1, none⟩ (.slice A7 (g.as.length + 1) c7)).heap.size = w7.heap.size := by simp [World.setCell]
            have HOB8 := Lib.hid OB8
            have HRB8 := Lib.hid rb8
            have HBL8 := Lib.hid hbl8
            have HOWN8 := Lib.hid own8
            have HZ8 := Lib.hid hz8
            have r0 : w7.cell? ⟨w.heap.size + 1, 0, none⟩ = some (.int .i64 0) := HT7.out.rb.cell 0
            have r1 : w7.cell? ⟨w.heap.size + 1, 1, none⟩ = some (.slice none 0 0) := HT7.out.rb.cell 1
            have q0 := HT7.out.rb.frozen 0
            have q1 := HT7.out.rb.frozen 1
            clear OB8 rb8 hbl8 own8 hz8 hb7 d0 d1 f0 f1 g0 g1
            go_region_with (go_at_call 37; refine (rvars_any g.n A7 (g.as.length + 1) c7 _ n0 (by omega) (by omega)).mono ?_; rintro e w9 ⟨rfl, hb9⟩; have OB9 := (Blk.drew HOB8.out).below hb9 (Blk.lt HOB8.out); have p0 : w9.cell? ⟨w5.heap.size, 0, none⟩ = some (.int .i64 g.n) := OB9.cell 0; have p1 : w9.cell? ⟨w5.heap.size, 1, none⟩ = some (.slice A7 (g.as.length + 1) c7) := OB9.cell 1; have RB9 := (Blk.drew HRB8.out).below hb9 (Blk.lt HRB8.out); have s0 : w9.cell? ⟨w.heap.size + 1, 0, none⟩ = some (.int .i64 0) := RB9.cell 0; have s1 : w9.cell? ⟨w.heap.size + 1, 1, none⟩ = some (.slice none 0 0) := RB9.cell 1; have y0 := RB9.frozen 0; have y1 := RB9.frozen 1; have HB9 := Lib.hid hb9; clear OB9 RB9 hb9)
            all_goals go_wp2_with fail
            all_goals
              refine bodyPost_ret (v := .tuple #[.agg #[.int .i64 g.n, .slice A7 (g.as.length + 1) c7], .int .i64 (2 * (g.n + 1 + ((g.as.length + 1 : Nat) : Int)) - 2), .int .i64 0]) (by simp [results, Try.results69, go_sem, s0, s1, Act.put]; simp only [IntKind.wrap_i64]; omega) rfl ?_
              rw [HI2.out]
              refine ⟨A7, c7, ?_, by simpa using hc7, PrsQ.of_own (ownsRow_setCell_below (ownsRow_setCell_below (own_below (World.ownsRow.drew HOWN8.out) HB9.out) (a := ⟨w.heap.size + 1, 0, none⟩) (by simp; omega) _) (a := ⟨w.heap.size + 1, 1, none⟩) (by simp; omega) _) (fun b hb => .inr (by omega)), ((below2 HBL8.out.drew HBL8.out.size HB9.out).setCell (p := ⟨w.heap.size + 1, 0, none⟩) (by simp) _).setCell (p := ⟨w.heap.size + 1, 1, none⟩) (by simp) _⟩
              have e1 : 2 * (g.n + 1 + ((g.as.length + 1 : Nat) : Int)) - 2 = 2 * g.vars := by unfold Gr.vars; omega
              rw [e1]
              simp
end Go.Proofs.Ytbdhkagcbncefaa
