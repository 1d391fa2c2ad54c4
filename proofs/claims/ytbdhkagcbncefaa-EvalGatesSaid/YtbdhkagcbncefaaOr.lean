/- The package graph: And at all literals, Or, Ite. -/
import Derived.Test.YtbdhkagcbncefaaAnd
namespace Go.Proofs.Ytbdhkagcbncefaa
open Go.RowKit Go.Maps

theorem and_same (g : Gr) (x : Int) (A : Option Addr) (c : Nat) (w : World) (Q : Nat → Prop) (hg : GOk g) (hy0 : 0 ≤ x) (hx1 : x ≤ 4001) (hc : g.as.length ≤ c) (hq : PrsQ w Q A g.as) (hr : rightB g = true) (hla : litB g x = true) :
    Calls Try.prog 40 #[.agg #[.int .i64 g.n, .slice A g.as.length c], .int .i64 x, .int .i64 x] w (RetG w Q (andHi g x x)) := by
  have hp := hq.prs
  have HQ := Lib.hid hq.new
  clear hq
  have HC := Lib.hid (and_right g A c w hg hp)
  have hnot := @not_run Try.prog
  have hgl : g.as.length ≤ 8796093022208 := hg.2.1
  have HP := Lib.hid hp
  have HR := Lib.hid hr
  have HLA := Lib.hid hla
  clear hg hp hr hla
  go_enter Try.func40, Try.ntmps40
  go_wp2_with fail
  refine HC.out.mono ?_
  rintro e w2 ⟨he, hg2, hrd⟩
  rw [HR.out] at he
  subst he
  have st := AndSt.begin_ HP.out hg2 (hrd HR.out)
  have e0 : w2.cell? ⟨w.heap.size, 0, none⟩ = some (.int .i64 g.n) := st.gb.cell 0
  have e1 : w2.cell? ⟨w.heap.size, 1, none⟩ = some (.slice A g.as.length c) := st.gb.cell 1
  have ST := Lib.hid st
  clear st hg2 hrd HC
  go_wp2_with fail
  refine (lit_yes g _ true HLA.out A c _ hgl (by omega)).mono ?_
  rintro e w3 ⟨rfl, hb3⟩
  have st := ST.out.step hb3
  clear e0 e1
  have e0 : w3.cell? ⟨w.heap.size, 0, none⟩ = some (.int .i64 g.n) := st.gb.cell 0
  have e1 : w3.cell? ⟨w.heap.size, 1, none⟩ = some (.slice A g.as.length c) := st.gb.cell 1
  have ST3 := Lib.hid st
  clear st hb3
  go_wp2_with fail
  refine (lit_yes g _ true HLA.out A c _ hgl (by omega)).mono ?_
  rintro e w4 ⟨rfl, hb4⟩
  have st := ST3.out.step hb4
  clear e0 e1
  have e0 : w4.cell? ⟨w.heap.size, 0, none⟩ = some (.int .i64 g.n) := st.gb.cell 0
  have e1 : w4.cell? ⟨w.heap.size, 1, none⟩ = some (.slice A g.as.length c) := st.gb.cell 1
  have d0 : w4.cell? ⟨w.heap.size + 1, 0, none⟩ = some (.int .i64 0) := st.rb.cell 0
  have d1 : w4.cell? ⟨w.heap.size + 1, 1, none⟩ = some (.slice none 0 0) := st.rb.cell 1
  have f0 := st.rb.frozen 0
  have f1 := st.rb.frozen 1
  have ST4 := Lib.hid st
  clear st hb4 ST ST3 HLA
  go_wp2_with fail
  refine (trivial_any x x _ (by omega) (by omega) hy0 (by omega)).mono ?_
  rintro e w5 ⟨rfl, rfl⟩
  obtain ⟨l, ht⟩ : ∃ l, trivG x x = some l := by
    unfold trivG
    split
    · exact ⟨_, rfl⟩
    · rw [if_pos (Or.inr rfl)]
      exact ⟨_, rfl⟩
  rw [ht]
  have HT := Lib.hid ht
  clear ht
  go_wp2_with fail
  refine bodyPost_ret (v := .tuple #[.agg #[.int .i64 g.n, .slice A g.as.length c], .int .i64 l, .int .i64 0]) (by simp [results, Try.results40, go_sem, d0, d1]) rfl ?_
  have hb5 := (ST4.out.below.setCell (p := ⟨w.heap.size + 1, 0, none⟩) (by simp) (.int .i64 g.n)).setCell (p := ⟨w.heap.size + 1, 1, none⟩) (by simp) (.slice A g.as.length c)
  have e : andHi g x x = (g, l, 0) := by unfold andHi; rw [HT.out]
  rw [e]
  exact ⟨A, c, rfl, hc, HQ.out.below hb5, hb5⟩

theorem litB_iff (g : Gr) (l : Int) : litB g l = true ↔ (0 ≤ g.n ∧ g.n ≤ 2000 ∧ 0 ≤ l ∧ l / 2 < g.n + 1 + g.as.length) := by unfold litB Gr.vars; exact decide_eq_true_iff

/-- '(graph.And)': what is made of two literals. -/
theorem and_any (g : Gr) (a b : Int) (A : Option Addr) (c : Nat) (w : World) (Q : Nat → Prop) (hg : GOk g) (ha : a ≤ 9223372036854775807) (hb : b ≤ 9223372036854775807) (hc : g.as.length ≤ c) (hp : PrsQ w Q A g.as) :
    Calls Try.prog 40 #[.agg #[.int .i64 g.n, .slice A g.as.length c], .int .i64 a, .int .i64 b] w (RetG w Q (andG g a b)) := by
  unfold andG
  cases hr : rightB g
  · exact and_no g a b A c w Q hg hp.prs hr
  · cases hl : (litB g a && litB g b)
    · exact and_no_lit g a b A c w Q hg ha hb hp.prs hr hl
    · rw [Bool.and_eq_true] at hl
      obtain ⟨h1, h2⟩ := hl
      have l1 := (litB_iff g a).1 h1
      have l2 := (litB_iff g b).1 h2
      have hs := (right_iff g).1 hr
      rw [Bool.and_true, if_pos rfl]
      rcases Int.lt_trichotomy a b with h | h | h
      · rw [Int.max_eq_right (by omega), Int.min_eq_left (by omega)]
        exact and_hi g a b b a (.inr ⟨rfl, rfl⟩) h A c w Q hg (by omega) (by omega) hc hp hr h1 h2
      · subst h
        rw [Int.max_eq_right (Int.le_refl _), Int.min_eq_left (Int.le_refl _)]
        exact and_same g a A c w Q hg (by omega) (by omega) hc hp hr h1
      · rw [Int.max_eq_left (by omega), Int.min_eq_right (by omega)]
        exact and_hi g a b a b (.inl ⟨rfl, rfl⟩) h A c w Q hg (by omega) (by omega) hc hp hr h1 h2

/-- What And's literal may be. -/
theorem andHi_lit {g : Gr} {a b : Int} (hs : 0 ≤ g.n ∧ g.n ≤ 2000 ∧ g.as.length ≤ 2000 ∧ g.n + 1 + g.as.length ≤ 2000) (ha0 : 0 ≤ a) (ha : a ≤ 4001) : 0 ≤ (andHi g a b).2.1 ∧ (andHi g a b).2.1 ≤ 4001 := by
  unfold andHi
  cases ht : trivG a b with
  | some l =>
    unfold trivG at ht
    split at ht
    · cases ht
      simp
    · split at ht
      · cases ht
        exact ⟨ha0, ha⟩
      · cases ht
  | none =>
    dsimp only
    cases hq : placeOf g.as (a, b) with
    | some i =>
      have hi : i < g.as.length := (List.getElem?_eq_some_iff.1 (placeOf_some hq)).1
      dsimp only
      omega
    | none =>
      dsimp only
      split
      · simp
      · rename_i h
        unfold Gr.vars at h ⊢
        dsimp only
        omega

theorem andG_lit (g : Gr) (a b : Int) : 0 ≤ (andG g a b).2.1 ∧ (andG g a b).2.1 ≤ 4001 := by
  unfold andG
  split
  · rename_i h
    rw [Bool.and_eq_true, Bool.and_eq_true, litB_iff, litB_iff, right_iff] at h
    exact andHi_lit h.1.1 (by omega) (by omega)
  · simp

theorem flip_max {a : Int} (h0 : 0 ≤ a) (h1 : a ≤ 9223372036854775807) : 0 ≤ flip a ∧ flip a ≤ 9223372036854775807 := by
  unfold flip
  split <;> omega

theorem or_any (g : Gr) (a b : Int) (A : Option Addr) (c : Nat) (w : World) (Q : Nat → Prop) (hg : GOk g) (ha : a ≤ 9223372036854775807) (hb : b ≤ 9223372036854775807) (hc : g.as.length ≤ c) (hp : PrsQ w Q A g.as) :
    Calls Try.prog 45 #[.agg #[.int .i64 g.n, .slice A g.as.length c], .int .i64 a, .int .i64 b] w (RetG w Q (orG g a b)) := by
  by_cases hneg : a < 0 ∨ b < 0
  · have HE : Hid (orG g a b = (noG, 0, 1)) := if_pos hneg
    clear hg hp hc ha hb
    by_cases ha : a < 0
    all_goals
      go_enter Try.func45, Try.ntmps45
      go_wp2_with fail
      refine bodyPost_ret (v := .tuple #[.agg #[.int .i64 0, .slice none 0 0], .int .i64 0, .int .i64 1]) (by simp [results, Try.results45, go_sem]) rfl ?_
      rw [HE.out]
      exact ⟨none, 0, rfl, Nat.le_refl _, PrsQ.nil, ((Below.refl _ _).alloc (Nat.le_refl _) _).alloc (by simp) _⟩
  · have ha0 : 0 ≤ a := by omega
    have hb0 : 0 ≤ b := by omega
    have hxa := xor_flip a ha0 ha
    have hxb := xor_flip b hb0 hb
    have fa := flip_max ha0 ha
    have fb := flip_max hb0 hb
    have HE : Hid (orG g a b = if (andG g (flip a) (flip b)).2.2 = 0 then ((andG g (flip a) (flip b)).1, flip (andG g (flip a) (flip b)).2.1, 0) else (noG, 0, (andG g (flip a) (flip b)).2.2)) := if_neg hneg
    have HB := Lib.hid (((Below.refl w.heap.size w).alloc (Nat.le_refl _) (.cells #[.int .i64 g.n, .slice A g.as.length c] 24)).alloc (by simp) (.cells #[.int .i64 0, .slice none 0 0] 24))
    have HP := Lib.hid ((hp.imp (Q' := fun b => Q b ∧ b < w.heap.size) fun _ h1 h2 => ⟨h1, h2⟩).below HB.out)
    have hlit := andG_lit g (flip a) (flip b)
    have hxr := xor_flip _ hlit.1 (by omega)
    have HC := Lib.hid (and_any g (flip a) (flip b) A c _ _ hg fa.2 fb.2 hc HP.out)
    clear hg hp hc fa fb HP
    generalize andG g (flip a) (flip b) = r at *
    go_enter Try.func45, Try.ntmps45
    go_wp2_with fail
    refine HC.out.mono ?_
    rintro e w1 ⟨A1, c1, rfl, hc1, hp1, hb1⟩
    have hb2 := below2 HB.out HB.out.size hb1
    have rb : Blk w1 (w.heap.size + 1) 24 #[.int .i64 0, .slice none 0 0] := by
      have := Blk.new (w.alloc (.cells #[.int .i64 g.n, .slice A g.as.length c] 24)) 24 #[.int .i64 0, .slice none 0 0]
      rw [World.size_alloc] at this
      exact this.below hb1 (by simp)
    have d0 : ∀ O, (w1.alloc O).cell? ⟨w.heap.size + 1, 0, none⟩ = some (.int .i64 0) := fun O => (rb.alloc O).cell 0
    have d1 : ∀ O, (w1.alloc O).cell? ⟨w.heap.size + 1, 1, none⟩ = some (.slice none 0 0) := fun O => (rb.alloc O).cell 1
    have f0 : ∀ O, (w1.alloc O).frozen? ⟨w.heap.size + 1, 0, none⟩ = false := fun O => (rb.alloc O).frozen 0
    have f1 : ∀ O, (w1.alloc O).frozen? ⟨w.heap.size + 1, 1, none⟩ = false := fun O => (rb.alloc O).frozen 1
    have HB2 := Lib.hid hb2
    have HP1 := Lib.hid hp1
    have HC1 := Lib.hid hc1
    clear rb hb2 hp1 hb1 hc1
    by_cases hz : r.2.2 = 0
    · have hz' : (r.2.2 != 0) = false := by simp [hz]
      have HF : Hid (orG g a b = (r.1, flip r.2.1, 0)) := HE.out.trans (if_pos hz)
      clear hz HE HB
      go_wp2_with fail
      refine bodyPost_ret (v := .tuple #[.agg #[.int .i64 r.1.n, .slice A1 r.1.as.length c1], .int .i64 (flip r.2.1), .int .i64 0]) (by simp [results, Try.results45, go_sem, d0, d1]) rfl ?_
      have hb3 := (((Below.refl w1.heap.size w1).alloc (Nat.le_refl _) (.cells #[.int .i64 r.1.n, .slice A1 r.1.as.length c1] 24)))
      rw [HF.out]
      have h1 := HB2.out.alloc HB2.out.size (.cells #[.int .i64 r.1.n, .slice A1 r.1.as.length c1] 24)
      refine ⟨A1, c1, rfl, HC1.out, ?_, (h1.setCell (p := ⟨w.heap.size + 1, 0, none⟩) (by simp) _).setCell (p := ⟨w.heap.size + 1, 1, none⟩) (by simp) _⟩
      refine (((HP1.out.below hb3).setCell (g := w.heap.size + 1) ?_ _).setCell (g := w.heap.size + 1) ?_ _).imp ?_
      · rintro b (⟨⟨_, h⟩, _⟩ | h)
        · omega
        · simp at h
          omega
      · rintro b (⟨⟨_, h⟩, _⟩ | h)
        · omega
        · simp at h
          omega
      · rintro b (⟨⟨h1, h2⟩, _⟩ | h) _
        · exact .inl ⟨h1, h2⟩
        · simp at h
          exact .inr (by omega)
    · have hz' : (r.2.2 != 0) = true := by simp [hz]
      have HF : Hid (orG g a b = (noG, 0, r.2.2)) := HE.out.trans (if_neg hz)
      clear hz HE HB
      go_wp2_with fail
      refine bodyPost_ret (v := .tuple #[.agg #[.int .i64 0, .slice none 0 0], .int .i64 0, .int .i64 r.2.2]) (by simp [results, Try.results45, go_sem, d0, d1]) rfl ?_
      have h1 := HB2.out.alloc HB2.out.size (.cells #[.int .i64 r.1.n, .slice A1 r.1.as.length c1] 24)
      rw [HF.out]
      exact ⟨none, 0, rfl, Nat.le_refl _, PrsQ.nil, (h1.setCell (p := ⟨w.heap.size + 1, 0, none⟩) (by simp) _).setCell (p := ⟨w.heap.size + 1, 1, none⟩) (by simp) _⟩
end Go.Proofs.Ytbdhkagcbncefaa
