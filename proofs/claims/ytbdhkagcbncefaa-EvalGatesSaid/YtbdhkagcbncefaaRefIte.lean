/- The document's answer for layer 1: And at all literals, Or, Ite. -/
import Derived.Test.YtbdhkagcbncefaaRefAnd
namespace Go.Proofs.Ytbdhkagcbncefaa
open Go.RowKit Go.Maps

set_option maxHeartbeats 400000 in
theorem rand_same (g : Gr) (x : Int) (A : Option Addr) (c : Nat) (w : World) (Q : Nat → Prop) (hg : GOk g) (hy0 : 0 ≤ x) (hx1 : x ≤ 4001) (hc : g.as.length ≤ c) (hp : PrsQ w Q A g.as) (hr : rightB g = true) (hla : litB g x = true) :
    Calls Try.prog 69 #[.agg #[.int .i64 g.n, .slice A g.as.length c], .int .i64 x, .int .i64 x] w (RetG w Q (andHi g x x)) := by
  have hnot := @not_run Try.prog
  have hgl : g.as.length ≤ 8796093022208 := hg.2.1
  have HT := Lib.hid (Two.begin_ (c := c) hp)
  have HC := Lib.hid (rright_is g true hr A c _ hg HT.out.prs.prs)
  have HLA := Lib.hid hla
  clear hg hp hr hla
  go_enter Try.func69, Try.ntmps69
  go_wp2_with fail
  refine HC.out.mono ?_
  rintro e w2 ⟨rfl, hb2⟩
  have HT2 := Lib.hid (HT.out.step hb2)
  have e0 : w2.cell? ⟨w.heap.size, 0, none⟩ = some (.int .i64 g.n) := HT2.out.gb.cell 0
  have e1 : w2.cell? ⟨w.heap.size, 1, none⟩ = some (.slice A g.as.length c) := HT2.out.gb.cell 1
  clear hb2
  go_wp2_with fail
  refine (rlit_is g _ true HLA.out A c _ hgl (by omega)).mono ?_
  rintro e w3 ⟨rfl, hb3⟩
  have HT3 := Lib.hid (HT2.out.step hb3)
  clear hb3 e0 e1
  have e0 : w3.cell? ⟨w.heap.size, 0, none⟩ = some (.int .i64 g.n) := HT3.out.gb.cell 0
  have e1 : w3.cell? ⟨w.heap.size, 1, none⟩ = some (.slice A g.as.length c) := HT3.out.gb.cell 1
  go_wp2_with fail
  refine (rlit_is g _ true HLA.out A c _ hgl (by omega)).mono ?_
  rintro e w4 ⟨rfl, hb4⟩
  have HT4 := Lib.hid (HT3.out.step hb4)
  clear hb4 e0 e1 HLA HT HT2 HT3 HC
  have e0 : w4.cell? ⟨w.heap.size, 0, none⟩ = some (.int .i64 g.n) := HT4.out.gb.cell 0
  have e1 : w4.cell? ⟨w.heap.size, 1, none⟩ = some (.slice A g.as.length c) := HT4.out.gb.cell 1
  have d0 : w4.cell? ⟨w.heap.size + 1, 0, none⟩ = some (.int .i64 0) := HT4.out.rb.cell 0
  have d1 : w4.cell? ⟨w.heap.size + 1, 1, none⟩ = some (.slice none 0 0) := HT4.out.rb.cell 1
  have f0 := HT4.out.rb.frozen 0
  have f1 := HT4.out.rb.frozen 1
  by_cases h1 : x = 0
  · subst h1
    have hA : Hid (andHi g 0 0 = (g, 0, 0)) := by show andHi g 0 0 = _; unfold andHi trivG; rw [if_pos (.inl rfl)]
    go_wp2_with fail
    refine bodyPost_ret (v := .tuple #[.agg #[.int .i64 g.n, .slice A g.as.length c], .int .i64 0, .int .i64 0]) (by simp [results, Try.results69, go_sem, d0, d1]) rfl ?_
    rw [hA.out]
    exact HT4.out.same hc 0 _ _
  · have hA : Hid (andHi g x x = (g, x, 0)) := by show andHi g x x = _; unfold andHi trivG; rw [if_neg (by omega), if_pos (.inr rfl)]
    have b1 : (x == 0) = false := by simpa using h1
    clear h1
    by_cases h2 : x = 1
    · subst h2
      clear b1
      go_wp2_with fail
      refine bodyPost_ret (v := .tuple #[.agg #[.int .i64 g.n, .slice A g.as.length c], .int .i64 1, .int .i64 0]) (by simp [results, Try.results69, go_sem, d0, d1]) rfl ?_
      rw [hA.out]
      exact HT4.out.same hc 1 _ _
    · have b3 : (x == 1) = false := by simpa using h2
      clear h2
      go_wp2_with fail
      refine bodyPost_ret (v := .tuple #[.agg #[.int .i64 g.n, .slice A g.as.length c], .int .i64 x, .int .i64 0]) (by simp [results, Try.results69, go_sem, d0, d1]) rfl ?_
      rw [hA.out]
      exact HT4.out.same hc x _ _

/-- '(parterreref01.And)': what is made of two literals. -/
theorem rand_any (g : Gr) (a b : Int) (A : Option Addr) (c : Nat) (w : World) (Q : Nat → Prop) (hg : GOk g) (ha : a ≤ 9223372036854775807) (hb : b ≤ 9223372036854775807) (hc : g.as.length ≤ c) (hp : PrsQ w Q A g.as) :
    Calls Try.prog 69 #[.agg #[.int .i64 g.n, .slice A g.as.length c], .int .i64 a, .int .i64 b] w (RetG w Q (andG g a b)) := by
  unfold andG
  cases hl : (rightB g && (litB g a && litB g b))
  · exact rand_no g a b A c w Q hg ha hb hp hl
  · rw [if_pos rfl]
    rw [Bool.and_eq_true, Bool.and_eq_true] at hl
    obtain ⟨hr, h1, h2⟩ := hl
    have l1 := (litB_iff g a).1 h1
    have l2 := (litB_iff g b).1 h2
    have hs := (right_iff g).1 hr
    rcases Int.lt_trichotomy a b with h | h | h
    · rw [Int.max_eq_right (by omega), Int.min_eq_left (by omega)]
      exact rand_hi g a b b a (.inr ⟨rfl, rfl⟩) h A c w Q hg (by omega) (by omega) hc hp hr h1 h2
    · subst h
      rw [Int.max_eq_right (Int.le_refl _), Int.min_eq_left (Int.le_refl _)]
      exact rand_same g a A c w Q hg (by omega) (by omega) hc hp hr h1
    · rw [Int.max_eq_left (by omega), Int.min_eq_right (by omega)]
      exact rand_hi g a b a b (.inl ⟨rfl, rfl⟩) h A c w Q hg (by omega) (by omega) hc hp hr h1 h2

theorem ror_any (g : Gr) (a b : Int) (A : Option Addr) (c : Nat) (w : World) (Q : Nat → Prop) (hg : GOk g) (ha : a ≤ 9223372036854775807) (hb : b ≤ 9223372036854775807) (hc : g.as.length ≤ c) (hp : PrsQ w Q A g.as) :
    Calls Try.prog 70 #[.agg #[.int .i64 g.n, .slice A g.as.length c], .int .i64 a, .int .i64 b] w (RetG w Q (orG g a b)) := by
  by_cases hneg : a < 0 ∨ b < 0
  · have HE : Hid (orG g a b = (noG, 0, 1)) := if_pos hneg
    clear hg hp hc ha hb
    by_cases ha : a < 0
    all_goals
      go_enter Try.func70, Try.ntmps70
      go_wp2_with fail
      refine bodyPost_ret (v := .tuple #[.agg #[.int .i64 0, .slice none 0 0], .int .i64 0, .int .i64 1]) (by simp [results, Try.results70, go_sem]) rfl ?_
      rw [HE.out]
      exact ⟨none, 0, rfl, Nat.le_refl _, PrsQ.nil, ((Below.refl _ _).alloc (Nat.le_refl _) _).alloc (by simp) _⟩
  · have ha0 : 0 ≤ a := by omega
    have hb0 : 0 ≤ b := by omega
    have hxa := xor_flip a ha0 ha
    have hxb := xor_flip b hb0 hb
    have fa := flip_max ha0 ha
    have fb := flip_max hb0 hb
    have HE : Hid (orG g a b = if (andG g (flip a) (flip b)).2.2 = 0 then ((andG g (flip a) (flip b)).1, flip (andG g (flip a) (flip b)).2.1, 0) else (noG, 0, (andG g (flip a) (flip b)).2.2)) := if_neg hneg
    have HB := Lib.hid (((Below.refl w.heap.size w).alloc (Nat.le_refl _) (.cells #[.int .i64 g.n, .slice A g.as.length c] 24)).alloc (by simp) (.cells #[.int .i64 0, .slice none 0 0] 24))
    have HP := Lib.hid ((hp.imp (Q' := fun b => Q b ∧ b < w.heap.size) fun _ h1 h2 => ⟨h1, h2⟩).below HB.out)
    have hlit := andG_lit g (flip a) (flip b)
    have hxr := xor_flip _ hlit.1 (by omega)
    have HC := Lib.hid (rand_any g (flip a) (flip b) A c _ _ hg fa.2 fb.2 hc HP.out)
    clear hg hp hc fa fb HP
    generalize andG g (flip a) (flip b) = r at *
    go_enter Try.func70, Try.ntmps70
    go_wp2_with fail
    refine HC.out.mono ?_
    rintro e w1 ⟨A1, c1, rfl, hc1, hp1, hb1⟩
    have hb2 := below2 HB.out HB.out.size hb1
    have rb : Blk w1 (w.heap.size + 1) 24 #[.int .i64 0, .slice none 0 0] := by
      have := Blk.new (w.alloc (.cells #[.int .i64 g.n, .slice A g.as.length c] 24)) 24 #[.int .i64 0, .slice none 0 0]
      rw [World.size_alloc] at this
      exact this.below hb1 (by simp)
    have d0 : ∀ O, (w1.alloc O).cell? ⟨w.heap.size + 1, 0, none⟩ = some (.int .i64 0) := fun O => (rb.alloc O).cell 0
    have d1 : ∀ O, (w1.alloc O).cell? ⟨w.heap.size + 1, 1, none⟩ = some (.slice none 0 0) := fun O => (rb.alloc O).cell 1
    have f0 : ∀ O, (w1.alloc O).frozen? ⟨w.heap.size + 1, 0, none⟩ = false := fun O => (rb.alloc O).frozen 0
    have f1 : ∀ O, (w1.alloc O).frozen? ⟨w.heap.size + 1, 1, none⟩ = false := fun O => (rb.alloc O).frozen 1
    have HB2 := Lib.hid hb2
    have HP1 := Lib.hid hp1
    have HC1 := Lib.hid hc1
    clear rb hb2 hp1 hb1 hc1
    by_cases hz : r.2.2 = 0
    · have hz' : (r.2.2 != 0) = false := by simp [hz]
      have HF : Hid (orG g a b = (r.1, flip r.2.1, 0)) := HE.out.trans (if_pos hz)
      clear hz HE HB
      go_wp2_with fail
      refine bodyPost_ret (v := .tuple #[.agg #[.int .i64 r.1.n, .slice A1 r.1.as.length c1], .int .i64 (flip r.2.1), .int .i64 0]) (by simp [results, Try.results70, go_sem, d0, d1]) rfl ?_
      have hb3 := (((Below.refl w1.heap.size w1).alloc (Nat.le_refl _) (.cells #[.int .i64 r.1.n, .slice A1 r.1.as.length c1] 24)))
      rw [HF.out]
      have h1 := HB2.out.alloc HB2.out.size (.cells #[.int .i64 r.1.n, .slice A1 r.1.as.length c1] 24)
      refine ⟨A1, c1, rfl, HC1.out, ?_, (h1.setCell (p := ⟨w.heap.size + 1, 0, none⟩) (by simp) _).setCell (p := ⟨w.heap.size + 1, 1, none⟩) (by simp) _⟩
      refine (((HP1.out.below hb3).setCell (g := w.heap.size + 1) ?_ _).setCell (g := w.heap.size + 1) ?_ _).imp ?_
      · rintro b (⟨⟨_, h⟩, _⟩ | h)
        · omega
        · simp at h
          omega
      · rintro b (⟨⟨_, h⟩, _⟩ | h)
        · omega
        · simp at h
          omega
      · rintro b (⟨⟨h1, h2⟩, _⟩ | h) _
        · exact .inl ⟨h1, h2⟩
        · simp at h
          exact .inr (by omega)
    · have hz' : (r.2.2 != 0) = true := by simp [hz]
      have HF : Hid (orG g a b = (noG, 0, r.2.2)) := HE.out.trans (if_neg hz)
      clear hz HE HB
      go_wp2_with fail
      refine bodyPost_ret (v := .tuple #[.agg #[.int .i64 0, .slice none 0 0], .int .i64 0, .int .i64 r.2.2]) (by simp [results, Try.results70, go_sem, d0, d1]) rfl ?_
      have h1 := HB2.out.alloc HB2.out.size (.cells #[.int .i64 r.1.n, .slice A1 r.1.as.length c1] 24)
      rw [HF.out]
      exact ⟨none, 0, rfl, Nat.le_refl _, PrsQ.nil, (h1.setCell (p := ⟨w.heap.size + 1, 0, none⟩) (by simp) _).setCell (p := ⟨w.heap.size + 1, 1, none⟩) (by simp) _⟩

theorem Two.res {w w' w'' : World} {Q : Nat → Prop} {g : Gr} {A : Option Addr} {c : Nat} (h : Two w w' Q g A c) {A' : Option Addr} {ps : List Pr} (hp : PrsQ w'' (QNew w' (fun b => (Q b ∧ b < w.heap.size) ∨ w.heap.size + 2 ≤ b)) A' ps) :
    PrsQ w'' (fun b => (Q b ∧ b < w.heap.size) ∨ w.heap.size + 2 ≤ b) A' ps := hp.imp (by
  have := h.big
  rintro b (⟨h, _⟩ | h) _
  · exact h
  · exact .inr (by omega))

/-- A graph that was made, a literal, an error, put into the box that is handed back. -/
theorem Two.ret {w w' : World} {Q : Nat → Prop} {g g' : Gr} {A A' : Option Addr} {c c' : Nat} (h : Two w w' Q g A c) (hc : g'.as.length ≤ c') (hp : PrsQ w' (fun b => (Q b ∧ b < w.heap.size) ∨ w.heap.size + 2 ≤ b) A' g'.as) (l e : Int) (x y : Value) :
    RetG w Q (g', l, e) (.returned (.tuple #[.agg #[.int .i64 g'.n, .slice A' g'.as.length c'], .int .i64 l, .int .i64 e])) ((w'.setCell ⟨w.heap.size + 1, 0, none⟩ x).setCell ⟨w.heap.size + 1, 1, none⟩ y) := by
  refine ⟨A', c', rfl, hc, ?_, (h.below.setCell (p := ⟨w.heap.size + 1, 0, none⟩) (by simp) _).setCell (p := ⟨w.heap.size + 1, 1, none⟩) (by simp) _⟩
  refine ((hp.setCell (g := w.heap.size + 1) ?_ _).setCell (g := w.heap.size + 1) ?_ _).imp ?_
  · rintro b (⟨_, h⟩ | h) <;> omega
  · rintro b (⟨_, h⟩ | h) <;> omega
  · rintro b (⟨h1, h2⟩ | h) _
    · exact .inl ⟨h1, h2⟩
    · exact .inr (by omega)

theorem Two.alloc {w w' : World} {Q : Nat → Prop} {g : Gr} {A : Option Addr} {c : Nat} (h : Two w w' Q g A c) (o : Obj) : Two w (w'.alloc o) Q g A c := h.step ((Below.refl _ _).alloc (Nat.le_refl _) o)

set_option maxHeartbeats 400000 in
theorem rite_any (g : Gr) (k a b : Int) (A : Option Addr) (c : Nat) (w : World) (Q : Nat → Prop) (hg : GOk g) (hk : k ≤ 9223372036854775807) (ha : a ≤ 9223372036854775807) (hb : b ≤ 9223372036854775807) (hc : g.as.length ≤ c) (hp : PrsQ w Q A g.as) :
    Calls Try.prog 71 #[.agg #[.int .i64 g.n, .slice A g.as.length c], .int .i64 k, .int .i64 a, .int .i64 b] w (RetG w Q (iteG g k a b)) := by
  by_cases hneg : k < 0
  · have HE : Hid (iteG g k a b = (noG, 0, 1)) := if_pos hneg
    clear hg hp hc ha hb
    go_enter Try.func71, Try.ntmps71
    go_wp2_with fail
    refine bodyPost_ret (v := .tuple #[.agg #[.int .i64 0, .slice none 0 0], .int .i64 0, .int .i64 1]) (by simp [results, Try.results71, go_sem]) rfl ?_
    rw [HE.out]
    exact ⟨none, 0, rfl, Nat.le_refl _, PrsQ.nil, ((Below.refl _ _).alloc (Nat.le_refl _) _).alloc (by simp) _⟩
  · have hk0 : 0 ≤ k := by omega
    have hxk := xor_flip k hk0 hk
    have fk := flip_max hk0 hk
    have HT := Lib.hid (Two.begin_ (c := c) hp)
    have HC := Lib.hid (rand_any g k a A c _ _ hg hk ha hc HT.out.prs)
    have HE : Hid (iteG g k a b = if (andG g k a).2.2 = 0 then (if (andG (andG g k a).1 (flip k) b).2.2 = 0 then orG (andG (andG g k a).1 (flip k) b).1 (andG g k a).2.1 (andG (andG g k a).1 (flip k) b).2.1 else (noG, 0, (andG (andG g k a).1 (flip k) b).2.2)) else (noG, 0, (andG g k a).2.2)) := if_neg hneg
    have HO := Lib.hid (andG_ok hg k a)
    have hl1 := andG_lit g k a
    clear hg hp hc hneg
    generalize andG g k a = r at *
    go_enter Try.func71, Try.ntmps71
    go_wp2_with fail
    refine HC.out.mono ?_
    rintro e w1 ⟨A1, c1, rfl, hc1, hp1, hb1⟩
    have HT1 := Lib.hid ((HT.out.step hb1).alloc (.cells #[.int .i64 r.1.n, .slice A1 r.1.as.length c1] 24))
    have HP1 := Lib.hid ((HT.out.res hp1).alloc (.cells #[.int .i64 r.1.n, .slice A1 r.1.as.length c1] 24))
    have HB1 := Lib.hid ((Blk.new w1 24 #[.int .i64 r.1.n, .slice A1 r.1.as.length c1]))
    have d0 : ∀ i, (w1.alloc (.cells #[.int .i64 r.1.n, .slice A1 r.1.as.length c1] 24)).cell? ⟨w.heap.size + 1, i, none⟩ = #[.int .i64 0, .slice none 0 0][i]? := fun i => HT1.out.rb.cell i
    have f0 : ∀ i, (w1.alloc (.cells #[.int .i64 r.1.n, .slice A1 r.1.as.length c1] 24)).frozen? ⟨w.heap.size + 1, i, none⟩ = false := fun i => HT1.out.rb.frozen i
    have HC1 := Lib.hid hc1
    clear hp1 hb1 hc1 HC HT
    by_cases hz : r.2.2 = 0
    · have hz' : (r.2.2 != 0) = false := by simp [hz]
      have HE1 := Lib.hid (HE.out.trans (if_pos hz))
      clear hz HE
      have HCb := Lib.hid (rand_any r.1 (flip k) b A1 c1 _ _ HO.out fk.2 hb HC1.out HP1.out)
      have HO2 := Lib.hid (andG_ok HO.out (flip k) b)
      have hl2 := andG_lit r.1 (flip k) b
      generalize andG r.1 (flip k) b = s at *
      go_wp2_with fail
      refine HCb.out.mono ?_
      rintro e w2 ⟨A2, c2, rfl, hc2, hp2, hb2⟩
      have HT2 := Lib.hid ((HT1.out.step hb2).alloc (.cells #[.int .i64 s.1.n, .slice A2 s.1.as.length c2] 24))
      have HP2 := Lib.hid ((HT1.out.res hp2).alloc (.cells #[.int .i64 s.1.n, .slice A2 s.1.as.length c2] 24))
      clear d0 f0
      have d0 : ∀ i, (w2.alloc (.cells #[.int .i64 s.1.n, .slice A2 s.1.as.length c2] 24)).cell? ⟨w.heap.size + 1, i, none⟩ = #[.int .i64 0, .slice none 0 0][i]? := fun i => HT2.out.rb.cell i
      have f0 : ∀ i, (w2.alloc (.cells #[.int .i64 s.1.n, .slice A2 s.1.as.length c2] 24)).frozen? ⟨w.heap.size + 1, i, none⟩ = false := fun i => HT2.out.rb.frozen i
      have HC2 := Lib.hid hc2
      clear hp2 hb2 hc2 HCb HT1 HC1 HO
      by_cases hy : s.2.2 = 0
      · have hy' : (s.2.2 != 0) = false := by simp [hy]
        have HE2 := Lib.hid (HE1.out.trans (if_pos hy))
        clear hy HE1
        have HCc := Lib.hid (ror_any s.1 r.2.1 s.2.1 A2 c2 _ _ HO2.out (by omega) (by omega) HC2.out HP2.out)
        generalize orG s.1 r.2.1 s.2.1 = o at *
        go_wp2_with fail
        refine HCc.out.mono ?_
        rintro e w3 ⟨A3, c3, rfl, hc3, hp3, hb3⟩
        have HT3 := Lib.hid (HT2.out.step hb3)
        have HP3 := Lib.hid (HT2.out.res hp3)
        clear d0 f0
        have d0 : w3.cell? ⟨w.heap.size + 1, 0, none⟩ = some (.int .i64 0) := HT3.out.rb.cell 0
        have d1 : w3.cell? ⟨w.heap.size + 1, 1, none⟩ = some (.slice none 0 0) := HT3.out.rb.cell 1
        have f0 := HT3.out.rb.frozen 0
        have f1 := HT3.out.rb.frozen 1
        clear hp3 hb3 HCc
        go_wp2_with fail
        refine bodyPost_ret (v := .tuple #[.agg #[.int .i64 o.1.n, .slice A3 o.1.as.length c3], .int .i64 o.2.1, .int .i64 o.2.2]) (by simp [results, Try.results71, go_sem, d0, d1]) rfl ?_
        rw [HE2.out]
        exact HT3.out.ret hc3 HP3.out _ _ _ _
      · have hy' : (s.2.2 != 0) = true := by simp [hy]
        have HE2 := Lib.hid (HE1.out.trans (if_neg hy))
        clear hy HE1
        go_wp2_with fail
        refine bodyPost_ret (v := .tuple #[.agg #[.int .i64 0, .slice none 0 0], .int .i64 0, .int .i64 s.2.2]) (by simp [results, Try.results71, go_sem, d0]) rfl ?_
        rw [HE2.out]
        exact HT2.out.err _ _ _
    · have hz' : (r.2.2 != 0) = true := by simp [hz]
      have HE1 := Lib.hid (HE.out.trans (if_neg hz))
      clear hz HE
      go_wp2_with fail
      refine bodyPost_ret (v := .tuple #[.agg #[.int .i64 0, .slice none 0 0], .int .i64 0, .int .i64 r.2.2]) (by simp [results, Try.results71, go_sem, d0]) rfl ?_
      rw [HE1.out]
      exact HT1.out.err _ _ _
end Go.Proofs.Ytbdhkagcbncefaa
