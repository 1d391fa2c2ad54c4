/- The package graph: Ite. -/
import Derived.Test.YtbdhkagcbncefaaOr
namespace Go.Proofs.Ytbdhkagcbncefaa
open Go.RowKit Go.Maps

theorem noG_ok : GOk noG := ⟨by decide, by simp [noG], by simp [noG]⟩

theorem andHi_ok {g : Gr} {a b : Int} (hg : GOk g) (hn : g.as.length ≤ 2000) (ha : 0 ≤ a ∧ a ≤ 4001) (hb : 0 ≤ b ∧ b ≤ 4001) : GOk (andHi g a b).1 := by
  unfold andHi
  cases trivG a b with
  | some l => exact hg
  | none =>
    dsimp only
    cases placeOf g.as (a, b) with
    | some i => exact hg
    | none =>
      dsimp only
      split
      · exact noG_ok
      · rename_i h
        obtain ⟨h1, h2, h3⟩ := hg
        unfold Gr.vars at h
        have := (wf_iff _).1 h1
        refine ⟨h1, ?_, ?_⟩
        · simp
          omega
        · intro p hp
          simp at hp
          rcases hp with hp | rfl
          · exact h3 p hp
          · exact ⟨(wf_iff _).2 (by dsimp only; omega), (wf_iff _).2 (by dsimp only; omega)⟩

theorem andG_ok {g : Gr} (hg : GOk g) (a b : Int) : GOk (andG g a b).1 := by
  unfold andG
  split
  · rename_i h
    rw [Bool.and_eq_true, Bool.and_eq_true, litB_iff, litB_iff, right_iff] at h
    exact andHi_ok hg h.1.1.2.2.1 (by omega) (by omega)
  · exact noG_ok
theorem orG_ok {g : Gr} (hg : GOk g) (a b : Int) : GOk (orG g a b).1 := by
  unfold orG
  split
  · exact noG_ok
  · dsimp only
    split
    · exact andG_ok hg _ _
    · exact noG_ok
theorem iteG_ok {g : Gr} (hg : GOk g) (c a b : Int) : GOk (iteG g c a b).1 := by
  unfold iteG
  split
  · exact noG_ok
  · dsimp only
    split
    · split
      · exact orG_ok (andG_ok (andG_ok hg _ _) _ _) _ _
      · exact noG_ok
    · exact noG_ok

/-- Two boxes of a caller: the graph that it holds, and the one that it hands back. -/
structure Two (w w' : World) (Q : Nat → Prop) (g : Gr) (A : Option Addr) (c : Nat) : Prop where
  below : Below w.heap.size w w'
  big : w.heap.size + 2 ≤ w'.heap.size
  gb : Blk w' w.heap.size 24 #[.int .i64 g.n, .slice A g.as.length c]
  rb : Blk w' (w.heap.size + 1) 24 #[.int .i64 0, .slice none 0 0]
  prs : PrsQ w' (fun b => (Q b ∧ b < w.heap.size) ∨ w.heap.size + 2 ≤ b) A g.as

theorem Two.begin_ {w : World} {Q : Nat → Prop} {g : Gr} {A : Option Addr} {c : Nat} (hp : PrsQ w Q A g.as) :
    Two w ((w.alloc (.cells #[.int .i64 g.n, .slice A g.as.length c] 24)).alloc (.cells #[.int .i64 0, .slice none 0 0] 24)) Q g A c := by
  refine ⟨((Below.refl _ _).alloc (Nat.le_refl _) _).alloc (by simp) _, by simp, (Blk.new _ _ _).alloc _, ?_, ?_⟩
  · have := Blk.new (w.alloc (.cells #[.int .i64 g.n, .slice A g.as.length c] 24)) 24 #[.int .i64 0, .slice none 0 0]
    rw [World.size_alloc] at this
    exact this
  · exact ((hp.imp (Q' := fun b => (Q b ∧ b < w.heap.size) ∨ w.heap.size + 2 ≤ b) fun b h1 h2 => .inl ⟨h1, h2⟩).alloc _).alloc _

/-- A call that hands back a graph, which is put into the first box. -/
theorem Two.put {w w' w'' : World} {Q : Nat → Prop} {g g' : Gr} {A A' : Option Addr} {c c' : Nat} (h : Two w w' Q g A c) (hb : Below w'.heap.size w' w'')
    (hp : PrsQ w'' (QNew w' (fun b => (Q b ∧ b < w.heap.size) ∨ w.heap.size + 2 ≤ b)) A' g'.as) :
    Two w ((w''.setCell ⟨w.heap.size, 0, none⟩ (.int .i64 g'.n)).setCell ⟨w.heap.size, 1, none⟩ (.slice A' g'.as.length c')) Q g' A' c' := by
  have hz : ∀ (x : World) (p : Addr) (u : Value), (x.setCell p u).heap.size = x.heap.size := fun x p u => by simp [World.setCell]
  have hw := h.below.size
  have hbig := h.big
  refine ⟨(((below2 h.below hw hb).setCell (p := ⟨w.heap.size, 0, none⟩) (Nat.le_refl _) _).setCell (p := ⟨w.heap.size, 1, none⟩) (Nat.le_refl _) _), ?_, ?_, ?_, ?_⟩
  · rw [hz, hz]
    exact Nat.le_trans h.big hb.size
  · have := ((h.gb.below hb h.gb.lt).set_ 0 (.int .i64 g'.n)).set_ 1 (.slice A' g'.as.length c')
    exact this
  · exact ((h.rb.below hb h.rb.lt).far (p := ⟨w.heap.size, 0, none⟩) (by simp) _).far (p := ⟨w.heap.size, 1, none⟩) (by simp) _
  · have hq : ∀ b, QNew w' (fun b => (Q b ∧ b < w.heap.size) ∨ w.heap.size + 2 ≤ b) b → b ≠ w.heap.size := by
      rintro b (⟨⟨_, h⟩ | h, _⟩ | h) <;> omega
    refine ((hp.setCell (g := w.heap.size) hq _).setCell (g := w.heap.size) hq _).imp ?_
    rintro b (⟨h, _⟩ | h) _
    · exact h
    · exact .inr (by omega)

theorem ite_any (g : Gr) (k a b : Int) (A : Option Addr) (c : Nat) (w : World) (Q : Nat → Prop) (hg : GOk g) (hk : k ≤ 9223372036854775807) (ha : a ≤ 9223372036854775807) (hb : b ≤ 9223372036854775807) (hc : g.as.length ≤ c) (hp : PrsQ w Q A g.as) :
    Calls Try.prog 41 #[.agg #[.int .i64 g.n, .slice A g.as.length c], .int .i64 k, .int .i64 a, .int .i64 b] w (RetG w Q (iteG g k a b)) := by
  by_cases hneg : k < 0
  · have HE : Hid (iteG g k a b = (noG, 0, 1)) := if_pos hneg
    clear hg hp hc ha hb
    go_enter Try.func41, Try.ntmps41
    go_wp2_with fail
    refine bodyPost_ret (v := .tuple #[.agg #[.int .i64 0, .slice none 0 0], .int .i64 0, .int .i64 1]) (by simp [results, Try.results41, go_sem]) rfl ?_
    rw [HE.out]
    exact ⟨none, 0, rfl, Nat.le_refl _, PrsQ.nil, ((Below.refl _ _).alloc (Nat.le_refl _) _).alloc (by simp) _⟩
  · have hk0 : 0 ≤ k := by omega
    have hxk := xor_flip k hk0 hk
    have fk := flip_max hk0 hk
    have HT := Lib.hid (Two.begin_ (c := c) hp)
    have HC := Lib.hid (and_any g k a A c _ _ hg hk ha hc HT.out.prs)
    have HE : Hid (iteG g k a b = if (andG g k a).2.2 = 0 then (if (andG (andG g k a).1 (flip k) b).2.2 = 0 then orG (andG (andG g k a).1 (flip k) b).1 (andG g k a).2.1 (andG (andG g k a).1 (flip k) b).2.1 else (noG, 0, (andG (andG g k a).1 (flip k) b).2.2)) else (noG, 0, (andG g k a).2.2)) := if_neg hneg
    have HO := Lib.hid (andG_ok hg k a)
    have hl1 := andG_lit g k a
    clear hg hp hc hneg
    generalize andG g k a = r at *
    go_enter Try.func41, Try.ntmps41
    go_wp2_with fail
    refine HC.out.mono ?_
    rintro e w1 ⟨A1, c1, rfl, hc1, hp1, hb1⟩
    have t1 := HT.out.put (c' := c1) hb1 hp1
    have g1 := HT.out.gb.below hb1 HT.out.gb.lt
    have d0 : w1.cell? ⟨w.heap.size, 0, none⟩ = some (.int .i64 g.n) := g1.cell 0
    have d1 : w1.cell? ⟨w.heap.size, 1, none⟩ = some (.slice A g.as.length c) := g1.cell 1
    have f0 := g1.frozen 0
    have f1 := g1.frozen 1
    have HT1 := Lib.hid t1
    have HC1 := Lib.hid hc1
    clear g1 t1 hp1 hb1 hc1 HC HT
    by_cases hz : r.2.2 = 0
    · have hz' : (r.2.2 != 0) = false := by simp [hz]
      have HE1 := Lib.hid (HE.out.trans (if_pos hz))
      clear hz HE
      have HCb := Lib.hid (and_any r.1 (flip k) b A1 c1 _ _ HO.out fk.2 hb HC1.out HT1.out.prs)
      have HO2 := Lib.hid (andG_ok HO.out (flip k) b)
      have hl2 := andG_lit r.1 (flip k) b
      generalize andG r.1 (flip k) b = s at *
      go_wp2_with fail
      refine HCb.out.mono ?_
      rintro e w2 ⟨A2, c2, rfl, hc2, hp2, hb2⟩
      have t2 := HT1.out.put (c' := c2) hb2 hp2
      have g2 := HT1.out.gb.below hb2 HT1.out.gb.lt
      clear d0 d1 f0 f1
      have d0 : w2.cell? ⟨w.heap.size, 0, none⟩ = some (.int .i64 r.1.n) := g2.cell 0
      have d1 : w2.cell? ⟨w.heap.size, 1, none⟩ = some (.slice A1 r.1.as.length c1) := g2.cell 1
      have f0 := g2.frozen 0
      have f1 := g2.frozen 1
      have HT2 := Lib.hid t2
      have HC2 := Lib.hid hc2
      clear g2 t2 hp2 hb2 hc2 HCb HT1 HC1 HO
      by_cases hy : s.2.2 = 0
      · have hy' : (s.2.2 != 0) = false := by simp [hy]
        have HE2 := Lib.hid (HE1.out.trans (if_pos hy))
        clear hy HE1
        have HCc := Lib.hid (or_any s.1 r.2.1 s.2.1 A2 c2 _ _ HO2.out (by omega) (by omega) HC2.out HT2.out.prs)
        generalize orG s.1 r.2.1 s.2.1 = o at *
        go_wp2_with fail
        refine HCc.out.mono ?_
        rintro e w3 ⟨A3, c3, rfl, hc3, hp3, hb3⟩
        have g3 := HT2.out.rb.below hb3 HT2.out.rb.lt
        clear d0 d1 f0 f1
        have d0 : w3.cell? ⟨w.heap.size + 1, 0, none⟩ = some (.int .i64 0) := g3.cell 0
        have d1 : w3.cell? ⟨w.heap.size + 1, 1, none⟩ = some (.slice none 0 0) := g3.cell 1
        have f0 := g3.frozen 0
        have f1 := g3.frozen 1
        have HB3 := Lib.hid (below2 HT2.out.below HT2.out.below.size hb3)
        have HP3 := Lib.hid hp3
        have hbig := HT2.out.big
        clear g3 hp3 hb3 HCc
        go_wp2_with fail
        refine bodyPost_ret (v := .tuple #[.agg #[.int .i64 o.1.n, .slice A3 o.1.as.length c3], .int .i64 o.2.1, .int .i64 o.2.2]) (by simp [results, Try.results41, go_sem, d0, d1]) rfl ?_
        rw [HE2.out]
        refine ⟨A3, c3, rfl, hc3, ?_, (HB3.out.setCell (p := ⟨w.heap.size + 1, 0, none⟩) (by simp) _).setCell (p := ⟨w.heap.size + 1, 1, none⟩) (by simp) _⟩
        refine ((HP3.out.setCell (g := w.heap.size + 1) ?_ _).setCell (g := w.heap.size + 1) ?_ _).imp ?_
        · rintro b (⟨⟨_, h⟩ | h, _⟩ | h) <;> omega
        · rintro b (⟨⟨_, h⟩ | h, _⟩ | h) <;> omega
        · rintro b (⟨h | h, _⟩ | h) _
          · exact .inl h
          · exact .inr (by omega)
          · exact .inr (by omega)
      · have hy' : (s.2.2 != 0) = true := by simp [hy]
        have HE2 := Lib.hid (HE1.out.trans (if_neg hy))
        clear hy HE1
        have g3 := HT2.out.rb
        have q0 : ((w2.setCell ⟨w.heap.size, 0, none⟩ (.int .i64 s.1.n)).setCell ⟨w.heap.size, 1, none⟩ (.slice A2 s.1.as.length c2)).cell? ⟨w.heap.size + 1, 0, none⟩ = some (.int .i64 0) := g3.cell 0
        have q1 : ((w2.setCell ⟨w.heap.size, 0, none⟩ (.int .i64 s.1.n)).setCell ⟨w.heap.size, 1, none⟩ (.slice A2 s.1.as.length c2)).cell? ⟨w.heap.size + 1, 1, none⟩ = some (.slice none 0 0) := g3.cell 1
        have p0 := g3.frozen 0
        have p1 := g3.frozen 1
        clear g3
        go_wp2_with fail
        refine bodyPost_ret (v := .tuple #[.agg #[.int .i64 0, .slice none 0 0], .int .i64 0, .int .i64 s.2.2]) (by simp [results, Try.results41, go_sem, q0, q1]) rfl ?_
        rw [HE2.out]
        exact ⟨none, 0, rfl, Nat.le_refl _, PrsQ.nil, (HT2.out.below.setCell (p := ⟨w.heap.size + 1, 0, none⟩) (by simp) _).setCell (p := ⟨w.heap.size + 1, 1, none⟩) (by simp) _⟩
    · have hz' : (r.2.2 != 0) = true := by simp [hz]
      have HE1 := Lib.hid (HE.out.trans (if_neg hz))
      clear hz HE
      have g3 := HT1.out.rb
      have q0 : ((w1.setCell ⟨w.heap.size, 0, none⟩ (.int .i64 r.1.n)).setCell ⟨w.heap.size, 1, none⟩ (.slice A1 r.1.as.length c1)).cell? ⟨w.heap.size + 1, 0, none⟩ = some (.int .i64 0) := g3.cell 0
      have q1 : ((w1.setCell ⟨w.heap.size, 0, none⟩ (.int .i64 r.1.n)).setCell ⟨w.heap.size, 1, none⟩ (.slice A1 r.1.as.length c1)).cell? ⟨w.heap.size + 1, 1, none⟩ = some (.slice none 0 0) := g3.cell 1
      have p0 := g3.frozen 0
      have p1 := g3.frozen 1
      clear g3
      go_wp2_with fail
      refine bodyPost_ret (v := .tuple #[.agg #[.int .i64 0, .slice none 0 0], .int .i64 0, .int .i64 r.2.2]) (by simp [results, Try.results41, go_sem, q0, q1]) rfl ?_
      rw [HE1.out]
      exact ⟨none, 0, rfl, Nat.le_refl _, PrsQ.nil, (HT1.out.below.setCell (p := ⟨w.heap.size + 1, 0, none⟩) (by simp) _).setCell (p := ⟨w.heap.size + 1, 1, none⟩) (by simp) _⟩
end Go.Proofs.Ytbdhkagcbncefaa
