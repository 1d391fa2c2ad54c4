/- Layer 1's 'same': all that is made of literals is the document's. -/
import Derived.Deep.RegionHeld3
import Derived.Test.YtbdhkagcbncefaaSame
namespace Go.Proofs.Ytbdhkagcbncefaa
open Go.RowKit Go.Maps

/-- A graph, a literal and an error are handed back. -/
def RetP (w : World) (r : Gr × Int × Int) (e : Ending) (w' : World) : Prop :=
  ∃ A c, e = .returned (.tuple #[.agg #[.int .i64 r.1.n, .slice A r.1.as.length c], .int .i64 r.2.1, .int .i64 r.2.2]) ∧ r.1.as.length ≤ c ∧ Prs w' w'.heap.size A r.1.as ∧ Below w.heap.size w w'

theorem RetG.p {w w' : World} {Q : Nat → Prop} {r : Gr × Int × Int} {e : Ending} (h : RetG w Q r e w') : RetP w r e w' := by
  obtain ⟨A, c, h1, h2, h3, h4⟩ := h
  exact ⟨A, c, h1, h2, h3.prs, h4⟩

section
variable (g : Gr) (A : Option Addr) (c : Nat) (w : World) (hg : GOk g) (hc : g.as.length ≤ c) (hp : Prs w w.heap.size A g.as)
include hg hc hp
theorem and_p (a b : Int) (ha : a ≤ 9223372036854775807) (hb : b ≤ 9223372036854775807) :
    Calls Try.prog 40 #[.agg #[.int .i64 g.n, .slice A g.as.length c], .int .i64 a, .int .i64 b] w (RetP w (andG g a b)) := (and_any g a b A c w _ hg ha hb hc hp).mono fun _ _ h => h.p
theorem or_p (a b : Int) (ha : a ≤ 9223372036854775807) (hb : b ≤ 9223372036854775807) :
    Calls Try.prog 45 #[.agg #[.int .i64 g.n, .slice A g.as.length c], .int .i64 a, .int .i64 b] w (RetP w (orG g a b)) := (or_any g a b A c w _ hg ha hb hc hp).mono fun _ _ h => h.p
theorem ite_p (k a b : Int) (hk : k ≤ 9223372036854775807) (ha : a ≤ 9223372036854775807) (hb : b ≤ 9223372036854775807) :
    Calls Try.prog 41 #[.agg #[.int .i64 g.n, .slice A g.as.length c], .int .i64 k, .int .i64 a, .int .i64 b] w (RetP w (iteG g k a b)) := (ite_any g k a b A c w _ hg hk ha hb hc hp).mono fun _ _ h => h.p
theorem rand_p (a b : Int) (ha : a ≤ 9223372036854775807) (hb : b ≤ 9223372036854775807) :
    Calls Try.prog 69 #[.agg #[.int .i64 g.n, .slice A g.as.length c], .int .i64 a, .int .i64 b] w (RetP w (andG g a b)) := (rand_any g a b A c w _ hg ha hb hc hp).mono fun _ _ h => h.p
theorem ror_p (a b : Int) (ha : a ≤ 9223372036854775807) (hb : b ≤ 9223372036854775807) :
    Calls Try.prog 70 #[.agg #[.int .i64 g.n, .slice A g.as.length c], .int .i64 a, .int .i64 b] w (RetP w (orG g a b)) := (ror_any g a b A c w _ hg ha hb hc hp).mono fun _ _ h => h.p
theorem rite_p (k a b : Int) (hk : k ≤ 9223372036854775807) (ha : a ≤ 9223372036854775807) (hb : b ≤ 9223372036854775807) :
    Calls Try.prog 71 #[.agg #[.int .i64 g.n, .slice A g.as.length c], .int .i64 k, .int .i64 a, .int .i64 b] w (RetP w (iteG g k a b)) := (rite_any g k a b A c w _ hg hk ha hb hc hp).mono fun _ _ h => h.p
end

/-- All that was there when the region began is there. -/
theorem held_step {w0 W W' : World} (h : (∀ b o, b < w0.heap.size → W.cell? ⟨b, o, none⟩ = w0.cell? ⟨b, o, none⟩) ∧ Below w0.heap.size w0 W) (hb : Below W.heap.size W W') :
    (∀ b o, b < w0.heap.size → W'.cell? ⟨b, o, none⟩ = w0.cell? ⟨b, o, none⟩) ∧ Below w0.heap.size w0 W' :=
  have h2 := below2 h.2 h.2.size hb
  ⟨(bcell h2).1, h2⟩
theorem held_begin (w0 : World) : (∀ b o, b < w0.heap.size → w0.drew.cell? ⟨b, o, none⟩ = w0.cell? ⟨b, o, none⟩) ∧ Below w0.heap.size w0 w0.drew := ⟨(bcell (Below.refl _ _).drew).1, (Below.refl _ _).drew⟩

/-- A box and what it holds, kept by a call. -/
theorem box_keep {w w' : World} {b : Nat} {t : TypeId} {x y : Value} (h : Blk w b t #[x, y]) (hb : Below w.heap.size w w') (o : Obj) : Blk (w'.alloc o) b t #[x, y] := (h.below hb h.lt).alloc o

theorem orG_lit (g : Gr) (a b : Int) : 0 ≤ (orG g a b).2.1 ∧ (orG g a b).2.1 ≤ 4002 := by
  unfold orG
  split
  · simp
  · dsimp only
    split
    · have := andG_lit g (flip a) (flip b)
      dsimp only
      generalize (andG g (flip a) (flip b)).2.1 = l at *
      unfold flip
      split <;> omega
    · simp

theorem andHi_len {g : Gr} {a b : Int} (hs : 0 ≤ g.n ∧ g.n ≤ 2000 ∧ g.as.length ≤ 2000 ∧ g.n + 1 + g.as.length ≤ 2000) : (andHi g a b).1.as.length ≤ 2000 := by
  unfold andHi
  cases trivG a b with
  | some l => exact hs.2.2.1
  | none =>
    dsimp only
    cases placeOf g.as (a, b) with
    | some i => exact hs.2.2.1
    | none =>
      dsimp only
      split
      · simp [noG]
      · rename_i h
        unfold Gr.vars at h
        simp
        omega
theorem andG_len (g : Gr) (a b : Int) : (andG g a b).1.as.length ≤ 2000 := by
  unfold andG
  split
  · rename_i h
    rw [Bool.and_eq_true, Bool.and_eq_true, right_iff] at h
    exact andHi_len h.1.1
  · simp [noG]
theorem orG_len (g : Gr) (a b : Int) : (orG g a b).1.as.length ≤ 2000 := by
  unfold orG
  split
  · simp [noG]
  · dsimp only
    split
    · exact andG_len _ _ _
    · simp [noG]
theorem iteG_len (g : Gr) (c a b : Int) : (iteG g c a b).1.as.length ≤ 2000 := by
  unfold iteG
  split
  · simp [noG]
  · dsimp only
    split
    · split
      · exact orG_len _ _ _
      · simp [noG]
    · simp [noG]

set_option maxRecDepth 100000 in
set_option maxHeartbeats 2000000 in
theorem lsame_any (g : Gr) (a b k : Int) (A : Option Addr) (c : Nat) (w : World) (hg : GOk g) (ha : a ≤ 9223372036854775807) (hb : b ≤ 9223372036854775807) (hk : k ≤ 9223372036854775807) (hc : g.as.length ≤ c) (hp : Prs w w.heap.size A g.as) :
    Calls Try.prog 39 #[.agg #[.int .i64 g.n, .slice A g.as.length c], .int .i64 a, .int .i64 b, .int .i64 k] w (Ret w (.bool true)) := by
  have hgl : g.as.length ≤ 8796093022208 := hg.2.1
  have l1 := andG_len g a b
  have l2 := orG_len g a b
  have l3 := iteG_len g k a b
  have HG := Lib.hid hg
  have hb0 : Below w.heap.size w (w.alloc (.cells #[.int .i64 g.n, .slice A g.as.length c] 24)) := (Below.refl _ _).alloc (Nat.le_refl _) _
  have HP := Lib.hid (hp.after hb0)
  have HX := Lib.hid (Blk.new w 24 #[.int .i64 g.n, .slice A g.as.length c])
  have HB0 := Lib.hid hb0
  have HC1 : ∀ w, Prs w w.heap.size A g.as → Calls _ _ _ w _ := fun w h => and_p g A c w HG.out hc h a b ha hb
  have HC2 : ∀ w, Prs w w.heap.size A g.as → Calls _ _ _ w _ := fun w h => rand_p g A c w HG.out hc h a b ha hb
  have HC3 : ∀ w, Prs w w.heap.size A g.as → Calls _ _ _ w _ := fun w h => or_p g A c w HG.out hc h a b ha hb
  have HC4 : ∀ w, Prs w w.heap.size A g.as → Calls _ _ _ w _ := fun w h => ror_p g A c w HG.out hc h a b ha hb
  have HC5 : ∀ w, Prs w w.heap.size A g.as → Calls _ _ _ w _ := fun w h => ite_p g A c w HG.out hc h k a b hk ha hb
  have HC6 : ∀ w, Prs w w.heap.size A g.as → Calls _ _ _ w _ := fun w h => rite_p g A c w HG.out hc h k a b hk ha hb
  clear hg hb0
  generalize andG g a b = r at *
  generalize orG g a b = s at *
  generalize iteG g k a b = t at *
  have H1 := Lib.hid HC1
  have H2 := Lib.hid HC2
  have H3 := Lib.hid HC3
  have H4 := Lib.hid HC4
  have H5 := Lib.hid HC5
  have H6 := Lib.hid HC6
  clear HC1 HC2 HC3 HC4 HC5 HC6 hp
  go_enter Try.func39, Try.ntmps39
  go_wp2_with fail
  refine (H1.out _ HP.out).mono ?_
  rintro e w1 ⟨A1, c1, rfl, hc1, hp1, hb1⟩
  have hbb1 : Below _ _ (w1.alloc (.cells #[.int .i64 r.1.n, .slice A1 r.1.as.length c1] 24)) := hb1.trans (((Below.refl _ _).alloc (Nat.le_refl _) (.cells #[.int .i64 r.1.n, .slice A1 r.1.as.length c1] 24)).mono hb1.size)
  have HP1 := Lib.hid (HP.out.after hbb1)
  have HBB1 := Lib.hid hbb1
  have HR1 := Lib.hid (hp1.alloc (Nat.le_refl _) (.cells #[.int .i64 r.1.n, .slice A1 r.1.as.length c1] 24) |>.more (Nat.le_of_lt (by simp : w1.heap.size < (w1.alloc (.cells #[.int .i64 r.1.n, .slice A1 r.1.as.length c1] 24)).heap.size)))
  have HY1 := Lib.hid (Blk.new w1 24 #[.int .i64 r.1.n, .slice A1 r.1.as.length c1])
  have x0 : (w1.alloc (.cells #[.int .i64 r.1.n, .slice A1 r.1.as.length c1] 24)).cell? ⟨w.heap.size, 0, none⟩ = some (.int .i64 g.n) := (HX.out.below HBB1.out HX.out.lt).cell 0
  have x1 : (w1.alloc (.cells #[.int .i64 r.1.n, .slice A1 r.1.as.length c1] 24)).cell? ⟨w.heap.size, 1, none⟩ = some (.slice A g.as.length c) := (HX.out.below HBB1.out HX.out.lt).cell 1
  have HX1 := Lib.hid (HX.out.below HBB1.out HX.out.lt)
  clear hbb1 hp1 hb1
  go_wp2_with fail
  clear x0 x1
  refine (H2.out _ HP1.out).mono ?_
  rintro e w2 ⟨A2, c2, rfl, hc2, hp2, hb2⟩
  have hbb2 : Below _ _ (w2.alloc (.cells #[.int .i64 r.1.n, .slice A2 r.1.as.length c2] 24)) := hb2.trans (((Below.refl _ _).alloc (Nat.le_refl _) (.cells #[.int .i64 r.1.n, .slice A2 r.1.as.length c2] 24)).mono hb2.size)
  have HP2 := Lib.hid (HP1.out.after hbb2)
  have HBB2 := Lib.hid hbb2
  have HR2 := Lib.hid (hp2.alloc (Nat.le_refl _) (.cells #[.int .i64 r.1.n, .slice A2 r.1.as.length c2] 24) |>.more (Nat.le_of_lt (by simp : w2.heap.size < (w2.alloc (.cells #[.int .i64 r.1.n, .slice A2 r.1.as.length c2] 24)).heap.size)))
  have HY2 := Lib.hid (Blk.new w2 24 #[.int .i64 r.1.n, .slice A2 r.1.as.length c2])
  have x0 : (w2.alloc (.cells #[.int .i64 r.1.n, .slice A2 r.1.as.length c2] 24)).cell? ⟨w.heap.size, 0, none⟩ = some (.int .i64 g.n) := (HX1.out.below HBB2.out HX1.out.lt).cell 0
  have x1 : (w2.alloc (.cells #[.int .i64 r.1.n, .slice A2 r.1.as.length c2] 24)).cell? ⟨w.heap.size, 1, none⟩ = some (.slice A g.as.length c) := (HX1.out.below HBB2.out HX1.out.lt).cell 1
  have HX2 := Lib.hid (HX1.out.below HBB2.out HX1.out.lt)
  clear hbb2 hp2 hb2
  go_wp2_with fail
  clear x0 x1
  refine (H3.out _ HP2.out).mono ?_
  rintro e w3 ⟨A3, c3, rfl, hc3, hp3, hb3⟩
  have hbb3 : Below _ _ (w3.alloc (.cells #[.int .i64 s.1.n, .slice A3 s.1.as.length c3] 24)) := hb3.trans (((Below.refl _ _).alloc (Nat.le_refl _) (.cells #[.int .i64 s.1.n, .slice A3 s.1.as.length c3] 24)).mono hb3.size)
  have HP3 := Lib.hid (HP2.out.after hbb3)
  have HBB3 := Lib.hid hbb3
  have HR3 := Lib.hid (hp3.alloc (Nat.le_refl _) (.cells #[.int .i64 s.1.n, .slice A3 s.1.as.length c3] 24) |>.more (Nat.le_of_lt (by simp : w3.heap.size < (w3.alloc (.cells #[.int .i64 s.1.n, .slice A3 s.1.as.length c3] 24)).heap.size)))
  have HY3 := Lib.hid (Blk.new w3 24 #[.int .i64 s.1.n, .slice A3 s.1.as.length c3])
  have x0 : (w3.alloc (.cells #[.int .i64 s.1.n, .slice A3 s.1.as.length c3] 24)).cell? ⟨w.heap.size, 0, none⟩ = some (.int .i64 g.n) := (HX2.out.below HBB3.out HX2.out.lt).cell 0
  have x1 : (w3.alloc (.cells #[.int .i64 s.1.n, .slice A3 s.1.as.length c3] 24)).cell? ⟨w.heap.size, 1, none⟩ = some (.slice A g.as.length c) := (HX2.out.below HBB3.out HX2.out.lt).cell 1
  have HX3 := Lib.hid (HX2.out.below HBB3.out HX2.out.lt)
  clear hbb3 hp3 hb3
  go_wp2_with fail
  clear x0 x1
  refine (H4.out _ HP3.out).mono ?_
  rintro e w4 ⟨A4, c4, rfl, hc4, hp4, hb4⟩
  have hbb4 : Below _ _ (w4.alloc (.cells #[.int .i64 s.1.n, .slice A4 s.1.as.length c4] 24)) := hb4.trans (((Below.refl _ _).alloc (Nat.le_refl _) (.cells #[.int .i64 s.1.n, .slice A4 s.1.as.length c4] 24)).mono hb4.size)
  have HP4 := Lib.hid (HP3.out.after hbb4)
  have HBB4 := Lib.hid hbb4
  have HR4 := Lib.hid (hp4.alloc (Nat.le_refl _) (.cells #[.int .i64 s.1.n, .slice A4 s.1.as.length c4] 24) |>.more (Nat.le_of_lt (by simp : w4.heap.size < (w4.alloc (.cells #[.int .i64 s.1.n, .slice A4 s.1.as.length c4] 24)).heap.size)))
  have HY4 := Lib.hid (Blk.new w4 24 #[.int .i64 s.1.n, .slice A4 s.1.as.length c4])
  have x0 : (w4.alloc (.cells #[.int .i64 s.1.n, .slice A4 s.1.as.length c4] 24)).cell? ⟨w.heap.size, 0, none⟩ = some (.int .i64 g.n) := (HX3.out.below HBB4.out HX3.out.lt).cell 0
  have x1 : (w4.alloc (.cells #[.int .i64 s.1.n, .slice A4 s.1.as.length c4] 24)).cell? ⟨w.heap.size, 1, none⟩ = some (.slice A g.as.length c) := (HX3.out.below HBB4.out HX3.out.lt).cell 1
  have HX4 := Lib.hid (HX3.out.below HBB4.out HX3.out.lt)
  clear hbb4 hp4 hb4
  go_wp2_with fail
  clear x0 x1
  refine (H5.out _ HP4.out).mono ?_
  rintro e w5 ⟨A5, c5, rfl, hc5, hp5, hb5⟩
  have hbb5 : Below _ _ (w5.alloc (.cells #[.int .i64 t.1.n, .slice A5 t.1.as.length c5] 24)) := hb5.trans (((Below.refl _ _).alloc (Nat.le_refl _) (.cells #[.int .i64 t.1.n, .slice A5 t.1.as.length c5] 24)).mono hb5.size)
  have HP5 := Lib.hid (HP4.out.after hbb5)
  have HBB5 := Lib.hid hbb5
  have HR5 := Lib.hid (hp5.alloc (Nat.le_refl _) (.cells #[.int .i64 t.1.n, .slice A5 t.1.as.length c5] 24) |>.more (Nat.le_of_lt (by simp : w5.heap.size < (w5.alloc (.cells #[.int .i64 t.1.n, .slice A5 t.1.as.length c5] 24)).heap.size)))
  have HY5 := Lib.hid (Blk.new w5 24 #[.int .i64 t.1.n, .slice A5 t.1.as.length c5])
  have x0 : (w5.alloc (.cells #[.int .i64 t.1.n, .slice A5 t.1.as.length c5] 24)).cell? ⟨w.heap.size, 0, none⟩ = some (.int .i64 g.n) := (HX4.out.below HBB5.out HX4.out.lt).cell 0
  have x1 : (w5.alloc (.cells #[.int .i64 t.1.n, .slice A5 t.1.as.length c5] 24)).cell? ⟨w.heap.size, 1, none⟩ = some (.slice A g.as.length c) := (HX4.out.below HBB5.out HX4.out.lt).cell 1
  have HX5 := Lib.hid (HX4.out.below HBB5.out HX4.out.lt)
  clear hbb5 hp5 hb5
  go_wp2_with fail
  clear x0 x1
  refine (H6.out _ HP5.out).mono ?_
  rintro e w6 ⟨A6, c6, rfl, hc6, hp6, hb6⟩
  have hbb6 : Below _ _ (w6.alloc (.cells #[.int .i64 t.1.n, .slice A6 t.1.as.length c6] 24)) := hb6.trans (((Below.refl _ _).alloc (Nat.le_refl _) (.cells #[.int .i64 t.1.n, .slice A6 t.1.as.length c6] 24)).mono hb6.size)
  have HP6 := Lib.hid (HP5.out.after hbb6)
  have HBB6 := Lib.hid hbb6
  have HR6 := Lib.hid (hp6.alloc (Nat.le_refl _) (.cells #[.int .i64 t.1.n, .slice A6 t.1.as.length c6] 24) |>.more (Nat.le_of_lt (by simp : w6.heap.size < (w6.alloc (.cells #[.int .i64 t.1.n, .slice A6 t.1.as.length c6] 24)).heap.size)))
  have HY6 := Lib.hid (Blk.new w6 24 #[.int .i64 t.1.n, .slice A6 t.1.as.length c6])
  have x0 : (w6.alloc (.cells #[.int .i64 t.1.n, .slice A6 t.1.as.length c6] 24)).cell? ⟨w.heap.size, 0, none⟩ = some (.int .i64 g.n) := (HX5.out.below HBB6.out HX5.out.lt).cell 0
  have x1 : (w6.alloc (.cells #[.int .i64 t.1.n, .slice A6 t.1.as.length c6] 24)).cell? ⟨w.heap.size, 1, none⟩ = some (.slice A g.as.length c) := (HX5.out.below HBB6.out HX5.out.lt).cell 1
  have HX6 := Lib.hid (HX5.out.below HBB6.out HX5.out.lt)
  clear hbb6 hp6 hb6
  go_wp2_with fail
  clear x0 x1
  have y1 := HY1.out
  have q1 := HR1.out
  have y1 := y1.below HBB2.out y1.lt
  have q1 := q1.after HBB2.out
  have y1 := y1.below HBB3.out y1.lt
  have q1 := q1.after HBB3.out
  have y1 := y1.below HBB4.out y1.lt
  have q1 := q1.after HBB4.out
  have y1 := y1.below HBB5.out y1.lt
  have q1 := q1.after HBB5.out
  have y1 := y1.below HBB6.out y1.lt
  have q1 := q1.after HBB6.out
  have y2 := HY2.out
  have q2 := HR2.out
  have y2 := y2.below HBB3.out y2.lt
  have q2 := q2.after HBB3.out
  have y2 := y2.below HBB4.out y2.lt
  have q2 := q2.after HBB4.out
  have y2 := y2.below HBB5.out y2.lt
  have q2 := q2.after HBB5.out
  have y2 := y2.below HBB6.out y2.lt
  have q2 := q2.after HBB6.out
  have y3 := HY3.out
  have q3 := HR3.out
  have y3 := y3.below HBB4.out y3.lt
  have q3 := q3.after HBB4.out
  have y3 := y3.below HBB5.out y3.lt
  have q3 := q3.after HBB5.out
  have y3 := y3.below HBB6.out y3.lt
  have q3 := q3.after HBB6.out
  have y4 := HY4.out
  have q4 := HR4.out
  have y4 := y4.below HBB5.out y4.lt
  have q4 := q4.after HBB5.out
  have y4 := y4.below HBB6.out y4.lt
  have q4 := q4.after HBB6.out
  have y5 := HY5.out
  have q5 := HR5.out
  have y5 := y5.below HBB6.out y5.lt
  have q5 := q5.after HBB6.out
  have y6 := HY6.out
  have q6 := HR6.out
  have y0 := HX6.out
  have q0 := HP6.out
  have hbb : Below w.heap.size w (w6.alloc (.cells #[.int .i64 t.1.n, .slice A6 t.1.as.length c6] 24)) := HB0.out.trans ((((((HBB1.out.trans (HBB2.out.mono HBB1.out.size)).trans (HBB3.out.mono (Nat.le_trans HBB1.out.size HBB2.out.size))).trans (HBB4.out.mono (Nat.le_trans HBB1.out.size (Nat.le_trans HBB2.out.size HBB3.out.size)))).trans (HBB5.out.mono (Nat.le_trans HBB1.out.size (Nat.le_trans HBB2.out.size (Nat.le_trans HBB3.out.size HBB4.out.size))))).trans (HBB6.out.mono (Nat.le_trans HBB1.out.size (Nat.le_trans HBB2.out.size (Nat.le_trans HBB3.out.size (Nat.le_trans HBB4.out.size HBB5.out.size)))))).mono HB0.out.size)
  clear HY1 HY2 HY3 HY4 HY5 HY6 HR1 HR2 HR3 HR4 HR5 HR6 HBB1 HBB2 HBB3 HBB4 HBB5 HBB6 HX HX1 HX2 HX3 HX4 HX5 HX6 HP HP1 HP2 HP3 HP4 HP5 HP6 H1 H2 H3 H4 H5 H6 HB0
  generalize w6.alloc (.cells #[.int .i64 t.1.n, .slice A6 t.1.as.length c6] 24) = w7 at *
  have z0 := y0.lt
  have e0a : w7.cell? ⟨w.heap.size, 0, none⟩ = some (.int .i64 g.n) := y0.cell 0
  have e0b : w7.cell? ⟨w.heap.size, 1, none⟩ = some (.slice A g.as.length c) := y0.cell 1
  have Q0 := Lib.hid q0
  have z1 := y1.lt
  have e1a : w7.cell? ⟨w1.heap.size, 0, none⟩ = some (.int .i64 r.1.n) := y1.cell 0
  have e1b : w7.cell? ⟨w1.heap.size, 1, none⟩ = some (.slice A1 r.1.as.length c1) := y1.cell 1
  have Q1 := Lib.hid q1
  have z2 := y2.lt
  have e2a : w7.cell? ⟨w2.heap.size, 0, none⟩ = some (.int .i64 r.1.n) := y2.cell 0
  have e2b : w7.cell? ⟨w2.heap.size, 1, none⟩ = some (.slice A2 r.1.as.length c2) := y2.cell 1
  have Q2 := Lib.hid q2
  have z3 := y3.lt
  have e3a : w7.cell? ⟨w3.heap.size, 0, none⟩ = some (.int .i64 s.1.n) := y3.cell 0
  have e3b : w7.cell? ⟨w3.heap.size, 1, none⟩ = some (.slice A3 s.1.as.length c3) := y3.cell 1
  have Q3 := Lib.hid q3
  have z4 := y4.lt
  have e4a : w7.cell? ⟨w4.heap.size, 0, none⟩ = some (.int .i64 s.1.n) := y4.cell 0
  have e4b : w7.cell? ⟨w4.heap.size, 1, none⟩ = some (.slice A4 s.1.as.length c4) := y4.cell 1
  have Q4 := Lib.hid q4
  have z5 := y5.lt
  have e5a : w7.cell? ⟨w5.heap.size, 0, none⟩ = some (.int .i64 t.1.n) := y5.cell 0
  have e5b : w7.cell? ⟨w5.heap.size, 1, none⟩ = some (.slice A5 t.1.as.length c5) := y5.cell 1
  have Q5 := Lib.hid q5
  have z6 := y6.lt
  have e6a : w7.cell? ⟨w6.heap.size, 0, none⟩ = some (.int .i64 t.1.n) := y6.cell 0
  have e6b : w7.cell? ⟨w6.heap.size, 1, none⟩ = some (.slice A6 t.1.as.length c6) := y6.cell 1
  have Q6 := Lib.hid q6
  have HBB := Lib.hid hbb
  clear y0 y1 y2 y3 y4 y5 y6 q0 q1 q2 q3 q4 q5 q6 hbb hc1 hc2 hc3 hc4 hc5 hc6
  go_region_held3 (fun W => (∀ b o, b < w7.heap.size → W.cell? ⟨b, o, none⟩ = w7.cell? ⟨b, o, none⟩) ∧ Below w7.heap.size w7 W)
    (first
      | exact held_begin w7
      | exact held_step (by assumption) (by assumption))
    (first
      | (go_at_call 42; refine (Right_any g A c _ HG.out (Q0.out.after (And.right (by assumption)))).mono ?_; rintro e w8 ⟨rfl, hb8⟩)
      | (go_at_call 60; refine (rright_any g A c _ HG.out (Q0.out.after (And.right (by assumption)))).mono ?_; rintro e w8 ⟨rfl, hb8⟩)
      | (go_at_call 44; refine (lit_any g a A c _ hgl ha).mono ?_; rintro e w8 ⟨rfl, hb8⟩)
      | (go_at_call 64; refine (rlit_any g a A c _ hgl ha).mono ?_; rintro e w8 ⟨rfl, hb8⟩)
      | (go_at_call 43; (with_reducible refine (same_any r.1 A1 A2 c1 c2 _ (by omega) (Q1.out.after (And.right (by assumption))) (Q2.out.after (And.right (by assumption)))).mono ?_); rintro e w8 ⟨rfl, hb8⟩)
      | (go_at_call 43; (with_reducible refine (same_any s.1 A3 A4 c3 c4 _ (by omega) (Q3.out.after (And.right (by assumption))) (Q4.out.after (And.right (by assumption)))).mono ?_); rintro e w8 ⟨rfl, hb8⟩)
      | (go_at_call 43; (with_reducible refine (same_any t.1 A5 A6 c5 c6 _ (by omega) (Q5.out.after (And.right (by assumption))) (Q6.out.after (And.right (by assumption)))).mono ?_); rintro e w8 ⟨rfl, hb8⟩))
  go_wp2_with fail
  go_ret
  exact ⟨rfl, HBB.out.trans ((And.right (by assumption : (∀ b o, b < w7.heap.size → World.cell? _ ⟨b, o, none⟩ = w7.cell? ⟨b, o, none⟩) ∧ Below w7.heap.size w7 _)).mono HBB.out.size)⟩
end Go.Proofs.Ytbdhkagcbncefaa
