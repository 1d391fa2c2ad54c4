/- Formulas: FormulaSize. -/
import Derived.Test.YtijecfmblddanaaDoorG4
import Derived.Test.YtijecfmblddanaaDoorFmAwake
import Derived.Test.YtijecfmblddanaaDoorG2
set_option linter.unusedVariables false
set_option linter.unusedSimpArgs false
namespace Go.Proofs.YtijecfmblddanaaDoor
open Go.RowKit Go.Maps

def bytesI (xs : List Int) : List UInt8 := xs.map fun x => UInt8.ofNat x.toNat
theorem bytesI_len (xs : List Int) : (bytesI xs).length = xs.length := List.length_map ..
theorem nums_of {w : World} {B : Nat} {A : Option Addr} {xs : List Int} (h : Vals w B A (xs.map (.int .u8 ·))) (hr : ∀ x ∈ xs, 0 ≤ x ∧ x ≤ 255) : NumsV w B A (bytesI xs) := fun i b hi => by
  unfold bytesI at hi
  rw [List.getElem?_map] at hi
  cases hx : xs[i]? with
  | none => rw [hx] at hi; cases hi
  | some x =>
    rw [hx] at hi
    have hi' : UInt8.ofNat x.toNat = b := by simpa using hi
    obtain ⟨q, o, h1, h2, h3⟩ := h i (.int .u8 x) (by rw [List.getElem?_map, hx]; rfl)
    refine ⟨q, o, h1, h2, ?_⟩
    have hb := hr x (List.mem_of_getElem? hx)
    have e : ((b.toNat : Nat) : Int) = x := by
      rw [← hi']
      simp
      omega
    rw [e]
    exact h3

/-- What FormulaSize has laid. -/
structure SzMem (w3 W : World) (f g : Fm) (A1 A2 : Option Addr) (c1 c2 : Nat) (k : Int) : Prop where
  b : Below w3.heap.size w3 W
  bf : Blk W w3.heap.size 37 #[.int .i64 f.kind, .string ⟨f.name.toArray⟩, .int .i64 f.lit, .slice A1 f.kids.length c1]
  bg : Blk W (w3.heap.size + 1) 37 #[.int .i64 g.kind, .string ⟨g.name.toArray⟩, .int .i64 g.lit, .slice A2 g.kids.length c2]
  bh : Blk W (w3.heap.size + 1 + 1 + 1) 37 #[.int .i64 (5 + k % 4), .string ⟨#[]⟩, .int .i64 0, .slice (some ⟨w3.heap.size + 1 + 1, 0, none⟩) 2 2]
  bi : Blk W (w3.heap.size + 1 + 1 + 1 + 1 + 1) 37 #[.int .i64 (9 + k % 6), .string ⟨#[]⟩, .int .i64 0, .slice (some ⟨w3.heap.size + 1 + 1 + 1 + 1, 0, none⟩) 1 1]
  vf : FmV W W.heap.size f A1 c1
  vg : FmV W W.heap.size g A2 c2
  vh : FmV W W.heap.size (.mk (5 + k % 4) [] 0 [f, g]) (some ⟨w3.heap.size + 1 + 1, 0, none⟩) 2
  vi : FmV W W.heap.size (.mk (9 + k % 6) [] 0 [f]) (some ⟨w3.heap.size + 1 + 1 + 1 + 1, 0, none⟩) 1
theorem SzMem.after {w3 W W' : World} {f g : Fm} {A1 A2 : Option Addr} {c1 c2 : Nat} {k : Int} (h : SzMem w3 W f g A1 A2 c1 c2 k) (hb : Below W.heap.size W W') : SzMem w3 W' f g A1 A2 c1 c2 k :=
  ⟨step2 h.b hb, h.bf.below hb h.bf.lt, h.bg.below hb h.bg.lt, h.bh.below hb h.bh.lt, h.bi.below hb h.bi.lt, h.vf.after hb, h.vg.after hb, h.vh.after hb, h.vi.after hb⟩
theorem szMem_of {w3 : World} {f g : Fm} {A1 A2 : Option Addr} {c1 c2 : Nat} {k : Int} (hf : FmV w3 w3.heap.size f A1 c1) (hg : FmV w3 w3.heap.size g A2 c2) (hk0 : 0 ≤ k) (hk1 : k ≤ 255) : SzMem w3 ((((((w3.alloc (.cells #[.int .i64 f.kind, .string ⟨f.name.toArray⟩, .int .i64 f.lit, .slice A1 f.kids.length c1] 37)).alloc (.cells #[.int .i64 g.kind, .string ⟨g.name.toArray⟩, .int .i64 g.lit, .slice A2 g.kids.length c2] 37)).alloc (.cells #[.int .i64 f.kind, .string ⟨f.name.toArray⟩, .int .i64 f.lit, .slice A1 f.kids.length c1, .int .i64 g.kind, .string ⟨g.name.toArray⟩, .int .i64 g.lit, .slice A2 g.kids.length c2] 37)).alloc (.cells #[.int .i64 (5 + k % 4), .string ⟨#[]⟩, .int .i64 0, .slice (some ⟨w3.heap.size + 1 + 1, 0, none⟩) 2 2] 37)).alloc (.cells #[.int .i64 f.kind, .string ⟨f.name.toArray⟩, .int .i64 f.lit, .slice A1 f.kids.length c1] 37)).alloc (.cells #[.int .i64 (9 + k % 6), .string ⟨#[]⟩, .int .i64 0, .slice (some ⟨w3.heap.size + 1 + 1 + 1 + 1, 0, none⟩) 1 1] 37)) f g A1 A2 c1 c2 k := by
  have hb : Below w3.heap.size w3 ((((((w3.alloc (.cells #[.int .i64 f.kind, .string ⟨f.name.toArray⟩, .int .i64 f.lit, .slice A1 f.kids.length c1] 37)).alloc (.cells #[.int .i64 g.kind, .string ⟨g.name.toArray⟩, .int .i64 g.lit, .slice A2 g.kids.length c2] 37)).alloc (.cells #[.int .i64 f.kind, .string ⟨f.name.toArray⟩, .int .i64 f.lit, .slice A1 f.kids.length c1, .int .i64 g.kind, .string ⟨g.name.toArray⟩, .int .i64 g.lit, .slice A2 g.kids.length c2] 37)).alloc (.cells #[.int .i64 (5 + k % 4), .string ⟨#[]⟩, .int .i64 0, .slice (some ⟨w3.heap.size + 1 + 1, 0, none⟩) 2 2] 37)).alloc (.cells #[.int .i64 f.kind, .string ⟨f.name.toArray⟩, .int .i64 f.lit, .slice A1 f.kids.length c1] 37)).alloc (.cells #[.int .i64 (9 + k % 6), .string ⟨#[]⟩, .int .i64 0, .slice (some ⟨w3.heap.size + 1 + 1 + 1 + 1, 0, none⟩) 1 1] 37)) := (((((stepA w3 _).alloc (by simp) _).alloc (by simp; omega) _).alloc (by simp; omega) _).alloc (by simp; omega) _).alloc (by simp; omega) _
  have b1 : Blk (w3.alloc (.cells #[.int .i64 f.kind, .string ⟨f.name.toArray⟩, .int .i64 f.lit, .slice A1 f.kids.length c1] 37)) w3.heap.size 37 #[.int .i64 f.kind, .string ⟨f.name.toArray⟩, .int .i64 f.lit, .slice A1 f.kids.length c1] := Blk.new w3 _ _
  have b2 : Blk ((w3.alloc (.cells #[.int .i64 f.kind, .string ⟨f.name.toArray⟩, .int .i64 f.lit, .slice A1 f.kids.length c1] 37)).alloc (.cells #[.int .i64 g.kind, .string ⟨g.name.toArray⟩, .int .i64 g.lit, .slice A2 g.kids.length c2] 37)) (w3.heap.size + 1) 37 #[.int .i64 g.kind, .string ⟨g.name.toArray⟩, .int .i64 g.lit, .slice A2 g.kids.length c2] := by
    have := Blk.new (w3.alloc (.cells #[.int .i64 f.kind, .string ⟨f.name.toArray⟩, .int .i64 f.lit, .slice A1 f.kids.length c1] 37)) 37 #[.int .i64 g.kind, .string ⟨g.name.toArray⟩, .int .i64 g.lit, .slice A2 g.kids.length c2]
    rwa [World.size_alloc] at this
  have b3 : Blk (((w3.alloc (.cells #[.int .i64 f.kind, .string ⟨f.name.toArray⟩, .int .i64 f.lit, .slice A1 f.kids.length c1] 37)).alloc (.cells #[.int .i64 g.kind, .string ⟨g.name.toArray⟩, .int .i64 g.lit, .slice A2 g.kids.length c2] 37)).alloc (.cells #[.int .i64 f.kind, .string ⟨f.name.toArray⟩, .int .i64 f.lit, .slice A1 f.kids.length c1, .int .i64 g.kind, .string ⟨g.name.toArray⟩, .int .i64 g.lit, .slice A2 g.kids.length c2] 37)) (w3.heap.size + 1 + 1) 37 #[.int .i64 f.kind, .string ⟨f.name.toArray⟩, .int .i64 f.lit, .slice A1 f.kids.length c1, .int .i64 g.kind, .string ⟨g.name.toArray⟩, .int .i64 g.lit, .slice A2 g.kids.length c2] := by
    have := Blk.new ((w3.alloc (.cells #[.int .i64 f.kind, .string ⟨f.name.toArray⟩, .int .i64 f.lit, .slice A1 f.kids.length c1] 37)).alloc (.cells #[.int .i64 g.kind, .string ⟨g.name.toArray⟩, .int .i64 g.lit, .slice A2 g.kids.length c2] 37)) 37 #[.int .i64 f.kind, .string ⟨f.name.toArray⟩, .int .i64 f.lit, .slice A1 f.kids.length c1, .int .i64 g.kind, .string ⟨g.name.toArray⟩, .int .i64 g.lit, .slice A2 g.kids.length c2]
    rwa [World.size_alloc, World.size_alloc] at this
  have b4 : Blk ((((w3.alloc (.cells #[.int .i64 f.kind, .string ⟨f.name.toArray⟩, .int .i64 f.lit, .slice A1 f.kids.length c1] 37)).alloc (.cells #[.int .i64 g.kind, .string ⟨g.name.toArray⟩, .int .i64 g.lit, .slice A2 g.kids.length c2] 37)).alloc (.cells #[.int .i64 f.kind, .string ⟨f.name.toArray⟩, .int .i64 f.lit, .slice A1 f.kids.length c1, .int .i64 g.kind, .string ⟨g.name.toArray⟩, .int .i64 g.lit, .slice A2 g.kids.length c2] 37)).alloc (.cells #[.int .i64 (5 + k % 4), .string ⟨#[]⟩, .int .i64 0, .slice (some ⟨w3.heap.size + 1 + 1, 0, none⟩) 2 2] 37)) (w3.heap.size + 1 + 1 + 1) 37 #[.int .i64 (5 + k % 4), .string ⟨#[]⟩, .int .i64 0, .slice (some ⟨w3.heap.size + 1 + 1, 0, none⟩) 2 2] := by
    have := Blk.new (((w3.alloc (.cells #[.int .i64 f.kind, .string ⟨f.name.toArray⟩, .int .i64 f.lit, .slice A1 f.kids.length c1] 37)).alloc (.cells #[.int .i64 g.kind, .string ⟨g.name.toArray⟩, .int .i64 g.lit, .slice A2 g.kids.length c2] 37)).alloc (.cells #[.int .i64 f.kind, .string ⟨f.name.toArray⟩, .int .i64 f.lit, .slice A1 f.kids.length c1, .int .i64 g.kind, .string ⟨g.name.toArray⟩, .int .i64 g.lit, .slice A2 g.kids.length c2] 37)) 37 #[.int .i64 (5 + k % 4), .string ⟨#[]⟩, .int .i64 0, .slice (some ⟨w3.heap.size + 1 + 1, 0, none⟩) 2 2]
    rwa [World.size_alloc, World.size_alloc, World.size_alloc] at this
  have b5 : Blk (((((w3.alloc (.cells #[.int .i64 f.kind, .string ⟨f.name.toArray⟩, .int .i64 f.lit, .slice A1 f.kids.length c1] 37)).alloc (.cells #[.int .i64 g.kind, .string ⟨g.name.toArray⟩, .int .i64 g.lit, .slice A2 g.kids.length c2] 37)).alloc (.cells #[.int .i64 f.kind, .string ⟨f.name.toArray⟩, .int .i64 f.lit, .slice A1 f.kids.length c1, .int .i64 g.kind, .string ⟨g.name.toArray⟩, .int .i64 g.lit, .slice A2 g.kids.length c2] 37)).alloc (.cells #[.int .i64 (5 + k % 4), .string ⟨#[]⟩, .int .i64 0, .slice (some ⟨w3.heap.size + 1 + 1, 0, none⟩) 2 2] 37)).alloc (.cells #[.int .i64 f.kind, .string ⟨f.name.toArray⟩, .int .i64 f.lit, .slice A1 f.kids.length c1] 37)) (w3.heap.size + 1 + 1 + 1 + 1) 37 #[.int .i64 f.kind, .string ⟨f.name.toArray⟩, .int .i64 f.lit, .slice A1 f.kids.length c1] := by
    have := Blk.new ((((w3.alloc (.cells #[.int .i64 f.kind, .string ⟨f.name.toArray⟩, .int .i64 f.lit, .slice A1 f.kids.length c1] 37)).alloc (.cells #[.int .i64 g.kind, .string ⟨g.name.toArray⟩, .int .i64 g.lit, .slice A2 g.kids.length c2] 37)).alloc (.cells #[.int .i64 f.kind, .string ⟨f.name.toArray⟩, .int .i64 f.lit, .slice A1 f.kids.length c1, .int .i64 g.kind, .string ⟨g.name.toArray⟩, .int .i64 g.lit, .slice A2 g.kids.length c2] 37)).alloc (.cells #[.int .i64 (5 + k % 4), .string ⟨#[]⟩, .int .i64 0, .slice (some ⟨w3.heap.size + 1 + 1, 0, none⟩) 2 2] 37)) 37 #[.int .i64 f.kind, .string ⟨f.name.toArray⟩, .int .i64 f.lit, .slice A1 f.kids.length c1]
    rwa [World.size_alloc, World.size_alloc, World.size_alloc, World.size_alloc] at this
  have b6 : Blk ((((((w3.alloc (.cells #[.int .i64 f.kind, .string ⟨f.name.toArray⟩, .int .i64 f.lit, .slice A1 f.kids.length c1] 37)).alloc (.cells #[.int .i64 g.kind, .string ⟨g.name.toArray⟩, .int .i64 g.lit, .slice A2 g.kids.length c2] 37)).alloc (.cells #[.int .i64 f.kind, .string ⟨f.name.toArray⟩, .int .i64 f.lit, .slice A1 f.kids.length c1, .int .i64 g.kind, .string ⟨g.name.toArray⟩, .int .i64 g.lit, .slice A2 g.kids.length c2] 37)).alloc (.cells #[.int .i64 (5 + k % 4), .string ⟨#[]⟩, .int .i64 0, .slice (some ⟨w3.heap.size + 1 + 1, 0, none⟩) 2 2] 37)).alloc (.cells #[.int .i64 f.kind, .string ⟨f.name.toArray⟩, .int .i64 f.lit, .slice A1 f.kids.length c1] 37)).alloc (.cells #[.int .i64 (9 + k % 6), .string ⟨#[]⟩, .int .i64 0, .slice (some ⟨w3.heap.size + 1 + 1 + 1 + 1, 0, none⟩) 1 1] 37)) (w3.heap.size + 1 + 1 + 1 + 1 + 1) 37 #[.int .i64 (9 + k % 6), .string ⟨#[]⟩, .int .i64 0, .slice (some ⟨w3.heap.size + 1 + 1 + 1 + 1, 0, none⟩) 1 1] := by
    have := Blk.new (((((w3.alloc (.cells #[.int .i64 f.kind, .string ⟨f.name.toArray⟩, .int .i64 f.lit, .slice A1 f.kids.length c1] 37)).alloc (.cells #[.int .i64 g.kind, .string ⟨g.name.toArray⟩, .int .i64 g.lit, .slice A2 g.kids.length c2] 37)).alloc (.cells #[.int .i64 f.kind, .string ⟨f.name.toArray⟩, .int .i64 f.lit, .slice A1 f.kids.length c1, .int .i64 g.kind, .string ⟨g.name.toArray⟩, .int .i64 g.lit, .slice A2 g.kids.length c2] 37)).alloc (.cells #[.int .i64 (5 + k % 4), .string ⟨#[]⟩, .int .i64 0, .slice (some ⟨w3.heap.size + 1 + 1, 0, none⟩) 2 2] 37)).alloc (.cells #[.int .i64 f.kind, .string ⟨f.name.toArray⟩, .int .i64 f.lit, .slice A1 f.kids.length c1] 37)) 37 #[.int .i64 (9 + k % 6), .string ⟨#[]⟩, .int .i64 0, .slice (some ⟨w3.heap.size + 1 + 1 + 1 + 1, 0, none⟩) 1 1]
    rwa [World.size_alloc, World.size_alloc, World.size_alloc, World.size_alloc, World.size_alloc] at this
  have vf := hf.after hb
  have vg := hg.after hb
  have hs : ((((((w3.alloc (.cells #[.int .i64 f.kind, .string ⟨f.name.toArray⟩, .int .i64 f.lit, .slice A1 f.kids.length c1] 37)).alloc (.cells #[.int .i64 g.kind, .string ⟨g.name.toArray⟩, .int .i64 g.lit, .slice A2 g.kids.length c2] 37)).alloc (.cells #[.int .i64 f.kind, .string ⟨f.name.toArray⟩, .int .i64 f.lit, .slice A1 f.kids.length c1, .int .i64 g.kind, .string ⟨g.name.toArray⟩, .int .i64 g.lit, .slice A2 g.kids.length c2] 37)).alloc (.cells #[.int .i64 (5 + k % 4), .string ⟨#[]⟩, .int .i64 0, .slice (some ⟨w3.heap.size + 1 + 1, 0, none⟩) 2 2] 37)).alloc (.cells #[.int .i64 f.kind, .string ⟨f.name.toArray⟩, .int .i64 f.lit, .slice A1 f.kids.length c1] 37)).alloc (.cells #[.int .i64 (9 + k % 6), .string ⟨#[]⟩, .int .i64 0, .slice (some ⟨w3.heap.size + 1 + 1 + 1 + 1, 0, none⟩) 1 1] 37)).heap.size = w3.heap.size + 1 + 1 + 1 + 1 + 1 + 1 := by simp
  refine ⟨hb, ((((b1.alloc _).alloc _).alloc _).alloc _).alloc _, (((b2.alloc _).alloc _).alloc _).alloc _, (b4.alloc _).alloc _, b6, vf, vg, ?_, ?_⟩
  · exact FmV.of (FmS.two (by rw [hs]; omega) (((b3.alloc _).alloc _).alloc _) vf vg) (by simp [Fm.kind]; omega) (by simp [Fm.name]) (by simp [Fm.kids]) (by decide)
  · exact FmV.of (FmS.one (by rw [hs]; omega) (b5.alloc _) vf) (by simp [Fm.kind]; omega) (by simp [Fm.name]) (by simp [Fm.kids]) (by decide)
theorem size_le (f : Fm) : f.size ≤ 2000 := by
  unfold Fm.size
  split
  · next h =>
    unfold Fm.ok at h
    simp only [Bool.and_eq_true, decide_eq_true_eq] at h
    exact h.2
  · omega

set_option maxRecDepth 100000 in
set_option maxHeartbeats 4000000 in
theorem formulaSize_any (l0 : List Int) (A0 : Option Addr) (c0 : Nat) (m0 : List Int) (B0 : Option Addr) (d0 : Nat) (k : Int) (w : World) (hr : ∀ x ∈ l0, 0 ≤ x ∧ x ≤ 255) (hc : l0.length ≤ c0) (hl : c0 ≤ 140737488355328) (hA : Vals w w.heap.size A0 (l0.map (.int .u8 ·)))
    (hr2 : ∀ x ∈ m0, 0 ≤ x ∧ x ≤ 255) (hc2 : m0.length ≤ d0) (hl2 : d0 ≤ 140737488355328) (hA2 : Vals w w.heap.size B0 (m0.map (.int .u8 ·))) (hk : 0 ≤ k ∧ k ≤ 255) :
    Calls Tryd.prog 11 #[.slice A0 l0.length c0, .slice B0 m0.length d0, .int .u8 k] w (Ret w (.bool true)) := by
  have n1 := nums_of hA hr
  have n2 := nums_of hA2 hr2
  rw [← bytesI_len l0, ← bytesI_len m0]
  rw [← bytesI_len l0] at hc
  rw [← bytesI_len m0] at hc2
  clear hA hA2 hr hr2
  obtain ⟨l, hl'⟩ : ∃ l, l = bytesI l0 := ⟨_, rfl⟩
  obtain ⟨m, hm'⟩ : ∃ m, m = bytesI m0 := ⟨_, rfl⟩
  rw [← hl'] at n1 hc ⊢
  rw [← hm'] at n2 hc2 ⊢
  clear hl' hm' l0 m0
  obtain ⟨hk0, hk1⟩ := hk
  have HM1 := Lib.hid (fun W (h : Below w.heap.size w W) => made_any l W A0 c0 hc hl (fun i b hi => by
    obtain ⟨q, o, h1, h2, h3⟩ := n1.low h i b hi
    exact ⟨q, o, h1, Nat.lt_of_lt_of_le h2 h.size, h3⟩))
  have HM2 := Lib.hid (fun W (h : Below w.heap.size w W) => made_any m W B0 d0 hc2 hl2 (fun i b hi => by
    obtain ⟨q, o, h1, h2, h3⟩ := n2.low h i b hi
    exact ⟨q, o, h1, Nat.lt_of_lt_of_le h2 h.size, h3⟩))
  clear n1 n2 hc hc2
  have t1 : Int.tmod k 4 = k % 4 := Int.tmod_eq_emod_of_nonneg hk0
  have t2 : Int.tmod k 6 = k % 6 := Int.tmod_eq_emod_of_nonneg hk0
  go_enter Tryd.func11, Tryd.ntmps11
  go_wp2_with fail
  refine (awake8_any _).mono ?_
  rintro e w1 ⟨rfl, hb1⟩
  have HB1 := Lib.hid hb1
  clear hb1
  go_wp2_with fail
  refine (HM1.out _ HB1.out).mono ?_
  rintro e w2 ⟨A1, c1, rfl, hv, hb⟩
  have HV2 := Lib.hid (hv.v (B := w2.heap.size) (fun b h => h.2))
  have HB2 := Lib.hid (step2 HB1.out hb)
  clear hv hb
  unfold fmA
  go_wp2_with fail
  refine (HM2.out _ HB2.out).mono ?_
  rintro e w3 ⟨A2, c2, rfl, hv, hb⟩
  have HV3 := Lib.hid (hv.v (B := w3.heap.size) (fun b h => h.2))
  have HU3 := Lib.hid (HV2.out.after hb)
  have HB3 := Lib.hid (step2 HB2.out hb)
  clear hv hb HV2
  unfold fmA
  obtain ⟨f, hf⟩ : ∃ f, f = madeF l := ⟨_, rfl⟩
  obtain ⟨g, hg⟩ : ∃ g, g = madeF m := ⟨_, rfl⟩
  have S1 : Hid (∀ k, (5 ≤ k ∧ k ≤ 8) → (Fm.mk k [] 0 [f, g]).size = 1 + f.size + g.size) := Lib.hid (by rw [hf, hg]; exact size_two l m)
  have S2 : Hid (∀ k, (9 ≤ k ∧ k ≤ 14) → (Fm.mk k [] 0 [f]).size = 1 + f.size) := Lib.hid (by rw [hf]; exact size_one l)
  rw [← hf, ← hg]
  rw [← hf] at HU3
  rw [← hg] at HV3
  clear hf hg HM1 HM2
  go_wp2_with fail
  have HM := Lib.hid (szMem_of HU3.out HV3.out hk0 hk1)
  have HB4 : Hid (Below w.heap.size w ((((((w3.alloc (.cells #[.int .i64 f.kind, .string ⟨f.name.toArray⟩, .int .i64 f.lit, .slice A1 f.kids.length c1] 37)).alloc (.cells #[.int .i64 g.kind, .string ⟨g.name.toArray⟩, .int .i64 g.lit, .slice A2 g.kids.length c2] 37)).alloc (.cells #[.int .i64 f.kind, .string ⟨f.name.toArray⟩, .int .i64 f.lit, .slice A1 f.kids.length c1, .int .i64 g.kind, .string ⟨g.name.toArray⟩, .int .i64 g.lit, .slice A2 g.kids.length c2] 37)).alloc (.cells #[.int .i64 (5 + k % 4), .string ⟨#[]⟩, .int .i64 0, .slice (some ⟨w3.heap.size + 1 + 1, 0, none⟩) 2 2] 37)).alloc (.cells #[.int .i64 f.kind, .string ⟨f.name.toArray⟩, .int .i64 f.lit, .slice A1 f.kids.length c1] 37)).alloc (.cells #[.int .i64 (9 + k % 6), .string ⟨#[]⟩, .int .i64 0, .slice (some ⟨w3.heap.size + 1 + 1 + 1 + 1, 0, none⟩) 1 1] 37))) := Lib.hid (step2 HB3.out HM.out.b)
  generalize ((((((w3.alloc (.cells #[.int .i64 f.kind, .string ⟨f.name.toArray⟩, .int .i64 f.lit, .slice A1 f.kids.length c1] 37)).alloc (.cells #[.int .i64 g.kind, .string ⟨g.name.toArray⟩, .int .i64 g.lit, .slice A2 g.kids.length c2] 37)).alloc (.cells #[.int .i64 f.kind, .string ⟨f.name.toArray⟩, .int .i64 f.lit, .slice A1 f.kids.length c1, .int .i64 g.kind, .string ⟨g.name.toArray⟩, .int .i64 g.lit, .slice A2 g.kids.length c2] 37)).alloc (.cells #[.int .i64 (5 + k % 4), .string ⟨#[]⟩, .int .i64 0, .slice (some ⟨w3.heap.size + 1 + 1, 0, none⟩) 2 2] 37)).alloc (.cells #[.int .i64 f.kind, .string ⟨f.name.toArray⟩, .int .i64 f.lit, .slice A1 f.kids.length c1] 37)).alloc (.cells #[.int .i64 (9 + k % 6), .string ⟨#[]⟩, .int .i64 0, .slice (some ⟨w3.heap.size + 1 + 1 + 1 + 1, 0, none⟩) 1 1] 37)) = w4 at HM HB4 ⊢
  have HSB : Hid (∀ W, Below w4.heap.size w4 W → (fun W => W.cell? ⟨w3.heap.size, 0, none⟩ = some (.int .i64 f.kind) ∧ W.cell? ⟨w3.heap.size, 1, none⟩ = some (.string ⟨f.name.toArray⟩) ∧ W.cell? ⟨w3.heap.size, 2, none⟩ = some (.int .i64 f.lit) ∧ W.cell? ⟨w3.heap.size, 3, none⟩ = some (.slice A1 f.kids.length c1) ∧ W.cell? ⟨w3.heap.size + 1, 0, none⟩ = some (.int .i64 g.kind) ∧ W.cell? ⟨w3.heap.size + 1, 1, none⟩ = some (.string ⟨g.name.toArray⟩) ∧ W.cell? ⟨w3.heap.size + 1, 2, none⟩ = some (.int .i64 g.lit) ∧ W.cell? ⟨w3.heap.size + 1, 3, none⟩ = some (.slice A2 g.kids.length c2) ∧ W.cell? ⟨w3.heap.size + 1 + 1 + 1, 0, none⟩ = some (.int .i64 (5 + k % 4)) ∧ W.cell? ⟨w3.heap.size + 1 + 1 + 1, 1, none⟩ = some (.string ⟨#[]⟩) ∧ W.cell? ⟨w3.heap.size + 1 + 1 + 1, 2, none⟩ = some (.int .i64 0) ∧ W.cell? ⟨w3.heap.size + 1 + 1 + 1, 3, none⟩ = some (.slice (some ⟨w3.heap.size + 1 + 1, 0, none⟩) 2 2) ∧ W.cell? ⟨w3.heap.size + 1 + 1 + 1 + 1 + 1, 0, none⟩ = some (.int .i64 (9 + k % 6)) ∧ W.cell? ⟨w3.heap.size + 1 + 1 + 1 + 1 + 1, 1, none⟩ = some (.string ⟨#[]⟩) ∧ W.cell? ⟨w3.heap.size + 1 + 1 + 1 + 1 + 1, 2, none⟩ = some (.int .i64 0) ∧ W.cell? ⟨w3.heap.size + 1 + 1 + 1 + 1 + 1, 3, none⟩ = some (.slice (some ⟨w3.heap.size + 1 + 1 + 1 + 1, 0, none⟩) 1 1)) W) := Lib.hid fun W hb => by
    have h := HM.out.after hb
    exact ⟨h.bf.cell 0, h.bf.cell 1, h.bf.cell 2, h.bf.cell 3, h.bg.cell 0, h.bg.cell 1, h.bg.cell 2, h.bg.cell 3, h.bh.cell 0, h.bh.cell 1, h.bh.cell 2, h.bh.cell 3, h.bi.cell 0, h.bi.cell 1, h.bi.cell 2, h.bi.cell 3⟩
  have HW4 := Lib.hid (Below.refl w4.heap.size w4)
  have z1 := size_le f
  have z2 := size_le g
  have CF := Lib.hid (fun W (h : Below w4.heap.size w4 W) => size_any f _ _ W (HM.out.after h).vf)
  have CG := Lib.hid (fun W (h : Below w4.heap.size w4 W) => size_any g _ _ W (HM.out.after h).vg)
  have CH := Lib.hid (fun W (h : Below w4.heap.size w4 W) => size_any _ _ _ W (HM.out.after h).vh)
  have CI := Lib.hid (fun W (h : Below w4.heap.size w4 W) => size_any _ _ _ W (HM.out.after h).vi)
  have SFG := Lib.hid (fun W (h : Below w4.heap.size w4 W) => same_any (f.sz + 1) f (Nat.lt_succ_self _) g W W.heap.size _ _ _ _ (HM.out.after h).vf (HM.out.after h).vg (Nat.le_refl _))
  have SGF := Lib.hid (fun W (h : Below w4.heap.size w4 W) => same_any (g.sz + 1) g (Nat.lt_succ_self _) f W W.heap.size _ _ _ _ (HM.out.after h).vg (HM.out.after h).vf (Nat.le_refl _))
  have SFI := Lib.hid (fun W (h : Below w4.heap.size w4 W) => same_any (f.sz + 1) f (Nat.lt_succ_self _) _ W W.heap.size _ _ _ _ (HM.out.after h).vf (HM.out.after h).vi (Nat.le_refl _))
  rw [S1.out (5 + k % 4) (by omega)] at CH
  rw [S2.out (9 + k % 6) (by omega)] at CI
  rw [same_comm g f] at SGF
  rw [same_kid] at SFI
  have ec1 : ((1 + f.size + g.size : Nat) : Int) = 1 + (f.size : Int) + (g.size : Int) := by omega
  have ec2 : ((1 + f.size : Nat) : Int) = 1 + (f.size : Int) := by omega
  rw [ec1] at CH
  rw [ec2] at CI
  clear ec1 ec2
  unfold fmA at CF CG CH CI SFG SGF SFI
  simp only [Fm.kids, Fm.kind, Fm.name, Fm.lit, List.length_cons, List.length_nil] at CH CI SFI
  generalize f.size = sf at z1 CF CH CI
  generalize g.size = sg at z2 CG CH
  generalize f.same g = q at SFG SGF
  have q1 : IntKind.i64.wrap (1 + (sf : Int)) = 1 + (sf : Int) := IntWalk.i64_in _ (by omega)
  have q2 : IntKind.i64.wrap (1 + (sf : Int) + (sg : Int)) = 1 + (sf : Int) + (sg : Int) := IntWalk.i64_in _ (by omega)
  have q3 : (1 + (sf : Int) + (sg : Int) == 1 + (sf : Int) + (sg : Int)) = true := by simp
  have q4 : (1 + (sf : Int) == 1 + (sf : Int)) = true := by simp
  have q5 : (q == q) = true := by simp
  clear S1 S2 HB1 HB2 HB3 HU3 HV3 t1 t2
  refine wp_region_noPanic ?_
  refine wp_region_seq (fun W => W.cell? ⟨w3.heap.size, 0, none⟩ = some (.int .i64 f.kind) ∧ W.cell? ⟨w3.heap.size, 1, none⟩ = some (.string ⟨f.name.toArray⟩) ∧ W.cell? ⟨w3.heap.size, 2, none⟩ = some (.int .i64 f.lit) ∧ W.cell? ⟨w3.heap.size, 3, none⟩ = some (.slice A1 f.kids.length c1) ∧ W.cell? ⟨w3.heap.size + 1, 0, none⟩ = some (.int .i64 g.kind) ∧ W.cell? ⟨w3.heap.size + 1, 1, none⟩ = some (.string ⟨g.name.toArray⟩) ∧ W.cell? ⟨w3.heap.size + 1, 2, none⟩ = some (.int .i64 g.lit) ∧ W.cell? ⟨w3.heap.size + 1, 3, none⟩ = some (.slice A2 g.kids.length c2) ∧ W.cell? ⟨w3.heap.size + 1 + 1 + 1, 0, none⟩ = some (.int .i64 (5 + k % 4)) ∧ W.cell? ⟨w3.heap.size + 1 + 1 + 1, 1, none⟩ = some (.string ⟨#[]⟩) ∧ W.cell? ⟨w3.heap.size + 1 + 1 + 1, 2, none⟩ = some (.int .i64 0) ∧ W.cell? ⟨w3.heap.size + 1 + 1 + 1, 3, none⟩ = some (.slice (some ⟨w3.heap.size + 1 + 1, 0, none⟩) 2 2) ∧ W.cell? ⟨w3.heap.size + 1 + 1 + 1 + 1 + 1, 0, none⟩ = some (.int .i64 (9 + k % 6)) ∧ W.cell? ⟨w3.heap.size + 1 + 1 + 1 + 1 + 1, 1, none⟩ = some (.string ⟨#[]⟩) ∧ W.cell? ⟨w3.heap.size + 1 + 1 + 1 + 1 + 1, 2, none⟩ = some (.int .i64 0) ∧ W.cell? ⟨w3.heap.size + 1 + 1 + 1 + 1 + 1, 3, none⟩ = some (.slice (some ⟨w3.heap.size + 1 + 1 + 1 + 1, 0, none⟩) 1 1)) [0, 1, 2, 4, 7, 3, 5, 6, 8, 9, 10, 11, 12, 13, 15, 14, 16, 17, 18, 19, 20, 21, 22, 24, 25, 23, 26, 27, 28, 29, 30, 31, 32, 33, 34, 35] [0, 1, 2, 4, 6, 7, 9, 10, 11, 12, 13, 15, 17, 18, 19, 20, 21, 22, 24, 25, 27, 28, 29, 30, 31, 33, 34, 35] [] (by kernel_rfl) (by kernel_rfl) rfl (by kernel_rfl) (by kernel_rfl) (fun _ _ _ _ _ h => h) ?_ (fun hSS => ?_)
  · exact HSB.out _ (step2 HW4.out (stepD1 _))
  have HW5 := Lib.hid (step2 HW4.out (stepD1 _))
  clear hSS
  generalize w4.drew = w5 at HW5 ⊢
  (refine wpSeq_mov rfl rfl ?_; intro o ho; simp only [List.getElem?_toArray, List.getElem?_cons_zero, List.getElem?_cons_succ, Option.some.injEq] at ho; subst ho; refine ⟨?_, Or.inl ⟨by rfl, fun W hSW => ?_⟩, ?_⟩; rotate_left; (focus (go_simp; first | done | with_reducible rfl)); try simp only [Act.put, List.setIfInBounds_toArray, List.set_cons_zero, List.set_cons_succ])
  (refine wpSeq_mov rfl rfl ?_; intro o ho; simp only [List.getElem?_toArray, List.getElem?_cons_zero, List.getElem?_cons_succ, Option.some.injEq] at ho; subst ho; refine ⟨?_, Or.inl ⟨by rfl, fun W hSW => ?_⟩, ?_⟩; rotate_left; (focus (go_simp; first | done | with_reducible rfl)); try simp only [Act.put, List.setIfInBounds_toArray, List.set_cons_zero, List.set_cons_succ])
  (refine wpSeq_mov rfl rfl ?_; intro o ho; simp only [List.getElem?_toArray, List.getElem?_cons_zero, List.getElem?_cons_succ, Option.some.injEq] at ho; subst ho; refine ⟨?_, Or.inl ⟨by rfl, fun W hSW => ?_⟩, ?_⟩; rotate_left; (focus (go_simp; first | done | with_reducible rfl)); try simp only [Act.put, List.setIfInBounds_toArray, List.set_cons_zero, List.set_cons_succ])
  (refine wpSeq_mov rfl rfl ?_; intro o ho; simp only [List.getElem?_toArray, List.getElem?_cons_zero, List.getElem?_cons_succ, Option.some.injEq] at ho; subst ho; refine ⟨?_, Or.inl ⟨by rfl, fun W hSW => ?_⟩, ?_⟩; rotate_left; (focus (go_simp; first | done | with_reducible rfl)); try simp only [Act.put, List.setIfInBounds_toArray, List.set_cons_zero, List.set_cons_succ])
  (refine wpSeq_mov rfl rfl ?_; intro o ho; simp only [List.getElem?_toArray, List.getElem?_cons_zero, List.getElem?_cons_succ, Option.some.injEq] at ho; subst ho; refine ⟨?_, Or.inl ⟨by rfl, fun W hSW => ?_⟩, ?_⟩; rotate_left; (focus (go_simp; first | done | with_reducible rfl)); try simp only [Act.put, List.setIfInBounds_toArray, List.set_cons_zero, List.set_cons_succ])
  (refine wpSeq_fix rfl rfl ?_; intro o ho; simp only [List.getElem?_toArray, List.getElem?_cons_zero, List.getElem?_cons_succ, Option.some.injEq] at ho; subst ho; intro K hK)
  go_simp
  refine (CH.out _ HW5.out).mono ?_
  rintro e w6 ⟨rfl, hb⟩
  have HW6 := Lib.hid (step2 HW5.out hb)
  clear hb
  (refine hK.out _ _ (fun _ => HSB.out _ HW6.out) ?_; clear hK K; try simp only [Act.put, List.setIfInBounds_toArray, List.set_cons_zero, List.set_cons_succ])
  (refine wpSeq_fix rfl rfl ?_; intro o ho; simp only [List.getElem?_toArray, List.getElem?_cons_zero, List.getElem?_cons_succ, Option.some.injEq] at ho; subst ho; intro K hK)
  go_simp
  refine (CF.out _ HW6.out).mono ?_
  rintro e w7 ⟨rfl, hb⟩
  have HW7 := Lib.hid (step2 HW6.out hb)
  clear hb
  (refine hK.out _ _ (fun _ => HSB.out _ HW7.out) ?_; clear hK K; try simp only [Act.put, List.setIfInBounds_toArray, List.set_cons_zero, List.set_cons_succ])
  (refine wpSeq_mov rfl rfl ?_; intro o ho; simp only [List.getElem?_toArray, List.getElem?_cons_zero, List.getElem?_cons_succ, Option.some.injEq] at ho; subst ho; refine ⟨?_, Or.inl ⟨by rfl, fun W hSW => ?_⟩, ?_⟩; rotate_left; (focus (go_simp; first | done | with_reducible rfl)); try simp only [Act.put, List.setIfInBounds_toArray, List.set_cons_zero, List.set_cons_succ])
  (refine wpSeq_fix rfl rfl ?_; intro o ho; simp only [List.getElem?_toArray, List.getElem?_cons_zero, List.getElem?_cons_succ, Option.some.injEq] at ho; subst ho; intro K hK)
  go_simp
  refine (CG.out _ HW7.out).mono ?_
  rintro e w8 ⟨rfl, hb⟩
  have HW8 := Lib.hid (step2 HW7.out hb)
  clear hb
  (refine hK.out _ _ (fun _ => HSB.out _ HW8.out) ?_; clear hK K; try simp only [Act.put, List.setIfInBounds_toArray, List.set_cons_zero, List.set_cons_succ])
  (refine wpSeq_mov rfl rfl ?_; intro o ho; simp only [List.getElem?_toArray, List.getElem?_cons_zero, List.getElem?_cons_succ, Option.some.injEq] at ho; subst ho; refine ⟨?_, Or.inl ⟨by rfl, fun W hSW => ?_⟩, ?_⟩; rotate_left; (focus (go_simp; first | done | with_reducible rfl)); try simp only [Act.put, List.setIfInBounds_toArray, List.set_cons_zero, List.set_cons_succ])
  (refine wpSeq_mov rfl rfl ?_; intro o ho; simp only [List.getElem?_toArray, List.getElem?_cons_zero, List.getElem?_cons_succ, Option.some.injEq] at ho; subst ho; refine ⟨?_, Or.inl ⟨by rfl, fun W hSW => ?_⟩, ?_⟩; rotate_left; (focus (go_simp; first | done | with_reducible rfl)); try simp only [Act.put, List.setIfInBounds_toArray, List.set_cons_zero, List.set_cons_succ])
  (refine wpSeq_mov rfl rfl ?_; intro o ho; simp only [List.getElem?_toArray, List.getElem?_cons_zero, List.getElem?_cons_succ, Option.some.injEq] at ho; subst ho; refine ⟨?_, Or.inl ⟨by rfl, fun W hSW => ?_⟩, ?_⟩; rotate_left; (focus (go_simp; first | done | with_reducible rfl)); try simp only [Act.put, List.setIfInBounds_toArray, List.set_cons_zero, List.set_cons_succ])
  (refine wpSeq_mov rfl rfl ?_; intro o ho; simp only [List.getElem?_toArray, List.getElem?_cons_zero, List.getElem?_cons_succ, Option.some.injEq] at ho; subst ho; refine ⟨?_, Or.inl ⟨by rfl, fun W hSW => ?_⟩, ?_⟩; rotate_left; (focus (go_simp; first | done | with_reducible rfl)); try simp only [Act.put, List.setIfInBounds_toArray, List.set_cons_zero, List.set_cons_succ])
  (refine wpSeq_mov rfl rfl ?_; intro o ho; simp only [List.getElem?_toArray, List.getElem?_cons_zero, List.getElem?_cons_succ, Option.some.injEq] at ho; subst ho; refine ⟨?_, Or.inl ⟨by rfl, fun W hSW => ?_⟩, ?_⟩; rotate_left; (focus (go_simp; first | done | with_reducible rfl)); try simp only [Act.put, List.setIfInBounds_toArray, List.set_cons_zero, List.set_cons_succ])
  (refine wpSeq_mov rfl rfl ?_; intro o ho; simp only [List.getElem?_toArray, List.getElem?_cons_zero, List.getElem?_cons_succ, Option.some.injEq] at ho; subst ho; refine ⟨?_, Or.inl ⟨by rfl, fun W hSW => ?_⟩, ?_⟩; rotate_left; (focus (go_simp; first | done | with_reducible rfl)); try simp only [Act.put, List.setIfInBounds_toArray, List.set_cons_zero, List.set_cons_succ])
  (refine wpSeq_fix rfl rfl ?_; intro o ho; simp only [List.getElem?_toArray, List.getElem?_cons_zero, List.getElem?_cons_succ, Option.some.injEq] at ho; subst ho; intro K hK)
  go_simp
  refine (CI.out _ HW8.out).mono ?_
  rintro e w9 ⟨rfl, hb⟩
  have HW9 := Lib.hid (step2 HW8.out hb)
  clear hb
  (refine hK.out _ _ (fun _ => HSB.out _ HW9.out) ?_; clear hK K; try simp only [Act.put, List.setIfInBounds_toArray, List.set_cons_zero, List.set_cons_succ])
  (refine wpSeq_fix rfl rfl ?_; intro o ho; simp only [List.getElem?_toArray, List.getElem?_cons_zero, List.getElem?_cons_succ, Option.some.injEq] at ho; subst ho; intro K hK)
  go_simp
  refine (CF.out _ HW9.out).mono ?_
  rintro e w10 ⟨rfl, hb⟩
  have HW10 := Lib.hid (step2 HW9.out hb)
  clear hb
  (refine hK.out _ _ (fun _ => HSB.out _ HW10.out) ?_; clear hK K; try simp only [Act.put, List.setIfInBounds_toArray, List.set_cons_zero, List.set_cons_succ])
  (refine wpSeq_mov rfl rfl ?_; intro o ho; simp only [List.getElem?_toArray, List.getElem?_cons_zero, List.getElem?_cons_succ, Option.some.injEq] at ho; subst ho; refine ⟨?_, Or.inl ⟨by rfl, fun W hSW => ?_⟩, ?_⟩; rotate_left; (focus (go_simp; first | done | with_reducible rfl)); try simp only [Act.put, List.setIfInBounds_toArray, List.set_cons_zero, List.set_cons_succ])
  (refine wpSeq_mov rfl rfl ?_; intro o ho; simp only [List.getElem?_toArray, List.getElem?_cons_zero, List.getElem?_cons_succ, Option.some.injEq] at ho; subst ho; refine ⟨?_, Or.inl ⟨by rfl, fun W hSW => ?_⟩, ?_⟩; rotate_left; (focus (go_simp; first | done | with_reducible rfl)); try simp only [Act.put, List.setIfInBounds_toArray, List.set_cons_zero, List.set_cons_succ])
  (refine wpSeq_mov rfl rfl ?_; intro o ho; simp only [List.getElem?_toArray, List.getElem?_cons_zero, List.getElem?_cons_succ, Option.some.injEq] at ho; subst ho; refine ⟨?_, Or.inl ⟨by rfl, fun W hSW => ?_⟩, ?_⟩; rotate_left; (focus (go_simp; first | done | with_reducible rfl)); try simp only [Act.put, List.setIfInBounds_toArray, List.set_cons_zero, List.set_cons_succ])
  (refine wpSeq_mov rfl rfl ?_; intro o ho; simp only [List.getElem?_toArray, List.getElem?_cons_zero, List.getElem?_cons_succ, Option.some.injEq] at ho; subst ho; refine ⟨?_, Or.inl ⟨by rfl, fun W hSW => ?_⟩, ?_⟩; rotate_left; (focus (go_simp; first | done | with_reducible rfl)); try simp only [Act.put, List.setIfInBounds_toArray, List.set_cons_zero, List.set_cons_succ])
  (refine wpSeq_mov rfl rfl ?_; intro o ho; simp only [List.getElem?_toArray, List.getElem?_cons_zero, List.getElem?_cons_succ, Option.some.injEq] at ho; subst ho; refine ⟨?_, Or.inl ⟨by rfl, fun W hSW => ?_⟩, ?_⟩; rotate_left; (focus (go_simp; first | done | with_reducible rfl)); try simp only [Act.put, List.setIfInBounds_toArray, List.set_cons_zero, List.set_cons_succ])
  (refine wpSeq_mov rfl rfl ?_; intro o ho; simp only [List.getElem?_toArray, List.getElem?_cons_zero, List.getElem?_cons_succ, Option.some.injEq] at ho; subst ho; refine ⟨?_, Or.inl ⟨by rfl, fun W hSW => ?_⟩, ?_⟩; rotate_left; (focus (go_simp; first | done | with_reducible rfl)); try simp only [Act.put, List.setIfInBounds_toArray, List.set_cons_zero, List.set_cons_succ])
  (refine wpSeq_mov rfl rfl ?_; intro o ho; simp only [List.getElem?_toArray, List.getElem?_cons_zero, List.getElem?_cons_succ, Option.some.injEq] at ho; subst ho; refine ⟨?_, Or.inl ⟨by rfl, fun W hSW => ?_⟩, ?_⟩; rotate_left; (focus (go_simp; first | done | with_reducible rfl)); try simp only [Act.put, List.setIfInBounds_toArray, List.set_cons_zero, List.set_cons_succ])
  (refine wpSeq_mov rfl rfl ?_; intro o ho; simp only [List.getElem?_toArray, List.getElem?_cons_zero, List.getElem?_cons_succ, Option.some.injEq] at ho; subst ho; refine ⟨?_, Or.inl ⟨by rfl, fun W hSW => ?_⟩, ?_⟩; rotate_left; (focus (go_simp; first | done | with_reducible rfl)); try simp only [Act.put, List.setIfInBounds_toArray, List.set_cons_zero, List.set_cons_succ])
  (refine wpSeq_fix rfl rfl ?_; intro o ho; simp only [List.getElem?_toArray, List.getElem?_cons_zero, List.getElem?_cons_succ, Option.some.injEq] at ho; subst ho; intro K hK)
  go_simp
  refine (SFG.out _ HW10.out).mono ?_
  rintro e w11 ⟨rfl, hb⟩
  have HW11 := Lib.hid (step2 HW10.out hb)
  clear hb
  (refine hK.out _ _ (fun _ => HSB.out _ HW11.out) ?_; clear hK K; try simp only [Act.put, List.setIfInBounds_toArray, List.set_cons_zero, List.set_cons_succ])
  (refine wpSeq_fix rfl rfl ?_; intro o ho; simp only [List.getElem?_toArray, List.getElem?_cons_zero, List.getElem?_cons_succ, Option.some.injEq] at ho; subst ho; intro K hK)
  go_simp
  refine (SGF.out _ HW11.out).mono ?_
  rintro e w12 ⟨rfl, hb⟩
  have HW12 := Lib.hid (step2 HW11.out hb)
  clear hb
  (refine hK.out _ _ (fun _ => HSB.out _ HW12.out) ?_; clear hK K; try simp only [Act.put, List.setIfInBounds_toArray, List.set_cons_zero, List.set_cons_succ])
  (refine wpSeq_mov rfl rfl ?_; intro o ho; simp only [List.getElem?_toArray, List.getElem?_cons_zero, List.getElem?_cons_succ, Option.some.injEq] at ho; subst ho; refine ⟨?_, Or.inl ⟨by rfl, fun W hSW => ?_⟩, ?_⟩; rotate_left; (focus (go_simp; first | done | with_reducible rfl)); try simp only [Act.put, List.setIfInBounds_toArray, List.set_cons_zero, List.set_cons_succ])
  (refine wpSeq_mov rfl rfl ?_; intro o ho; simp only [List.getElem?_toArray, List.getElem?_cons_zero, List.getElem?_cons_succ, Option.some.injEq] at ho; subst ho; refine ⟨?_, Or.inl ⟨by rfl, fun W hSW => ?_⟩, ?_⟩; rotate_left; (focus (go_simp; first | done | with_reducible rfl)); try simp only [Act.put, List.setIfInBounds_toArray, List.set_cons_zero, List.set_cons_succ])
  (refine wpSeq_mov rfl rfl ?_; intro o ho; simp only [List.getElem?_toArray, List.getElem?_cons_zero, List.getElem?_cons_succ, Option.some.injEq] at ho; subst ho; refine ⟨?_, Or.inl ⟨by rfl, fun W hSW => ?_⟩, ?_⟩; rotate_left; (focus (go_simp; first | done | with_reducible rfl)); try simp only [Act.put, List.setIfInBounds_toArray, List.set_cons_zero, List.set_cons_succ])
  (refine wpSeq_mov rfl rfl ?_; intro o ho; simp only [List.getElem?_toArray, List.getElem?_cons_zero, List.getElem?_cons_succ, Option.some.injEq] at ho; subst ho; refine ⟨?_, Or.inl ⟨by rfl, fun W hSW => ?_⟩, ?_⟩; rotate_left; (focus (go_simp; first | done | with_reducible rfl)); try simp only [Act.put, List.setIfInBounds_toArray, List.set_cons_zero, List.set_cons_succ])
  (refine wpSeq_mov rfl rfl ?_; intro o ho; simp only [List.getElem?_toArray, List.getElem?_cons_zero, List.getElem?_cons_succ, Option.some.injEq] at ho; subst ho; refine ⟨?_, Or.inl ⟨by rfl, fun W hSW => ?_⟩, ?_⟩; rotate_left; (focus (go_simp; first | done | with_reducible rfl)); try simp only [Act.put, List.setIfInBounds_toArray, List.set_cons_zero, List.set_cons_succ])
  (refine wpSeq_fix rfl rfl ?_; intro o ho; simp only [List.getElem?_toArray, List.getElem?_cons_zero, List.getElem?_cons_succ, Option.some.injEq] at ho; subst ho; intro K hK)
  go_simp
  refine (SFI.out _ HW12.out).mono ?_
  rintro e w13 ⟨rfl, hb⟩
  have HW13 := Lib.hid (step2 HW12.out hb)
  clear hb
  (refine hK.out _ _ (fun _ => HSB.out _ HW13.out) ?_; clear hK K; try simp only [Act.put, List.setIfInBounds_toArray, List.set_cons_zero, List.set_cons_succ])
  (refine wpSeq_mov rfl rfl ?_; intro o ho; simp only [List.getElem?_toArray, List.getElem?_cons_zero, List.getElem?_cons_succ, Option.some.injEq] at ho; subst ho; refine ⟨?_, Or.inl ⟨by rfl, fun W hSW => ?_⟩, ?_⟩; rotate_left; (focus (go_simp; first | done | with_reducible rfl)); try simp only [Act.put, List.setIfInBounds_toArray, List.set_cons_zero, List.set_cons_succ])
  (refine wpSeq_mov rfl rfl ?_; intro o ho; simp only [List.getElem?_toArray, List.getElem?_cons_zero, List.getElem?_cons_succ, Option.some.injEq] at ho; subst ho; refine ⟨?_, Or.inl ⟨by rfl, fun W hSW => ?_⟩, ?_⟩; rotate_left; (focus (go_simp; first | done | with_reducible rfl)); try simp only [Act.put, List.setIfInBounds_toArray, List.set_cons_zero, List.set_cons_succ])
  (refine wpSeq_mov rfl rfl ?_; intro o ho; simp only [List.getElem?_toArray, List.getElem?_cons_zero, List.getElem?_cons_succ, Option.some.injEq] at ho; subst ho; refine ⟨?_, Or.inl ⟨by rfl, fun W hSW => ?_⟩, ?_⟩; rotate_left; (focus (go_simp; first | done | with_reducible rfl)); try simp only [Act.put, List.setIfInBounds_toArray, List.set_cons_zero, List.set_cons_succ])
  refine wpSeq_done ?_
  go_wp2_with fail
  go_ret
  exact Ret.mk rfl (step2 HB4.out HW13.out)
end Go.Proofs.YtijecfmblddanaaDoor
