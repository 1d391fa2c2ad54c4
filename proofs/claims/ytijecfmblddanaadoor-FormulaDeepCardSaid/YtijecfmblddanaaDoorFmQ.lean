/- Formulas in memory, in blocks of one's choice. -/
import Derived.Test.YtijecfmblddanaaDoorFmMem
set_option linter.unusedVariables false
set_option linter.unusedSimpArgs false
namespace Go.Proofs.YtijecfmblddanaaDoor
open Go.RowKit Go.Maps

/-- The slice at A reads as these formulas; all lies in blocks that Q names. -/
inductive FmQ (w : World) (Q : Nat → Prop) : List Fm → Option Addr → Prop
  | nil (A : Option Addr) : FmQ w Q [] A
  | mk (l : List Fm) (b o : Nat) (As : Nat → Option Addr) (cs : Nat → Nat) (hb : Q b)
      (hc : ∀ (i : Nat) (f : Fm), l[i]? = some f → (w.cell? ⟨b, o + i * 4, none⟩ = some (.int .i64 f.kind) ∧ w.cell? ⟨b, o + i * 4 + 1, none⟩ = some (.string ⟨f.name.toArray⟩) ∧ w.cell? ⟨b, o + i * 4 + 2, none⟩ = some (.int .i64 f.lit) ∧ w.cell? ⟨b, o + i * 4 + 3, none⟩ = some (.slice (As i) f.kids.length (cs i))) ∧
        f.kids.length ≤ cs i ∧ cs i ≤ 140737488355328 ∧ (-9223372036854775808 ≤ f.kind ∧ f.kind ≤ 9223372036854775807) ∧ f.name.length ≤ 140737488355328)
      (hk : ∀ (i : Nat) (f : Fm), l[i]? = some f → FmQ w Q f.kids (As i)) : FmQ w Q l (some ⟨b, o, none⟩)

section
variable {w w' : World} {B : Nat} {Q Q' : Nat → Prop} {A : Option Addr} {l : List Fm}
theorem FmQ.keep (h : FmQ w Q l A) (hQ : ∀ b, Q b → Q' b) (hk : ∀ b o, Q b → w'.cell? ⟨b, o, none⟩ = w.cell? ⟨b, o, none⟩) : FmQ w' Q' l A := by
  induction h with
  | nil A => exact .nil A
  | mk l b o As cs hb hc _ ih =>
    refine .mk l b o As cs (hQ b hb) (fun i f hi => ?_) ih
    obtain ⟨⟨h1, h2, h3, h4⟩, h5⟩ := hc i f hi
    exact ⟨⟨by rw [hk _ _ hb, h1], by rw [hk _ _ hb, h2], by rw [hk _ _ hb, h3], by rw [hk _ _ hb, h4]⟩, h5⟩
theorem FmQ.low (h : FmQ w Q l A) (hQ : ∀ b, Q b → b < B ∧ Q' b) (hb : Below B w w') : FmQ w' Q' l A := h.keep (fun b hq => (hQ b hq).2) fun b o hq => (bcell hb).1 b o (hQ b hq).1
theorem FmQ.far (h : FmQ w Q l A) {x j : Nat} (hQ : ∀ b, Q b → b ≠ x) (v : Value) : FmQ (w.setCell ⟨x, j, none⟩ v) Q l A := by
  refine h.keep (fun _ h => h) fun b o hq => ?_
  have := Below.heap_setCell w ⟨x, j, none⟩ v b (hQ b hq)
  simp only [World.cell?, this]
theorem FmQ.s (h : FmQ w Q l A) (hQ : ∀ b, Q b → b < B) : FmS w B l A := by
  induction h with
  | nil A => exact .nil A
  | mk l b o As cs hb hc _ ih => exact .mk l b o As cs (hQ b hb) hc ih
end

/-- A formula as a value: its parts at A, in blocks that Q names. -/
structure FmVQ (w : World) (Q : Nat → Prop) (f : Fm) (A : Option Addr) (c : Nat) : Prop where
  cap : f.kids.length ≤ c
  big : c ≤ 140737488355328
  kind : -9223372036854775808 ≤ f.kind ∧ f.kind ≤ 9223372036854775807
  name : f.name.length ≤ 140737488355328
  kids : FmQ w Q f.kids A
section
variable {w w' : World} {B b T ck cj : Nat} {Q Q' : Nat → Prop} {Ak Aj : Option Addr} {k j : Fm}
theorem FmVQ.v (h : FmVQ w Q k Ak ck) (hQ : ∀ b, Q b → b < B) : FmV w B k Ak ck := ⟨h.cap, h.big, h.kind, h.name, h.kids.s hQ⟩
theorem FmVQ.low (h : FmVQ w Q k Ak ck) (hQ : ∀ b, Q b → b < B ∧ Q' b) (hb : Below B w w') : FmVQ w' Q' k Ak ck := ⟨h.cap, h.big, h.kind, h.name, h.kids.low hQ hb⟩
theorem FmVQ.far (h : FmVQ w Q k Ak ck) {x i : Nat} (hQ : ∀ b, Q b → b ≠ x) (v : Value) : FmVQ (w.setCell ⟨x, i, none⟩ v) Q k Ak ck := ⟨h.cap, h.big, h.kind, h.name, h.kids.far hQ v⟩
theorem FmVQ.leaf (h1 : -9223372036854775808 ≤ k.kind ∧ k.kind ≤ 9223372036854775807) (h2 : k.name.length ≤ 140737488355328) (hk : k.kids = []) (hc : ck ≤ 140737488355328) : FmVQ w Q k Ak ck :=
  ⟨by rw [hk]; exact Nat.zero_le _, hc, h1, h2, by rw [hk]; exact .nil _⟩
theorem FmQ.one (hb : Q b) (h : Blk w b T #[.int .i64 k.kind, .string ⟨k.name.toArray⟩, .int .i64 k.lit, .slice Ak k.kids.length ck]) (hk : FmVQ w Q k Ak ck) : FmQ w Q [k] (some ⟨b, 0, none⟩) :=
  .mk [k] b 0 (fun _ => Ak) (fun _ => ck) hb (fun i f hi => by
    cases i with
    | zero => cases hi; exact ⟨⟨h.cell 0, h.cell 1, h.cell 2, h.cell 3⟩, hk.cap, hk.big, hk.kind, hk.name⟩
    | succ i => simp at hi) (fun i f hi => by
    cases i with
    | zero => cases hi; exact hk.kids
    | succ i => simp at hi)
theorem FmQ.two (hb : Q b) (h : Blk w b T #[.int .i64 k.kind, .string ⟨k.name.toArray⟩, .int .i64 k.lit, .slice Ak k.kids.length ck, .int .i64 j.kind, .string ⟨j.name.toArray⟩, .int .i64 j.lit, .slice Aj j.kids.length cj]) (hk : FmVQ w Q k Ak ck) (hj : FmVQ w Q j Aj cj) : FmQ w Q [k, j] (some ⟨b, 0, none⟩) :=
  .mk [k, j] b 0 (fun i => if i = 0 then Ak else Aj) (fun i => if i = 0 then ck else cj) hb (fun i f hi => by
    match i, hi with
    | 0, hi => cases hi; exact ⟨⟨h.cell 0, h.cell 1, h.cell 2, h.cell 3⟩, hk.cap, hk.big, hk.kind, hk.name⟩
    | 1, hi => cases hi; exact ⟨⟨h.cell 4, h.cell 5, h.cell 6, h.cell 7⟩, hj.cap, hj.big, hj.kind, hj.name⟩
    | i + 2, hi => simp at hi) (fun i f hi => by
    match i, hi with
    | 0, hi => cases hi; exact hk.kids
    | 1, hi => cases hi; exact hj.kids
    | i + 2, hi => simp at hi)
end
end Go.Proofs.YtijecfmblddanaaDoor
