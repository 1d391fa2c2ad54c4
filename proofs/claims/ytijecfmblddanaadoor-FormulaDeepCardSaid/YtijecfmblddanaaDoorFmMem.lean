/- Formulas in memory. -/
import Derived.Test.YtijecfmblddanaaDoorKn
import Derived.Test.YtijecfmblddanaaDoorPFm
set_option linter.unusedVariables false
set_option linter.unusedSimpArgs false
namespace Go.Proofs.YtijecfmblddanaaDoor
open Go.RowKit Go.Maps

/-- A formula's four cells. -/
def fmC (f : Fm) (A : Option Addr) (c : Nat) : List Value := [.int .i64 f.kind, .string ⟨f.name.toArray⟩, .int .i64 f.lit, .slice A f.kids.length c]

/-- The slice at A reads as these formulas; all lies below block B. -/
inductive FmS (w : World) (B : Nat) : List Fm → Option Addr → Prop
  | nil (A : Option Addr) : FmS w B [] A
  | mk (l : List Fm) (b o : Nat) (As : Nat → Option Addr) (cs : Nat → Nat) (hb : b < B)
      (hc : ∀ (i : Nat) (f : Fm), l[i]? = some f → (w.cell? ⟨b, o + i * 4, none⟩ = some (.int .i64 f.kind) ∧ w.cell? ⟨b, o + i * 4 + 1, none⟩ = some (.string ⟨f.name.toArray⟩) ∧ w.cell? ⟨b, o + i * 4 + 2, none⟩ = some (.int .i64 f.lit) ∧ w.cell? ⟨b, o + i * 4 + 3, none⟩ = some (.slice (As i) f.kids.length (cs i))) ∧
        f.kids.length ≤ cs i ∧ cs i ≤ 140737488355328 ∧ (-9223372036854775808 ≤ f.kind ∧ f.kind ≤ 9223372036854775807) ∧ f.name.length ≤ 140737488355328)
      (hk : ∀ (i : Nat) (f : Fm), l[i]? = some f → FmS w B f.kids (As i)) : FmS w B l (some ⟨b, o, none⟩)

section
variable {w w' : World} {B B' : Nat} {A : Option Addr} {l : List Fm}
theorem FmS.keep (h : FmS w B l A) (hk : ∀ b o, b < B → w'.cell? ⟨b, o, none⟩ = w.cell? ⟨b, o, none⟩) : FmS w' B l A := by
  induction h with
  | nil A => exact .nil A
  | mk l b o As cs hb hc _ ih =>
    refine .mk l b o As cs hb (fun i f hi => ?_) ih
    obtain ⟨⟨h1, h2, h3, h4⟩, h5⟩ := hc i f hi
    exact ⟨⟨by rw [hk _ _ hb, h1], by rw [hk _ _ hb, h2], by rw [hk _ _ hb, h3], by rw [hk _ _ hb, h4]⟩, h5⟩
theorem FmS.more (h : FmS w B l A) (hB : B ≤ B') : FmS w B' l A := by
  induction h with
  | nil A => exact .nil A
  | mk l b o As cs hb hc _ ih => exact .mk l b o As cs (Nat.lt_of_lt_of_le hb hB) hc ih
theorem FmS.low (h : FmS w B l A) (hb : Below B w w') : FmS w' B l A := h.keep (bcell hb).1
theorem FmS.after (h : FmS w w.heap.size l A) (hb : Below w.heap.size w w') : FmS w' w'.heap.size l A := (h.low hb).more hb.size
theorem FmS.grown {row : Option Nat} (h : FmS w B l A) (hB : B ≤ w.heap.size) (hg : w.grownBy w' row) (hr : ∀ k, row = some k → B ≤ k) : FmS w' B l A := h.low ((Below.refl B w).grown hg hB hr)
/-- The i-th of them. -/
theorem FmS.at_ (h : FmS w B l A) {i : Nat} {f : Fm} (hi : l[i]? = some f) : ∃ b o A' c, A = some ⟨b, o, none⟩ ∧ b < B ∧
    (w.cell? ⟨b, o + i * 4, none⟩ = some (.int .i64 f.kind) ∧ w.cell? ⟨b, o + i * 4 + 1, none⟩ = some (.string ⟨f.name.toArray⟩) ∧ w.cell? ⟨b, o + i * 4 + 2, none⟩ = some (.int .i64 f.lit) ∧ w.cell? ⟨b, o + i * 4 + 3, none⟩ = some (.slice A' f.kids.length c)) ∧
    (f.kids.length ≤ c ∧ c ≤ 140737488355328 ∧ (-9223372036854775808 ≤ f.kind ∧ f.kind ≤ 9223372036854775807) ∧ f.name.length ≤ 140737488355328) ∧ FmS w B f.kids A' := by
  cases h with
  | nil A => simp at hi
  | mk l b o As cs hb hc hk =>
    obtain ⟨h1, h2⟩ := hc i f hi
    exact ⟨b, o, As i, cs i, rfl, hb, h1, h2, hk i f hi⟩
end

/-- A formula as a value: its parts at A. -/
structure FmV (w : World) (B : Nat) (f : Fm) (A : Option Addr) (c : Nat) : Prop where
  cap : f.kids.length ≤ c
  big : c ≤ 140737488355328
  kind : -9223372036854775808 ≤ f.kind ∧ f.kind ≤ 9223372036854775807
  name : f.name.length ≤ 140737488355328
  kids : FmS w B f.kids A
theorem FmV.low {w w' : World} {B : Nat} {f : Fm} {A : Option Addr} {c : Nat} (h : FmV w B f A c) (hb : Below B w w') : FmV w' B f A c := ⟨h.cap, h.big, h.kind, h.name, h.kids.low hb⟩
theorem FmV.more {w : World} {B B' : Nat} {f : Fm} {A : Option Addr} {c : Nat} (h : FmV w B f A c) (hB : B ≤ B') : FmV w B' f A c := ⟨h.cap, h.big, h.kind, h.name, h.kids.more hB⟩
theorem FmV.after {w w' : World} {f : Fm} {A : Option Addr} {c : Nat} (h : FmV w w.heap.size f A c) (hb : Below w.heap.size w w') : FmV w' w'.heap.size f A c := (h.low hb).more hb.size
theorem FmV.grown {w w' : World} {B : Nat} {f : Fm} {A : Option Addr} {c : Nat} {row : Option Nat} (h : FmV w B f A c) (hB : B ≤ w.heap.size) (hg : w.grownBy w' row) (hr : ∀ k, row = some k → B ≤ k) : FmV w' B f A c := h.low ((Below.refl B w).grown hg hB hr)
/-- A formula's argument. -/
def fmA (f : Fm) (A : Option Addr) (c : Nat) : Value := .agg #[.int .i64 f.kind, .string ⟨f.name.toArray⟩, .int .i64 f.lit, .slice A f.kids.length c]
theorem FmS.v {w : World} {B : Nat} {A : Option Addr} {l : List Fm} (h : FmS w B l A) {i : Nat} {f : Fm} (hi : l[i]? = some f) : ∃ b o A' c, A = some ⟨b, o, none⟩ ∧ b < B ∧
    (w.cell? ⟨b, o + i * 4, none⟩ = some (.int .i64 f.kind) ∧ w.cell? ⟨b, o + i * 4 + 1, none⟩ = some (.string ⟨f.name.toArray⟩) ∧ w.cell? ⟨b, o + i * 4 + 2, none⟩ = some (.int .i64 f.lit) ∧ w.cell? ⟨b, o + i * 4 + 3, none⟩ = some (.slice A' f.kids.length c)) ∧ FmV w B f A' c := by
  obtain ⟨b, o, A', c, h1, h2, h3, ⟨h4, h5, h6, h7⟩, h8⟩ := h.at_ hi
  exact ⟨b, o, A', c, h1, h2, h3, ⟨h4, h5, h6, h7, h8⟩⟩
end Go.Proofs.YtijecfmblddanaaDoor
