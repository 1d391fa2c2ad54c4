/- Facts that stay, each carried over a step by '.step'. -/
import Derived.Lib.Hide
import Derived.RangeFuncRecord
import Derived.RangeFuncOwn
import Derived.Test.YtijecfmblddanaaDoorMem
namespace Go.Proofs.YtijecfmblddanaaDoor
open Go.RowKit Go.Maps

/-- All that stood when the call began stands. -/
structure Low (w0 w : World) : Prop where
  b : Below w0.heap.size w0 w

section
variable {w0 w w' : World} {B : Option Addr} {b : Nat} {t e : TypeId} {cs : Array Value} {ps : List Pr} {xs : List Value} {base sz n : Nat} {v : Value}
theorem Low.refl (w : World) : Low w w := ⟨Below.refl _ _⟩
theorem Low.step (h : Low w0 w) (hb : Below w.heap.size w w') : Low w0 w' := ⟨below2 h.b h.b.size hb⟩
theorem Low.grown (h : Low w0 w) {row : Option Nat} (hg : w.grownBy w' row) (hr : ∀ k, row = some k → w0.heap.size ≤ k) : Low w0 w' := ⟨h.b.grown hg h.b.size hr⟩
theorem Low.size (h : Low w0 w) : w0.heap.size ≤ w.heap.size := h.b.size
/-- A slice of pairs. -/
structure PrsF (w : World) (A : Option Addr) (ps : List Pr) : Prop where
  p : Prs w w.heap.size A ps
structure ValsF (w : World) (A : Option Addr) (xs : List Value) : Prop where
  p : Vals w w.heap.size A xs
structure OwnF (w : World) (base : Nat) (e : TypeId) (size : Nat) (v : Value) (n : Nat) (xs : List Value) : Prop where
  p : w.ownsRow base e size v n xs
structure BlkF (w : World) (g : Nat) (t : TypeId) (cs : Array Value) : Prop where
  p : Blk w g t cs
theorem PrsF.step (h : PrsF w B ps) (hb : Below w.heap.size w w') : PrsF w' B ps := ⟨h.p.after hb⟩
theorem ValsF.step (h : ValsF w B xs) (hb : Below w.heap.size w w') : ValsF w' B xs := ⟨h.p.after hb⟩
theorem OwnF.step (h : OwnF w base e sz v n xs) (hb : Below w.heap.size w w') : OwnF w' base e sz v n xs := ⟨own_below h.p hb⟩
theorem BlkF.step (h : BlkF w b t cs) (hb : Below w.heap.size w w') : BlkF w' b t cs := ⟨h.p.below hb h.p.lt⟩
theorem BlkF.new (w : World) (t : TypeId) (cs : Array Value) : BlkF (w.alloc (.cells cs t)) w.heap.size t cs := ⟨Blk.new w t cs⟩
theorem BlkF.cell (h : BlkF w b t cs) (i : Nat) : w.cell? ⟨b, i, none⟩ = cs[i]? := h.p.cell i
/-- A step that makes a block. -/
theorem stepA (w : World) (o : Obj) : Below w.heap.size w (w.alloc o) := (Below.refl _ _).alloc (Nat.le_refl _) o
theorem stepD (w : World) (n : Nat) : Below w.heap.size w (w.drewN n) := below_drewN (Below.refl _ _) n
theorem stepD1 (w : World) : Below w.heap.size w w.drew := (Below.refl _ _).drew
/-- One step behind another. -/
theorem step2 {w w1 w2 : World} (h : Below w.heap.size w w1) (h' : Below w1.heap.size w1 w2) : Below w.heap.size w w2 := below2 h h.size h'

/-- A row of the call's own is not a block of another type. -/
theorem own_ne {base' sz' n' : Nat} {v' : Value} {xs' : List Value} (h : w.ownsRow base' e sz' v' n' xs') (hb : Blk w b t cs) (hne : e ≠ t) : ∀ k, v'.ownBlock = some k → k ≠ b := by
  intro k hk
  rcases h.2 with ⟨rfl, _⟩ | ⟨g, cap, cur, rfl, hg, hh, _⟩
  · simp [Value.ownBlock] at hk
  · simp [Value.ownBlock] at hk
    subst hk
    rintro rfl
    unfold Blk at hb
    rw [hb] at hh
    injection hh with hh
    injection hh with _ h2
    exact hne h2.symm
/-- A store into a block of another type keeps the row. -/
theorem own_set {base' sz' n' : Nat} {v' : Value} {xs' : List Value} (h : w.ownsRow base' e sz' v' n' xs') (hb : Blk w b t cs) (hne : e ≠ t) (i : Nat) (u : Value) : (w.setCell ⟨b, i, none⟩ u).ownsRow base' e sz' v' n' xs' := by
  refine h.kept (grown_set (g := b) (World.grownBy.refl w _) i u) ?_
  cases hv : v'.ownBlock with
  | none => exact .inl rfl
  | some k => exact .inr (fun e' => own_ne h hb hne k hv (by injection e'))

/-- Two rows of the call's own that share no block. -/
def Apart (v u : Value) : Prop := ∀ k, v.ownBlock = some k → u.ownBlock ≠ some k
theorem Apart.symm {v u : Value} (h : Apart v u) : Apart u v := fun k hu hv => h k hv hu
theorem Apart.nil_ {u : Value} : Apart (.slice none 0 0) u := fun k hk => by simp [Value.ownBlock] at hk
theorem own_beside {base' sz' n' : Nat} {u v v' : Value} {xs' : List Value} (hu : w.ownsRow base' e sz' u n' xs') (hap : Apart v u) (hg : w.grownBy w' v.ownBlock) (hat : v'.ownBlock = v.ownBlock ∨ v'.ownBlock = some w.heap.size) :
    w'.ownsRow base' e sz' u n' xs' ∧ Apart v' u := by
  constructor
  · refine hu.kept hg ?_
    cases hk : u.ownBlock with
    | none => exact .inl rfl
    | some k => exact .inr (fun e' => hap k e'.symm hk)
  · intro k hk huk
    rcases hat with h | h
    · rw [h] at hk
      exact hap k hk huk
    · rw [h] at hk
      injection hk with hk
      have := (hu.lt k huk).2
      omega

/-- A cell of a block that is not the grown one. -/
theorem grown_cell {g o : Nat} {u : Value} {row : Option Nat} (hg : w.grownBy w' row) (hc : w.cell? ⟨g, o, none⟩ = some u) (hr : ∀ k, row = some k → k ≠ g) : w'.cell? ⟨g, o, none⟩ = some u := by
  rw [World.cell?_of_block (w := w) (hg.block g (block_lt_of_cell hc) (fun e => hr g e.symm rfl))]
  exact hc

/-- Growing a row of the call's own keeps what lies in other blocks. -/
theorem Blk.by_ (h : Blk w b t cs) {row : Option Nat} (hg : w.grownBy w' row) (hr : ∀ k, row = some k → k ≠ b) : Blk w' b t cs := h.grown hg (fun e => hr b e.symm rfl)
theorem Prs.grown (h : Prs w base B ps) {row : Option Nat} (hB : base ≤ w.heap.size) (hg : w.grownBy w' row) (hr : ∀ k, row = some k → base ≤ k) : Prs w' base B ps :=
  h.below ((Below.refl base w).grown hg hB hr)
theorem Vals.grown (h : Vals w base B xs) {row : Option Nat} (hB : base ≤ w.heap.size) (hg : w.grownBy w' row) (hr : ∀ k, row = some k → base ≤ k) : Vals w' base B xs :=
  h.below ((Below.refl base w).grown hg hB hr)
end

theorem vals_of_blk {W : World} {b : Nat} {t : TypeId} {xs : List Value} (h : Blk W b t xs.toArray) : Vals W W.heap.size (some ⟨b, 0, none⟩) xs := fun i x hi => by
  refine ⟨b, 0, rfl, h.lt, ?_⟩
  rw [h.cell (0 + i)]
  simpa using hi
theorem blk_put {W : World} {b D : Nat} {t : TypeId} {cs : Array Value} {o o' : Obj} (h : Blk W b t cs) (hD : W.heap[D]? = some o) (ho : o.isCells = false) : Blk (W.putObj D o') b t cs := by
  have hne : b ≠ D := by
    rintro rfl
    unfold Blk at h
    rw [hD] at h
    cases h
    cases ho
  exact (World.putObj_heap_other hne).trans h
end Go.Proofs.YtijecfmblddanaaDoor
