/- A box that holds a graph, from world to world. -/
import Derived.Test.YtbdhkagcbncefaaMade
import Derived.Test.YtbdhkagcbncefaaPTwice
namespace Go.Proofs.Ytbdhkagcbncefaa
open Go.RowKit Go.Maps

/-- A remainder, where neither is below nought. -/
theorem rem_run {P : Program} (x y : Int) (hx : 0 ≤ x) (hy : 0 < y) (_hl : y ≤ 9223372036854775807) : ∀ w : World, (Op.intDiv .rem .i64 x y).run P w = .ok (.int .i64 (x % y)) w := fun w => by
  have h3 : y ≠ 0 := by omega
  simp [Op.intDiv, go_sem, h3, Int.tmod_eq_emod_of_nonneg hx]

/-- Block b holds the graph. -/
structure GBox (w : World) (b : Nat) (g : Gr) (B : Option Addr) (d : Nat) : Prop where
  blk : Blk w b 24 #[.int .i64 g.n, .slice B g.as.length d]
  cap : g.as.length ≤ d
  prs : Prs w w.heap.size B g.as

section
variable {w w' : World} {b : Nat} {g : Gr} {B : Option Addr} {d : Nat}
theorem GBox.step (h : GBox w b g B d) (hb : Below w.heap.size w w') : GBox w' b g B d := ⟨h.blk.below hb h.blk.lt, h.cap, h.prs.after hb⟩
theorem GBox.alloc (h : GBox w b g B d) (o : Obj) : GBox (w.alloc o) b g B d := h.step ((Below.refl _ _).alloc (Nat.le_refl _) o)
theorem GBox.c0 (h : GBox w b g B d) : w.cell? ⟨b, 0, none⟩ = some (.int .i64 g.n) := h.blk.cell 0
theorem GBox.c1 (h : GBox w b g B d) : w.cell? ⟨b, 1, none⟩ = some (.slice B g.as.length d) := h.blk.cell 1
theorem GBox.new (hc : g.as.length ≤ d) (hp : Prs w w.heap.size B g.as) : GBox (w.alloc (.cells #[.int .i64 g.n, .slice B g.as.length d] 24)) w.heap.size g B d :=
  ⟨Blk.new _ _ _, hc, hp.after ((Below.refl _ _).alloc (Nat.le_refl _) _)⟩
theorem below_alloc {v : World} (h : Below v.heap.size v w) (o : Obj) : Below v.heap.size v (w.alloc o) := below2 h h.size ((Below.refl _ _).alloc (Nat.le_refl _) o)
end
end Go.Proofs.Ytbdhkagcbncefaa
