/- Layer 15: a law's own clauses, one append after another. -/
import Derived.Test.YtbkmgblijncjhaaG8
set_option linter.unusedVariables false
set_option linter.unusedSimpArgs false
namespace Go.Proofs.Ytbkmgblijncjhaa
open Go.RowKit Go.Maps

/-- What stands behind so many appends. -/
structure XSt (w0 wr : World) (p : Nat) (V : Int) (cs : List (List Int)) (A : Option Addr) (c : Nat) (zs : Ks) : Prop where
  low : Low w0 wr
  pb : w0.heap.size ≤ p
  box : BlkF wr p 24 #[.int .i64 V, .slice A zs.length c]
  kb : KB wr w0.heap.size A c zs
  eq : zs.map (·.2.2) = cs
section
variable {w0 wr wr' : World} {p : Nat} {V : Int} {cs : List (List Int)} {A : Option Addr} {c : Nat} {zs : Ks}
theorem XSt.step (h : XSt w0 wr p V cs A c zs) (hb : Below wr.heap.size wr wr') : XSt w0 wr' p V cs A c zs :=
  ⟨h.low.step hb, h.pb, h.box.step hb, h.kb.step hb, h.eq⟩
theorem XSt.aside (h : XSt w0 wr p V cs A c zs) {base sz n : Nat} {v : Value} {xs : List Value} (ho : wr.ownsRow base 3 sz v n xs) (hb : w0.heap.size ≤ base) (hz : ∀ z ∈ zs, z.1 < base) (hg : wr.grownBy wr' v.ownBlock) : XSt w0 wr' p V cs A c zs :=
  ⟨h.low.grown hg (fun k hk => Nat.le_trans hb (own_block ho k hk)), h.pb, ⟨h.box.p.by_ hg (own_ne ho h.box.p (by decide))⟩, h.kb.aside ho (fun z hz' k hk => by have h1 := hz z hz'; have h2 := own_block ho k hk; omega) hg, h.eq⟩
theorem XSt.len (h : XSt w0 wr p V cs A c zs) : zs.length = cs.length := by rw [← h.eq, List.length_map]
theorem XSt.put (h : XSt w0 wr p V cs A c zs) {w5 : World} {A' : Option Addr} {c' : Nat} {ys : Ks} (hg : wr.grownBy w5 (Value.slice A zs.length c).ownBlock)
    (ho : w5.ownsRow w0.heap.size 25 1 (.slice A' (zs ++ ys).length c') (zs ++ ys).length ((zs ++ ys).map slotK)) (hy : ∀ y ∈ ys, y.2.2.length ≤ y.2.1 ∧ HasI wr y.1 y.2.2) :
    XSt w0 (w5.setCell ⟨p, 1, none⟩ (.slice A' (zs ++ ys).length c')) p V (cs ++ ys.map (·.2.2)) A' c' (zs ++ ys) := by
  have hB5 : Blk w5 p 24 #[.int .i64 V, .slice A zs.length c] := h.box.p.by_ hg (own_ne h.kb.own h.box.p (by decide))
  refine ⟨⟨(h.low.b.grown hg h.low.size (own_block h.kb.own)).setCell (p := ⟨p, 1, none⟩) h.pb _⟩, h.pb, ⟨hB5.set_ 1 _⟩, (h.kb.grow hg ho hy).set hB5 (by decide) (by decide) 1 _, ?_⟩
  rw [List.map_append, h.eq]
theorem XSt.cls (h : XSt w0 wr p V cs A c zs) : Cls wr wr.heap.size A cs := by
  rw [← h.eq]
  exact h.kb.cls
theorem XSt.new (w : World) (V : Int) : XSt w (w.alloc (.cells #[.int .i64 V, .slice none 0 0] 24)) w.heap.size V [] none 0 [] :=
  ⟨(Low.refl w).step (stepA w _), Nat.le_refl _, BlkF.new w _ _, KB.nil _ _, rfl⟩
end
end Go.Proofs.Ytbkmgblijncjhaa
