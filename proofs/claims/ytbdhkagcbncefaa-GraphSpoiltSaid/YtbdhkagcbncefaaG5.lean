/- A row of the call's own: its block, a store into it. Copies of literals, what stands below them: plain data. Layer 3, the document's: how many gates stand below a literal. Layer 3: which inputs and how many gates stand below a literal. Layer 3: what holds within Copy: its boxes, its closures. As XSeq, with two facts on memory: S for most operations, R for a few; an operation may end R while those that need S are still to come. Layer 3: Copy. -/
import Derived.Test.YtbdhkagcbncefaaG3
import Derived.Test.YtbdhkagcbncefaaG4
import Derived.Laws.EntriesVeiled
import Derived.Laws.CopyOwn
set_option linter.unusedVariables false
set_option linter.unusedSimpArgs false
namespace Go.Proofs.Ytbdhkagcbncefaa
open Go.RowKit Go.Maps

theorem Vals.set_ {w : World} {B g K : Nat} {xs : List Value} {u : Value} (h : Vals w B (some ⟨g, 0, none⟩) xs) (hK : K < xs.length) : Vals (w.setCell ⟨g, K, none⟩ u) B (some ⟨g, 0, none⟩) (xs.set K u) := fun i x hi => by
  by_cases e : i = K
  · subst e
    rw [List.getElem?_set_self hK] at hi
    cases hi
    obtain ⟨b, o, e1, hb, hc⟩ := h i _ (List.getElem?_eq_getElem hK)
    cases e1
    refine ⟨g, 0, rfl, hb, ?_⟩
    rw [Nat.zero_add] at hc ⊢
    exact World.cell?_setCell_same _ _ _ hc
  · rw [List.getElem?_set_ne (fun e' => e e'.symm)] at hi
    obtain ⟨b, o, e1, hb, hc⟩ := h i _ hi
    cases e1
    refine ⟨g, 0, rfl, hb, ?_⟩
    rw [World.cell?_setCell_other _ _ _ _ (by first | (simp; done) | (simp; omega))]
    exact hc
theorem own_block_of {w : World} {base : Nat} {e : TypeId} {n : Nat} {v : Value} {xs : List Value} (h : w.ownsRow base e 1 v n xs) (hn : 0 < n) : ∃ g c, v = .slice (some ⟨g, 0, none⟩) n c ∧ base ≤ g ∧ n ≤ c ∧ ∀ i, w.frozen? ⟨g, i, none⟩ = false := by
  rcases h.2 with ⟨_, h0⟩ | ⟨g, cap, cur, hv, hg, hh, hnc, hcm, hcs, htk⟩
  · omega
  · exact ⟨g, cap, hv, hg, hnc, fun i => Blk.frozen (t := e) (cs := cur) hh i⟩
theorem own_read {w : World} {base : Nat} {e : TypeId} {n : Nat} {v : Value} {xs : List Value} (h : w.ownsRow base e 1 v n xs) (hn : 0 < n) : ∃ g c, v = .slice (some ⟨g, 0, none⟩) n c ∧ base ≤ g ∧ n ≤ c ∧ (∀ i, w.frozen? ⟨g, i, none⟩ = false) ∧ Vals w w.heap.size (some ⟨g, 0, none⟩) xs := by
  obtain ⟨g, c, hv, h1, h2, h3⟩ := own_block_of h hn
  rw [hv] at h
  exact ⟨g, c, hv, h1, h2, h3, Vals.of_own h⟩
theorem Vals.cell0 {w : World} {B g k : Nat} {xs : List Value} {u : Value} (h : Vals w B (some ⟨g, 0, none⟩) xs) (hk : xs[k]? = some u) : w.cell? ⟨g, k, none⟩ = some u := by
  obtain ⟨b, o, e, _, hc⟩ := h k u hk
  cases e
  rw [Nat.zero_add] at hc
  exact hc
theorem grown_nil {w w' : World} {n c : Nat} (h : w.grownBy w' (Value.slice none n c).ownBlock) : Below w.heap.size w w' := (Below.refl _ _).grown h (Nat.le_refl _) (fun k hk => by simp [Value.ownBlock] at hk)

theorem bools_set1 (m : List Bool) (K : Nat) (b : Bool) : bools (m.set K b) = (bools m).set K (.bool b) := by simp [bools, List.map_set]

/-- A store into a row of the call's own. -/
theorem own_put {w : World} {base : Nat} {e : TypeId} {n c K : Nat} {Y : Option Addr} {xs : List Value} (h : w.ownsRow base e 1 (.slice Y n c) n xs) (hK : K < n) :
    ∃ g, Y = some ⟨g, 0, none⟩ ∧ base ≤ g ∧ (∀ i, w.frozen? ⟨g, i, none⟩ = false) ∧ (∃ u0, xs[K]? = some u0 ∧ w.cell? ⟨g, K, none⟩ = some u0) ∧ ∀ u, (w.setCell ⟨g, K, none⟩ u).ownsRow base e 1 (.slice Y n c) n (xs.set K u) := by
  have hlen := h.1
  rw [Nat.mul_one] at hlen
  have hV := Vals.of_own h
  rcases h.2 with ⟨_, h0⟩ | ⟨g, cap, cur, hv, hg, hh, hnc, hcm, hcs, htk⟩
  · omega
  · injection hv with hA _ hc
    subst hA hc
    have hB : Blk w g e cur := hh
    refine ⟨g, rfl, hg, fun i => hB.frozen i, ?_, fun u => ?_⟩
    · obtain ⟨b, o, e', _, hc⟩ := hV K _ (List.getElem?_eq_getElem (by omega))
      cases e'
      rw [Nat.zero_add] at hc
      exact ⟨_, List.getElem?_eq_getElem (by omega), hc⟩
    · refine ⟨by rw [List.length_set]; omega, .inr ⟨g, c, cur.setIfInBounds K u, rfl, hg, hB.set_ K u, hnc, hcm, by simpa using hcs, ?_⟩⟩
      rw [← htk]
      simp [List.take_set]
end Go.Proofs.Ytbdhkagcbncefaa

set_option linter.unusedVariables false
set_option linter.unusedSimpArgs false
namespace Go.Proofs.Ytbdhkagcbncefaa

/-- A literal, turned where the other number is odd. -/
def turnP (x l : Int) : Int := if l % 2 = 1 then flip x else x
def litI (is : List Int) (l : Int) : Int := turnP (is[(l / 2).toNat]?.getD 0) l

/-- A copy behind so many gates: the graph, the literals, the error. -/
def copyAt (to fr : Gr) (l : Int) (by_ : List Int) : Nat → Gr × List Int × Int
  | 0 => (to, 0 :: by_, 0)
  | k + 1 =>
    let s := copyAt to fr l by_ k
    match fr.as[k]? with
    | none => s
    | some p =>
      if s.2.2 = 0 then
        if (belowG fr l)[(fr.n + 1 + k).toNat]?.getD false then
          let r := andG s.1 (litI s.2.1 p.1) (litI s.2.1 p.2)
          if r.2.2 = 0 then (r.1, s.2.1 ++ [r.2.1], 0) else (noG, [], r.2.2)
        else (s.1, s.2.1 ++ [0], 0)
      else s

def copyOk (to fr : Gr) (l : Int) (by_ : List Int) : Bool := rightB to && (rightB fr && (litB fr l && (decide ((by_.length : Int) = fr.n) && by_.all (litB to))))
def copyG (to fr : Gr) (l : Int) (by_ : List Int) : Gr × Int × Int :=
  if copyOk to fr l by_ then
    let s := copyAt to fr l by_ fr.as.length
    if s.2.2 = 0 then (s.1, litI s.2.1 l, 0) else (noG, 0, s.2.2)
  else (noG, 0, 1)

/-- Inputs themselves, but for one. -/
def fixBy (n : Nat) (input : Int) (v : Bool) : List Int := (List.range n).map fun (i : Nat) => if (i : Int) + 1 = input then (if v then 1 else 0) else 2 * ((i : Int) + 1)
def fixG (g : Gr) (l input : Int) (v : Bool) : Gr × Int × Int :=
  if input < 1 ∨ g.n < input ∨ 2000 < g.n then (noG, 0, 1) else copyG g g l (fixBy g.n.toNat input v)

/-- The inputs below a literal, of so many. -/
def suppAt (g : Gr) (l : Int) : Nat → List Int
  | 0 => []
  | k + 1 => if (belowG g l)[k + 1]?.getD false then suppAt g l k ++ [(k : Int) + 1] else suppAt g l k
def suppG (g : Gr) (l : Int) : List Int := if rightB g && litB g l then suppAt g l g.n.toNat else []

/-! ### Copies -/
theorem turnP_zero (x : Int) {l : Int} (h : l % 2 = 0) : turnP x l = x := by unfold turnP; rw [if_neg (by omega)]
theorem turnP_lit {g : Gr} {x : Int} (l : Int) (h : litB g x = true) : litB g (turnP x l) = true := by
  unfold turnP
  split
  · exact flip_lit h
  · exact h
theorem turnP_litV {g : Gr} {xs : List Bool} {x l : Int} (h : 0 ≤ x) : litV g xs (turnP x l) = (litV g xs x != decide (l % 2 = 1)) := by
  unfold turnP
  split
  · rename_i e
    rw [litV_flip h, decide_eq_true e]
    simp
  · rename_i e
    rw [decide_eq_false e]
    simp

/-- Copies that are right so far. -/
structure CInv (to fr : Gr) (k : Nat) (s : Gr × List Int × Int) : Prop where
  right : rightB s.1 = true
  ext : Ext to s.1
  len : s.2.1.length = fr.n.toNat + 1 + k
  lit : ∀ x ∈ s.2.1, litB s.1 x = true
  more : s.1.as.length ≤ to.as.length + k

theorem copyOk_iff {to fr : Gr} {l : Int} {by_ : List Int} : copyOk to fr l by_ = true ↔ rightB to = true ∧ rightB fr = true ∧ litB fr l = true ∧ (by_.length : Int) = fr.n ∧ ∀ x ∈ by_, litB to x = true := by
  unfold copyOk
  simp only [Bool.and_eq_true, decide_eq_true_eq, List.all_eq_true]

theorem zero_lit {g : Gr} (h : rightB g = true) : litB g 0 = true := by
  have := right_vars h
  exact lit_of h (by omega) (by omega)

theorem litI_lit {g : Gr} {is : List Int} {l : Int} (hr : rightB g = true) (h : ∀ x ∈ is, litB g x = true) : litB g (litI is l) = true := by
  unfold litI
  refine turnP_lit l ?_
  cases e : is[(l / 2).toNat]? with
  | none => exact zero_lit hr
  | some x => exact h x (List.mem_of_getElem? e)

theorem copyAt_inv {to fr : Gr} {l : Int} {by_ : List Int} (h : copyOk to fr l by_ = true) : ∀ k, k ≤ fr.as.length → (copyAt to fr l by_ k).2.2 = 0 → CInv to fr k (copyAt to fr l by_ k)
  | 0, _, _ => by
    obtain ⟨h1, h2, h3, h4, h5⟩ := copyOk_iff.1 h
    refine ⟨h1, Ext.refl _, ?_, ?_, Nat.le_refl _⟩
    · simp only [copyAt, List.length_cons]
      omega
    · intro x hx
      rcases List.mem_cons.1 hx with rfl | hx
      · exact zero_lit h1
      · exact h5 x hx
  | k + 1, hk, he => by
    have hp := List.getElem?_eq_getElem (by omega : k < fr.as.length)
    rw [copyAt, hp] at he ⊢
    simp only at he ⊢
    by_cases e0 : (copyAt to fr l by_ k).2.2 = 0
    · have ih := copyAt_inv h k (by omega) e0
      rw [if_pos e0] at he ⊢
      split at he
      · rename_i hm
        rw [if_pos hm]
        split at he
        · rename_i e1
          rw [if_pos e1]
          have hg := andG_grows e1
          obtain ⟨qs, q1, q2⟩ := hg.more
          refine ⟨hg.right, ih.ext.trans hg.ext, ?_, ?_, ?_⟩
          · simp only [List.length_append, List.length_singleton, ih.len]
            omega
          · intro x hx
            rcases List.mem_append.1 hx with hx | hx
            · exact hg.ext.lit (ih.lit x hx)
            · simp only [List.mem_cons, List.not_mem_nil, or_false] at hx
              subst hx
              exact hg.lit
          · simp only [q1, List.length_append]
            have := ih.more
            omega
        · rename_i e1
          exact absurd he e1
      · rename_i hm
        rw [if_neg hm]
        refine ⟨ih.right, ih.ext, ?_, ?_, ?_⟩
        · simp only [List.length_append, List.length_singleton, ih.len]
          omega
        · intro x hx
          rcases List.mem_append.1 hx with hx | hx
          · exact ih.lit x hx
          · simp only [List.mem_cons, List.not_mem_nil, or_false] at hx
            subst hx
            exact zero_lit ih.right
        · have := ih.more
          simp only
          omega
    · rw [if_neg e0] at he
      exact absurd he e0

/-- There is room for a copy. -/
theorem copyAt_room {to fr : Gr} {l : Int} {by_ : List Int} (h : copyOk to fr l by_ = true) (hv : to.vars + fr.as.length ≤ 2000) : ∀ k, k ≤ fr.as.length → (copyAt to fr l by_ k).2.2 = 0
  | 0, _ => rfl
  | k + 1, hk => by
    have hp := List.getElem?_eq_getElem (by omega : k < fr.as.length)
    have e0 := copyAt_room h hv k (by omega)
    have ih := copyAt_inv h k (by omega) e0
    rw [copyAt, hp]
    simp only
    rw [if_pos e0]
    split
    · have e1 : (andG (copyAt to fr l by_ k).1 (litI (copyAt to fr l by_ k).2.1 (fr.as[k]).1) (litI (copyAt to fr l by_ k).2.1 (fr.as[k]).2)).2.2 = 0 := by
        refine andG_ok_of ih.right (litI_lit ih.right ih.lit) (litI_lit ih.right ih.lit) ?_
        have h1 := ih.more
        have h2 := ih.ext.1
        unfold Gr.vars at hv ⊢
        omega
      rw [if_pos e1]
    · rfl

/-! ### What stands below, as a relation -/
/-- Variable u stands under variable v, or is it. -/
inductive Und (g : Gr) : Int → Int → Prop
  | self (v : Int) : Und g v v
  | left {j : Nat} {p : Pr} {u : Int} : g.as[j]? = some p → Und g (p.1 / 2) u → Und g (g.n + 1 + j) u
  | right {j : Nat} {p : Pr} {u : Int} : g.as[j]? = some p → Und g (p.2 / 2) u → Und g (g.n + 1 + j) u

theorem Und.trans {g : Gr} {a b c : Int} (h : Und g a b) (h' : Und g b c) : Und g a c := by
  induction h with
  | self v => exact h'
  | left hp _ ih => exact .left hp (ih h')
  | right hp _ ih => exact .right hp (ih h')

theorem gate_less {g : Gr} (hr : rightB g = true) {j : Nat} {p : Pr} (h : g.as[j]? = some p) : 2 ≤ p.2 ∧ p.2 / 2 < p.1 / 2 ∧ p.1 / 2 < g.n + 1 + j := by
  obtain ⟨_, hall, _⟩ := (right_iff g).1 hr
  exact (of_decide_eq_true (hall j p h) : 2 ≤ p.2 ∧ p.2 / 2 < p.1 / 2 ∧ p.1 / 2 < g.n + 1 + j)

theorem mark_mono {n : Int} {m : List Bool} {i : Nat} {p : Pr} {u : Nat} (h : m[u]? = some true) : (mark n m i p)[u]? = some true := by
  have hu := (List.getElem?_eq_some_iff.1 h).1
  have hset : ∀ (m : List Bool) (a : Nat), m[u]? = some true → (m.set a true)[u]? = some true := fun m a h => by
    have hu := (List.getElem?_eq_some_iff.1 h).1
    by_cases e : a = u
    · subst e
      rw [List.getElem?_set_self hu]
    · rw [List.getElem?_set_ne e, h]
  unfold mark
  split
  · exact hset _ _ (hset _ _ h)
  · exact h

theorem marksAt_mono {g : Gr} {m0 : List Bool} {k u : Nat} (h : (marksAt g m0 k)[u]? = some true) : ∀ j, (marksAt g m0 (k + j))[u]? = some true
  | 0 => h
  | j + 1 => by
    have ih := marksAt_mono h j
    show (marksAt g m0 (k + j + 1))[u]? = _
    rw [marksAt]
    split
    · exact mark_mono ih
    · exact ih

/-- What is marked stands below. -/
theorem marksAt_und {g : Gr} (hr : rightB g = true) {l : Int} (hl : litB g l = true) : ∀ k, k ≤ g.as.length → ∀ u : Nat, (marksAt g (mark0 g l) k)[u]? = some true → Und g (l / 2) u
  | 0, _, u, h => by
    have l0 := litB_ge hl
    unfold marksAt mark0 at h
    by_cases e : (l / 2).toNat = u
    · have e' : l / 2 = (u : Int) := by omega
      rw [e']
      exact .self _
    · rw [List.getElem?_set_ne e, List.getElem?_replicate] at h
      split at h <;> cases h
  | k + 1, hk, u, h => by
    have ih := marksAt_und hr hl k (by omega)
    have hp := List.getElem?_eq_getElem (by omega : g.as.length - 1 - k < g.as.length)
    obtain ⟨n0, _, _, _⟩ := (size_iff g).1 (right_size hr)
    obtain ⟨m1, m2, m3⟩ := gate_less hr hp
    rw [marksAt_succ rfl hp] at h
    unfold mark at h
    split at h
    · rename_i hm
      have hm' : (marksAt g (mark0 g l) k)[(g.n + 1 + (g.as.length - 1 - k : Nat)).toNat]? = some true := by
        cases e : (marksAt g (mark0 g l) k)[(g.n + 1 + (g.as.length - 1 - k : Nat)).toNat]? with
        | none => rw [e] at hm; cases hm
        | some b => rw [e] at hm; cases b <;> simp_all
      have h0 := ih _ hm'
      rw [show (((g.n + 1 + (g.as.length - 1 - k : Nat)).toNat : Nat) : Int) = g.n + 1 + (g.as.length - 1 - k : Nat) from by omega] at h0
      by_cases e2 : ((g.as[g.as.length - 1 - k]).2 / 2).toNat = u
      · have e' : (g.as[g.as.length - 1 - k]).2 / 2 = (u : Int) := by omega
        exact h0.trans (.right hp (by rw [e']; exact .self _))
      · rw [List.getElem?_set_ne e2] at h
        by_cases e1 : ((g.as[g.as.length - 1 - k]).1 / 2).toNat = u
        · have e' : (g.as[g.as.length - 1 - k]).1 / 2 = (u : Int) := by omega
          exact h0.trans (.left hp (by rw [e']; exact .self _))
        · rw [List.getElem?_set_ne e1] at h
          exact ih u h
    · exact ih u h

/-- A variable that no gate to come marks stays as it is. -/
theorem marksAt_keep {g : Gr} (hr : rightB g = true) {m0 : List Bool} {v : Nat} : ∀ k d, k + d ≤ g.as.length → g.n + 1 + ((g.as.length - k : Nat) : Int) ≤ v + 1 → (marksAt g m0 (k + d))[v]? = (marksAt g m0 k)[v]?
  | k, 0, _, _ => rfl
  | k, d + 1, hk, hv => by
    have ih := marksAt_keep hr (m0 := m0) (v := v) k d (by omega) hv
    have hp := List.getElem?_eq_getElem (by omega : g.as.length - 1 - (k + d) < g.as.length)
    obtain ⟨m1, m2, m3⟩ := gate_less hr hp
    show (marksAt g m0 (k + d + 1))[v]? = _
    rw [marksAt_succ rfl hp, ← ih]
    unfold mark
    split
    · rw [List.getElem?_set_ne (by omega), List.getElem?_set_ne (by omega)]
    · rfl

/-- A gate that is marked has both its parts marked. -/
theorem below_gate {g : Gr} (hr : rightB g = true) (l : Int) {j : Nat} {p : Pr} (h : g.as[j]? = some p) (hm : (belowG g l)[(g.n + 1 + j).toNat]? = some true) : (belowG g l)[(p.1 / 2).toNat]? = some true ∧ (belowG g l)[(p.2 / 2).toNat]? = some true := by
  have hj := (List.getElem?_eq_some_iff.1 h).1
  obtain ⟨n0, _, _, _⟩ := (size_iff g).1 (right_size hr)
  obtain ⟨m1, m2, m3⟩ := gate_less hr h
  have e : (g.as.length - 1 - j) + (j + 1) = g.as.length := by omega
  have hk := marksAt_keep hr (m0 := mark0 g l) (v := (g.n + 1 + j).toNat) (g.as.length - 1 - j) (j + 1) (by omega) (by omega)
  rw [e] at hk
  have hm' : (marksAt g (mark0 g l) (g.as.length - 1 - j))[(g.n + 1 + j).toNat]? = some true := by rw [← hk]; exact hm
  have hs := marksAt_succ (m0 := mark0 g l) (k := g.as.length - 1 - j) (j := j) (by omega) h
  rw [mark_yes hm'] at hs
  have hlen : (marksAt g (mark0 g l) (g.as.length - 1 - j)).length = g.vars.toNat := by rw [marksAt_length, mark0_length]
  have e2 : (g.as.length - 1 - j + 1) + j = g.as.length := by omega
  have hvv : g.vars.toNat = (g.n + 1 + (g.as.length : Int)).toNat := rfl
  have h1 : (marksAt g (mark0 g l) (g.as.length - 1 - j + 1))[(p.1 / 2).toNat]? = some true := by
    rw [hs, List.getElem?_set_ne (by omega), List.getElem?_set_self (by rw [hlen]; omega)]
  have h2 : (marksAt g (mark0 g l) (g.as.length - 1 - j + 1))[(p.2 / 2).toNat]? = some true := by
    rw [hs, List.getElem?_set_self (by rw [List.length_set, hlen]; omega)]
  have a1 := marksAt_mono h1 j
  have a2 := marksAt_mono h2 j
  rw [e2] at a1 a2
  exact ⟨a1, a2⟩

theorem below_self {g : Gr} {l : Int} (hl : litB g l = true) : (belowG g l)[(l / 2).toNat]? = some true := by
  obtain ⟨n0, _, l0, l1⟩ := (litB_iff g l).1 hl
  have h0 : (marksAt g (mark0 g l) 0)[(l / 2).toNat]? = some true := by
    unfold marksAt mark0
    rw [List.getElem?_set_self (by rw [List.length_replicate]; unfold Gr.vars; omega)]
  have := marksAt_mono h0 g.as.length
  rw [Nat.zero_add] at this
  exact this

theorem und_closed {g : Gr} (hr : rightB g = true) (l : Int) {v u : Int} (h : Und g v u) (hm : (belowG g l)[v.toNat]? = some true) : (belowG g l)[u.toNat]? = some true := by
  induction h with
  | self v => exact hm
  | left hp _ ih => exact ih (below_gate hr l hp hm).1
  | right hp _ ih => exact ih (below_gate hr l hp hm).2

/-- Marked is what stands below. -/
theorem below_iff {g : Gr} (hr : rightB g = true) {l : Int} (hl : litB g l = true) (u : Nat) : (belowG g l)[u]? = some true ↔ Und g (l / 2) u := by
  constructor
  · exact marksAt_und hr hl _ (Nat.le_refl _) u
  · intro h
    have := und_closed hr l h (below_self hl)
    rwa [Int.toNat_natCast] at this

theorem und_low {g : Gr} (hr : rightB g = true) {v u : Int} (h : Und g v u) : u ≤ v := by
  induction h with
  | self v => exact Int.le_refl _
  | left hp _ ih => have := gate_less hr hp; omega
  | right hp _ ih => have := gate_less hr hp; omega

theorem und_input {g : Gr} (hr : rightB g = true) {v u : Int} (h : Und g v u) (hv : v ≤ g.n) : u = v := by
  cases h with
  | self v => rfl
  | left hp _ => omega
  | right hp _ => omega

/-- Under an old variable of a graph that goes on stands what stood there. -/
theorem und_ext {g h : Gr} (hx : Ext g h) (hr : rightB g = true) {v u : Int} (hu : Und h v u) : v < g.vars → Und g v u := by
  obtain ⟨hn, qs, hq⟩ := hx
  induction hu with
  | self v => exact fun _ => .self _
  | @left j p u hp _ ih =>
    intro hv
    have hj : j < g.as.length := by unfold Gr.vars at hv; omega
    rw [hq, List.getElem?_append_left hj] at hp
    have := gate_less hr hp
    have hh := ih (by unfold Gr.vars at hv ⊢; omega)
    rw [hn]
    exact .left hp hh
  | @right j p u hp _ ih =>
    intro hv
    have hj : j < g.as.length := by unfold Gr.vars at hv; omega
    rw [hq, List.getElem?_append_left hj] at hp
    have := gate_less hr hp
    have hh := ih (by unfold Gr.vars at hv ⊢; omega)
    rw [hn]
    exact .right hp hh

/-- What stands under what And makes: itself, or something under what it is made of. -/
theorem andHi_und {g : Gr} {a b : Int} (hr : rightB g = true) (ha : litB g a = true) (hb : litB g b = true) (hab : b ≤ a) (he : (andHi g a b).2.2 = 0) {u : Int} (hu : Und (andHi g a b).1 ((andHi g a b).2.1 / 2) u) (h1 : 1 ≤ u) (h2 : u ≤ g.n) : Und g (a / 2) u ∨ Und g (b / 2) u := by
  have ha' := lit_lt ha
  have hb' := lit_lt hb
  have hin : ∀ {h : Gr} {j : Nat} {p : Pr}, Ext g h → rightB h = true → h.as[j]? = some p → p = (a, b) → Und h (h.n + 1 + j) u → Und g (a / 2) u ∨ Und g (b / 2) u := by
    intro h j p hx hrh hp hpe hu
    have hn := hx.1
    generalize e : h.n + 1 + (j : Int) = v at hu
    cases hu with
    | self v => omega
    | @left j' p' u hp' hu' =>
      obtain rfl : j' = j := by omega
      rw [hp] at hp'
      cases hp'
      rw [hpe] at hu'
      exact .inl (und_ext hx hr hu' (by omega))
    | @right j' p' u hp' hu' =>
      obtain rfl : j' = j := by omega
      rw [hp] at hp'
      cases hp'
      rw [hpe] at hu'
      exact .inr (und_ext hx hr hu' (by omega))
  rcases andHi_cases g a b with ⟨ht, h⟩ | ⟨ht, h⟩ | ⟨ht, i, hp, h⟩ | ⟨ht, hp, hv, h⟩ | ⟨ht, hp, hv, h⟩
  · rw [h] at hu
    have := und_low hr hu
    simp only at this
    omega
  · rw [h] at hu
    exact .inl hu
  · rw [h] at hu
    simp only at hu
    rw [show 2 * (g.n + 1 + (i : Int)) / 2 = g.n + 1 + i from by omega] at hu
    exact hin (Ext.refl g) hr (placeOf_some hp) rfl hu
  · rw [h] at he
    cases he
  · rw [h] at hu
    simp only at hu
    rw [show 2 * g.vars / 2 = g.n + 1 + (g.as.length : Int) from by unfold Gr.vars; omega] at hu
    have hg := andHi_grows hr ha hb hab he
    rw [h] at hg
    exact hin (h := ⟨g.n, g.as ++ [(a, b)]⟩) (j := g.as.length) (p := (a, b)) ⟨rfl, [(a, b)], rfl⟩ hg.right (by simp) rfl hu

theorem andG_und {g : Gr} {a b : Int} (he : (andG g a b).2.2 = 0) {u : Int} (hu : Und (andG g a b).1 ((andG g a b).2.1 / 2) u) (h1 : 1 ≤ u) (h2 : u ≤ g.n) : Und g (a / 2) u ∨ Und g (b / 2) u := by
  obtain ⟨hr, ha, hb, h⟩ := andG_zero he
  obtain ⟨k1, k2, k3⟩ := max_min ha hb
  rw [h] at he hu
  have := andHi_und hr k1 k2 k3 he hu h1 h2
  rcases Int.le_total a b with hab | hab
  · rw [Int.max_eq_right hab, Int.min_eq_left hab] at this
    exact this.symm
  · rw [Int.max_eq_left hab, Int.min_eq_right hab] at this
    exact this

theorem turnP_half {x l : Int} : turnP x l / 2 = x / 2 := by
  unfold turnP
  split
  · exact flip_half
  · rfl

/-- An input that stands below a copy stands below what an input below the literal is copied to. -/
theorem copyAt_und {to fr : Gr} {l : Int} {by_ : List Int} (h : copyOk to fr l by_ = true) {u : Int} (h1 : 1 ≤ u) (h2 : u ≤ to.n) : ∀ k, k ≤ fr.as.length → (copyAt to fr l by_ k).2.2 = 0 →
    ∀ (v : Nat) x, (copyAt to fr l by_ k).2.1[v]? = some x → Und (copyAt to fr l by_ k).1 (x / 2) u → ∃ (i : Nat) (y : Int), by_[i]? = some y ∧ Und fr v ((i : Int) + 1) ∧ Und to (y / 2) u
  | 0, _, _, v, x, hv, hu => by
    obtain ⟨r1, r2, r3, r4, r5⟩ := copyOk_iff.1 h
    match v, hv with
    | 0, hv =>
      simp only [copyAt, List.getElem?_cons_zero, Option.some.injEq] at hv
      subst hv
      have := und_low r1 hu
      omega
    | v + 1, hv =>
      simp only [copyAt, List.getElem?_cons_succ] at hv
      exact ⟨v, x, hv, by rw [Int.natCast_succ]; exact .self _, hu⟩
  | k + 1, hk, he, v, x, hv, hu => by
    obtain ⟨r1, r2, r3, r4, r5⟩ := copyOk_iff.1 h
    have hp := List.getElem?_eq_getElem (by omega : k < fr.as.length)
    obtain ⟨m1, m2, m3⟩ := gate_less r2 hp
    have n0 := (right_vars r2).1
    rw [copyAt, hp] at he hv hu
    simp only at he hv hu
    by_cases e0 : (copyAt to fr l by_ k).2.2 = 0
    · have ih := copyAt_und h h1 h2 k (by omega) e0
      have inv := copyAt_inv h k (by omega) e0
      have hlen := inv.len
      have hget : ∀ (q : Int), 0 ≤ q → q / 2 < fr.n + 1 + k → ∃ y, (copyAt to fr l by_ k).2.1[(q / 2).toNat]? = some y ∧ litI (copyAt to fr l by_ k).2.1 q / 2 = y / 2 := fun q q0 q1 => by
        have hq : (q / 2).toNat < (copyAt to fr l by_ k).2.1.length := by omega
        refine ⟨_, List.getElem?_eq_getElem hq, ?_⟩
        unfold litI
        rw [List.getElem?_eq_getElem hq, Option.getD_some, turnP_half]
      rw [if_pos e0] at he hv hu
      split at he
      · rename_i hm
        rw [if_pos hm] at hv hu
        split at he
        · rename_i e1
          rw [if_pos e1] at hv hu
          have hg := andG_grows e1
          simp only at hv hu
          by_cases hvl : v < (copyAt to fr l by_ k).2.1.length
          · rw [List.getElem?_append_left hvl] at hv
            have hx := lit_lt (inv.lit x (List.mem_of_getElem? hv))
            have hx0 := litB_ge (inv.lit x (List.mem_of_getElem? hv))
            exact ih v x hv (und_ext hg.ext inv.right hu (by omega))
          · have hve : v = (copyAt to fr l by_ k).2.1.length := by
              have := (List.getElem?_eq_some_iff.1 hv).1
              rw [List.length_append, List.length_singleton] at this
              omega
            subst hve
            rw [List.getElem?_concat_length, Option.some.injEq] at hv
            subst hv
            rcases andG_und e1 hu h1 (by rw [inv.ext.1]; exact h2) with hu | hu
            · obtain ⟨y, hy1, hy2⟩ := hget (fr.as[k]).1 (by omega) (by omega)
              rw [hy2] at hu
              obtain ⟨i, z, z1, z2, z3⟩ := ih _ y hy1 hu
              refine ⟨i, z, z1, ?_, z3⟩
              rw [show (((copyAt to fr l by_ k).2.1.length : Nat) : Int) = fr.n + 1 + k from by omega]
              rw [show ((((fr.as[k]).1 / 2).toNat : Nat) : Int) = (fr.as[k]).1 / 2 from by omega] at z2
              exact .left hp z2
            · obtain ⟨y, hy1, hy2⟩ := hget (fr.as[k]).2 (by omega) (by omega)
              rw [hy2] at hu
              obtain ⟨i, z, z1, z2, z3⟩ := ih _ y hy1 hu
              refine ⟨i, z, z1, ?_, z3⟩
              rw [show (((copyAt to fr l by_ k).2.1.length : Nat) : Int) = fr.n + 1 + k from by omega]
              rw [show ((((fr.as[k]).2 / 2).toNat : Nat) : Int) = (fr.as[k]).2 / 2 from by omega] at z2
              exact .right hp z2
        · rename_i e1
          exact absurd he e1
      · rename_i hm
        rw [if_neg hm] at hv hu
        simp only at hv hu
        by_cases hvl : v < (copyAt to fr l by_ k).2.1.length
        · rw [List.getElem?_append_left hvl] at hv
          exact ih v x hv hu
        · have hve : v = (copyAt to fr l by_ k).2.1.length := by
            have := (List.getElem?_eq_some_iff.1 hv).1
            rw [List.length_append, List.length_singleton] at this
            omega
          subst hve
          rw [List.getElem?_concat_length, Option.some.injEq] at hv
          subst hv
          have := und_low inv.right hu
          omega
    · rw [if_neg e0] at he
      exact absurd he e0

/-! ### What copies are -/
/-- The values of the literals that stand for inputs. -/
def byVals (to : Gr) (xs : List Bool) (by_ : List Int) : List Bool := by_.map (litV to xs)

theorem copyAt_sem {to fr : Gr} {l : Int} {by_ : List Int} {xs : List Bool} (h : copyOk to fr l by_ = true) (hn : (xs.length : Int) = to.n) : ∀ k, k ≤ fr.as.length → (copyAt to fr l by_ k).2.2 = 0 →
    ∀ (v : Nat) x, (copyAt to fr l by_ k).2.1[v]? = some x → (fr.n < (v : Int) → (belowG fr l)[v]? = some true) → litV (copyAt to fr l by_ k).1 xs x = litV fr (byVals to xs by_) (2 * (v : Int))
  | 0, _, _, v, x, hv, hm => by
    obtain ⟨r1, r2, r3, r4, r5⟩ := copyOk_iff.1 h
    match v, hv with
    | 0, hv =>
      simp only [copyAt, List.getElem?_cons_zero, Option.some.injEq] at hv
      subst hv
      rw [litV_zero]
      exact (litV_zero _ _).symm
    | v + 1, hv =>
      simp only [copyAt, List.getElem?_cons_succ] at hv ⊢
      have : (byVals to xs by_)[v]? = some (litV to xs x) := by unfold byVals; rw [List.getElem?_map, hv]; rfl
      rw [Int.natCast_succ, litV_input this]
  | k + 1, hk, he, v, x, hv, hm => by
    obtain ⟨r1, r2, r3, r4, r5⟩ := copyOk_iff.1 h
    have hp := List.getElem?_eq_getElem (by omega : k < fr.as.length)
    obtain ⟨m1, m2, m3⟩ := gate_less r2 hp
    have n0 := (right_vars r2).1
    have hbl : ((byVals to xs by_).length : Int) = fr.n := by unfold byVals; rw [List.length_map]; exact r4
    rw [copyAt, hp] at he hv ⊢
    simp only at he hv ⊢
    by_cases e0 : (copyAt to fr l by_ k).2.2 = 0
    · have ih := copyAt_sem h hn k (by omega) e0
      have inv := copyAt_inv h k (by omega) e0
      have hlen := inv.len
      have hns : (xs.length : Int) = (copyAt to fr l by_ k).1.n := hn.trans inv.ext.1.symm
      have hget : ∀ (q : Int), 0 ≤ q → q / 2 < fr.n + 1 + k → (belowG fr l)[(q / 2).toNat]? = some true → litV (copyAt to fr l by_ k).1 xs (litI (copyAt to fr l by_ k).2.1 q) = litV fr (byVals to xs by_) q := fun q q0 q1 hqm => by
        have hq : (q / 2).toNat < (copyAt to fr l by_ k).2.1.length := by omega
        have hgq := List.getElem?_eq_getElem hq
        have hih := ih _ _ hgq (fun _ => hqm)
        unfold litI
        rw [hgq, Option.getD_some, turnP_litV (litB_ge (inv.lit _ (List.mem_of_getElem? hgq))), hih, show (2 * (((q / 2).toNat : Nat) : Int)) = 2 * (q / 2) from by omega]
        by_cases hodd : q % 2 = 1
        · have := litV_even (g := fr) (xs := byVals to xs by_) (l := 2 * (q / 2)) (by omega) (by omega)
          rw [show 2 * (q / 2) + 1 = q from by omega] at this
          rw [this, decide_eq_true hodd]
          simp
        · rw [show 2 * (q / 2) = q from by omega, decide_eq_false hodd]
          simp
      rw [if_pos e0] at he hv ⊢
      split at he
      · rename_i hmk
        rw [if_pos hmk] at hv ⊢
        have hmk' : (belowG fr l)[(fr.n + 1 + (k : Int)).toNat]? = some true := by
          cases e : (belowG fr l)[(fr.n + 1 + (k : Int)).toNat]? with
          | none => rw [e] at hmk; cases hmk
          | some b => rw [e] at hmk; cases b <;> simp_all
        obtain ⟨b1, b2⟩ := below_gate r2 l hp hmk'
        split at he
        · rename_i e1
          rw [if_pos e1] at hv ⊢
          have hg := andG_grows e1
          simp only at hv ⊢
          by_cases hvl : v < (copyAt to fr l by_ k).2.1.length
          · rw [List.getElem?_append_left hvl] at hv
            rw [litV_ext hg.ext hns (inv.lit x (List.mem_of_getElem? hv))]
            exact ih v x hv hm
          · have hve : v = (copyAt to fr l by_ k).2.1.length := by
              have := (List.getElem?_eq_some_iff.1 hv).1
              rw [List.length_append, List.length_singleton] at this
              omega
            subst hve
            rw [List.getElem?_concat_length, Option.some.injEq] at hv
            subst hv
            rw [andG_sem hns e1, hget _ (by omega) (by omega) b1, hget _ (by omega) (by omega) b2, show (((copyAt to fr l by_ k).2.1.length : Nat) : Int) = fr.n + 1 + k from by omega, litV_gate r2 hbl hp]
        · rename_i e1
          exact absurd he e1
      · rename_i hmk
        rw [if_neg hmk] at hv ⊢
        simp only at hv ⊢
        by_cases hvl : v < (copyAt to fr l by_ k).2.1.length
        · rw [List.getElem?_append_left hvl] at hv
          exact ih v x hv hm
        · have hve : v = (copyAt to fr l by_ k).2.1.length := by
            have := (List.getElem?_eq_some_iff.1 hv).1
            rw [List.length_append, List.length_singleton] at this
            omega
          have hmv := hm (by omega)
          rw [show v = (fr.n + 1 + (k : Int)).toNat from by omega] at hmv
          rw [hmv] at hmk
          exact absurd rfl hmk
    · rw [if_neg e0] at he
      exact absurd he e0

/-- What comes of a copy that is made. -/
theorem copyG_made {to fr : Gr} {l : Int} {by_ : List Int} (h : copyOk to fr l by_ = true) (he : (copyG to fr l by_).2.2 = 0) : (copyAt to fr l by_ fr.as.length).2.2 = 0 ∧ copyG to fr l by_ = ((copyAt to fr l by_ fr.as.length).1, litI (copyAt to fr l by_ fr.as.length).2.1 l, 0) := by
  unfold copyG at he ⊢
  rw [if_pos h] at he ⊢
  simp only at he ⊢
  split at he
  · rename_i e
    rw [if_pos e]
    exact ⟨e, rfl⟩
  · rename_i e
    exact absurd he e

theorem copyG_ok {to fr : Gr} {l : Int} {by_ : List Int} (he : (copyG to fr l by_).2.2 = 0) : copyOk to fr l by_ = true := by
  cases h : copyOk to fr l by_ with
  | true => rfl
  | false =>
    unfold copyG at he
    rw [h] at he
    cases he

theorem copyG_room {to fr : Gr} {l : Int} {by_ : List Int} (h : copyOk to fr l by_ = true) (hv : to.vars + fr.as.length ≤ 2000) : (copyG to fr l by_).2.2 = 0 := by
  have := copyAt_room h hv _ (Nat.le_refl _)
  unfold copyG
  rw [if_pos h]
  simp only
  rw [if_pos this]

/-- A copy goes on from the graph it is made in. -/
theorem copyG_grows {to fr : Gr} {l : Int} {by_ : List Int} (he : (copyG to fr l by_).2.2 = 0) : Grows to (copyG to fr l by_).1 (copyG to fr l by_).2.1 fr.as.length := by
  have h := copyG_ok he
  obtain ⟨e, e'⟩ := copyG_made h he
  have inv := copyAt_inv h _ (Nat.le_refl _) e
  obtain ⟨x1, qs, x2⟩ := inv.ext
  rw [e']
  refine ⟨inv.right, litI_lit inv.right inv.lit, x1, qs, x2, ?_⟩
  have := inv.more
  rw [x2, List.length_append] at this
  omega

/-- A copy is what the literal is, by what the others are. -/
theorem copyG_sem {to fr : Gr} {l : Int} {by_ : List Int} {xs : List Bool} (hn : (xs.length : Int) = to.n) (he : (copyG to fr l by_).2.2 = 0) : litV (copyG to fr l by_).1 xs (copyG to fr l by_).2.1 = litV fr (byVals to xs by_) l := by
  have h := copyG_ok he
  obtain ⟨e, e'⟩ := copyG_made h he
  obtain ⟨r1, r2, r3, r4, r5⟩ := copyOk_iff.1 h
  have inv := copyAt_inv h _ (Nat.le_refl _) e
  obtain ⟨n0, _, l0, l1⟩ := (litB_iff fr l).1 r3
  have hlen := inv.len
  have hq : (l / 2).toNat < (copyAt to fr l by_ fr.as.length).2.1.length := by omega
  have hgq := List.getElem?_eq_getElem hq
  have hs := copyAt_sem h hn _ (Nat.le_refl _) e _ _ hgq (fun _ => below_self r3)
  rw [e']
  simp only
  unfold litI
  rw [hgq, Option.getD_some, turnP_litV (litB_ge (inv.lit _ (List.mem_of_getElem? hgq))), hs, show (2 * (((l / 2).toNat : Nat) : Int)) = 2 * (l / 2) from by omega]
  by_cases hodd : l % 2 = 1
  · have := litV_even (g := fr) (xs := byVals to xs by_) (l := 2 * (l / 2)) (by omega) (by omega)
    rw [show 2 * (l / 2) + 1 = l from by omega] at this
    rw [this, decide_eq_true hodd]
    simp
  · rw [show 2 * (l / 2) = l from by omega, decide_eq_false hodd]
    simp

/-- An input that stands below a copy. -/
theorem copyG_und {to fr : Gr} {l : Int} {by_ : List Int} (he : (copyG to fr l by_).2.2 = 0) {u : Int} (h1 : 1 ≤ u) (h2 : u ≤ to.n) (hu : Und (copyG to fr l by_).1 ((copyG to fr l by_).2.1 / 2) u) : ∃ (i : Nat) (y : Int), by_[i]? = some y ∧ Und fr (l / 2) ((i : Int) + 1) ∧ Und to (y / 2) u := by
  have h := copyG_ok he
  obtain ⟨e, e'⟩ := copyG_made h he
  obtain ⟨r1, r2, r3, r4, r5⟩ := copyOk_iff.1 h
  have inv := copyAt_inv h _ (Nat.le_refl _) e
  obtain ⟨n0, _, l0, l1⟩ := (litB_iff fr l).1 r3
  have hlen := inv.len
  have hq : (l / 2).toNat < (copyAt to fr l by_ fr.as.length).2.1.length := by omega
  have hgq := List.getElem?_eq_getElem hq
  rw [e'] at hu
  simp only at hu
  unfold litI at hu
  rw [hgq, Option.getD_some, turnP_half] at hu
  obtain ⟨i, y, y1, y2, y3⟩ := copyAt_und h h1 h2 _ (Nat.le_refl _) e _ _ hgq hu
  rw [show (((l / 2).toNat : Nat) : Int) = l / 2 from by omega] at y2
  exact ⟨i, y, y1, y2, y3⟩

/-- What stands below alone matters. -/
theorem litV_und {g : Gr} (hr : rightB g = true) {xs ys : List Bool} (hx : (xs.length : Int) = g.n) (hy : (ys.length : Int) = g.n) : ∀ (v : Nat), (v : Int) < g.vars → (∀ i : Nat, Und g v ((i : Int) + 1) → xs[i]? = ys[i]?) → litV g xs (2 * (v : Int)) = litV g ys (2 * (v : Int)) := by
  intro v
  induction v using Nat.strongRecOn with
  | _ v ih =>
    intro hv hi
    by_cases h0 : v = 0
    · subst h0
      exact (litV_zero _ _).trans (litV_zero _ _).symm
    · by_cases h1 : (v : Int) ≤ g.n
      · have e := hi (v - 1) (by rw [show (((v - 1 : Nat) : Int) + 1) = v from by omega]; exact .self _)
        have hl : v - 1 < xs.length := by omega
        have hgx := List.getElem?_eq_getElem hl
        rw [hgx] at e
        have a := litV_input (g := g) hgx
        have b := litV_input (g := g) e.symm
        rw [show 2 * (((v - 1 : Nat) : Int) + 1) = 2 * v from by omega] at a b
        rw [a, b]
      · obtain ⟨j, hj⟩ : ∃ j : Nat, (v : Int) = g.n + 1 + j := ⟨((v : Int) - g.n - 1).toNat, by omega⟩
        have hjl : j < g.as.length := by unfold Gr.vars at hv; omega
        have hp := List.getElem?_eq_getElem hjl
        obtain ⟨m1, m2, m3⟩ := gate_less hr hp
        have hlit : ∀ q : Int, 0 ≤ q → q / 2 < v → (∀ i : Nat, Und g (q / 2) ((i : Int) + 1) → xs[i]? = ys[i]?) → litV g xs q = litV g ys q := fun q q0 q1 hq => by
          have := ih (q / 2).toNat (by omega) (by omega) (by rw [show (((q / 2).toNat : Nat) : Int) = q / 2 from by omega]; exact hq)
          rw [show (((q / 2).toNat : Nat) : Int) = q / 2 from by omega] at this
          by_cases hodd : q % 2 = 1
          · have a := litV_even (g := g) (xs := xs) (l := 2 * (q / 2)) (by omega) (by omega)
            have b := litV_even (g := g) (xs := ys) (l := 2 * (q / 2)) (by omega) (by omega)
            rw [show 2 * (q / 2) + 1 = q from by omega] at a b
            rw [a, b, this]
          · rw [show 2 * (q / 2) = q from by omega] at this
            exact this
        rw [hj, litV_gate hr hx hp, litV_gate hr hy hp, hlit _ (by omega) (by omega) (fun i hu => hi i (by rw [hj]; exact .left hp hu)), hlit _ (by omega) (by omega) (fun i hu => hi i (by rw [hj]; exact .right hp hu))]

theorem litV_und_lit {g : Gr} (hr : rightB g = true) {xs ys : List Bool} (hx : (xs.length : Int) = g.n) (hy : (ys.length : Int) = g.n) {l : Int} (hl : litB g l = true) (h : ∀ i : Nat, Und g (l / 2) ((i : Int) + 1) → xs[i]? = ys[i]?) : litV g xs l = litV g ys l := by
  have l0 := litB_ge hl
  have l1 := lit_lt hl
  have := litV_und hr hx hy (l / 2).toNat (by omega) (by rw [show (((l / 2).toNat : Nat) : Int) = l / 2 from by omega]; exact h)
  rw [show (((l / 2).toNat : Nat) : Int) = l / 2 from by omega] at this
  by_cases hodd : l % 2 = 1
  · have a := litV_even (g := g) (xs := xs) (l := 2 * (l / 2)) (by omega) (by omega)
    have b := litV_even (g := g) (xs := ys) (l := 2 * (l / 2)) (by omega) (by omega)
    rw [show 2 * (l / 2) + 1 = l from by omega] at a b
    rw [a, b, this]
  · rw [show 2 * (l / 2) = l from by omega] at this
    exact this

/-! ### Support -/
theorem suppAt_iff {g : Gr} {l : Int} : ∀ (k : Nat) (x : Int), x ∈ suppAt g l k ↔ ∃ i : Nat, i < k ∧ x = (i : Int) + 1 ∧ (belowG g l)[i + 1]? = some true
  | 0, x => by simp [suppAt]
  | k + 1, x => by
    rw [suppAt]
    have ih := suppAt_iff (g := g) (l := l) k x
    split
    · rename_i hm
      have hm' : (belowG g l)[k + 1]? = some true := by
        cases e : (belowG g l)[k + 1]? with
        | none => rw [e] at hm; cases hm
        | some b => rw [e] at hm; cases b <;> simp_all
      rw [List.mem_append, ih]
      constructor
      · rintro (⟨i, h1, h2, h3⟩ | h)
        · exact ⟨i, by omega, h2, h3⟩
        · simp only [List.mem_cons, List.not_mem_nil, or_false] at h
          exact ⟨k, by omega, h, hm'⟩
      · rintro ⟨i, h1, h2, h3⟩
        by_cases e : i = k
        · subst e
          exact .inr (by simp [h2])
        · exact .inl ⟨i, by omega, h2, h3⟩
    · rename_i hm
      rw [ih]
      constructor
      · rintro ⟨i, h1, h2, h3⟩
        exact ⟨i, by omega, h2, h3⟩
      · rintro ⟨i, h1, h2, h3⟩
        by_cases e : i = k
        · subst e
          rw [h3] at hm
          exact absurd rfl hm
        · exact ⟨i, by omega, h2, h3⟩
theorem suppAt_sorted {g : Gr} {l : Int} : ∀ k, (suppAt g l k).Pairwise (· < ·)
  | 0 => by simp [suppAt]
  | k + 1 => by
    have ih := suppAt_sorted (g := g) (l := l) k
    rw [suppAt]
    split
    · rw [List.pairwise_append]
      refine ⟨ih, by simp, fun a ha b hb => ?_⟩
      obtain ⟨i, h1, h2, _⟩ := (suppAt_iff k a).1 ha
      simp only [List.mem_cons, List.not_mem_nil, or_false] at hb
      omega
    · exact ih
theorem suppAt_length (g : Gr) (l : Int) : ∀ k, (suppAt g l k).length ≤ k
  | 0 => by simp [suppAt]
  | k + 1 => by
    have := suppAt_length g l k
    rw [suppAt]
    split
    · rw [List.length_append, List.length_singleton]
      omega
    · omega
theorem suppG_iff {g : Gr} {l : Int} (hr : rightB g = true) (hl : litB g l = true) (x : Int) : x ∈ suppG g l ↔ 1 ≤ x ∧ x ≤ g.n ∧ Und g (l / 2) x := by
  have n0 := (right_vars hr).1
  unfold suppG
  rw [hr, hl]
  simp only [Bool.and_self, if_true]
  rw [suppAt_iff]
  constructor
  · rintro ⟨i, h1, rfl, h3⟩
    have := (below_iff hr hl (i + 1)).1 h3
    rw [Int.natCast_succ] at this
    exact ⟨by omega, by omega, this⟩
  · rintro ⟨h1, h2, h3⟩
    refine ⟨(x - 1).toNat, by omega, by omega, (below_iff hr hl _).2 ?_⟩
    rw [show ((((x - 1).toNat + 1 : Nat) : Int)) = x from by omega]
    exact h3
end Go.Proofs.Ytbdhkagcbncefaa

set_option linter.unusedVariables false
set_option linter.unusedSimpArgs false
namespace Go.Proofs.Ytbdhkagcbncefaa
open Go.RowKit Go.Maps

theorem gatesG_no1 {g : Gr} {l : Int} (h : rightB g = false) : gatesG g l = 0 := by unfold gatesG; rw [h]; rfl
theorem gatesG_no2 {g : Gr} {l : Int} (h : litB g l = false) : gatesG g l = 0 := by unfold gatesG; rw [h, Bool.and_false]; rfl
theorem gatesG_yes {g : Gr} {l : Int} (h : rightB g = true) (h' : litB g l = true) : gatesG g l = gatesAt g l g.as.length := by unfold gatesG; rw [h, h']; rfl

set_option maxRecDepth 100000 in
set_option maxHeartbeats 2000000 in
theorem rgates_any (g : Gr) (l : Int) (A : Option Addr) (c : Nat) (w : World) (hg : GOk g) (hl : l ≤ 9223372036854775807) (hp : Prs w w.heap.size A g.as) :
    Calls Try.prog 54 #[.agg #[.int .i64 g.n, .slice A g.as.length c], .int .i64 l] w (Ret w (.int .i64 (gatesG g l))) := by
  have hnot := @not_run Try.prog
  have hgl : g.as.length ≤ 8796093022208 := hg.2.1
  have HP := Lib.hid hp
  have HG := Lib.hid hg
  have H0 := Lib.hid (Boxed.begin_ (w := w) (g := g) (A := A) (c := c))
  have c0 := H0.out.c0
  have c1 := H0.out.c1
  clear hp hg
  go_enter Try.func54, Try.ntmps54
  go_wp2_with fail
  refine (rright_any g A c _ HG.out (H0.out.prs HP.out)).mono ?_
  rintro e w1 ⟨rfl, hb1⟩
  have H1 := Lib.hid (H0.out.step hb1)
  clear hb1 H0 c0 c1
  have c0 := H1.out.c0
  have c1 := H1.out.c1
  cases hr : rightB g
  · have HE : Hid (gatesG g l = 0) := gatesG_no1 hr
    clear hr
    go_wp2_with fail
    go_ret
    exact Ret.mk (by rw [HE.out]; rfl) H1.out.low
  · have HR := Lib.hid hr
    clear hr
    go_wp2_with fail
    refine (rlit_any g l A c _ hgl hl).mono ?_
    rintro e w2 ⟨rfl, hb2⟩
    have H2 := Lib.hid (H1.out.step hb2)
    clear hb2 H1 c0 c1
    have c0 := H2.out.c0
    have c1 := H2.out.c1
    cases hlb : litB g l
    · have HE : Hid (gatesG g l = 0) := gatesG_no2 hlb
      clear hlb
      go_wp2_with fail
      go_ret
      exact Ret.mk (by rw [HE.out]; rfl) H2.out.low
    · have HE : Hid (gatesG g l = gatesAt g l g.as.length) := gatesG_yes HR.out hlb
      obtain ⟨g0, g1, g2, g3⟩ := (size_iff g).1 (right_size HR.out)
      have HL := Lib.hid hlb
      have hbl : ((belowG g l).length : Int) = g.n + 1 + g.as.length := by rw [belowG_length]; unfold Gr.vars; omega
      clear hlb
      go_wp2_with fail
      refine (rbelow_any g l A c _ HR.out HL.out (H2.out.prs HP.out)).mono ?_
      rintro e w3 ⟨B, d, rfl, hd, hv, hb3⟩
      have H3 := Lib.hid (H2.out.step hb3)
      have HV : Hid (ValsF w3 B (bools (belowG g l))) := ⟨hv⟩
      have HBL := Lib.hid hbl
      clear hb3 hv H2 c0 c1 hbl
      have c0 := H3.out.c0
      have c1 := H3.out.c1
      go_wp2_with fail
      go_loopw [6, 7] (fun n i wr => ∃ k : Nat, k ≤ g.as.length ∧ n = .int .i64 (gatesAt g l k) ∧ i = .int .i64 (g.n + 1 + k) ∧ Low w3 wr) (fun _ i _ => (g.n + 1 + g.as.length - intOf i).toNat)
      case atStart => exact ⟨0, Nat.zero_le _, rfl, by simp, Low.refl _⟩
      case round =>
        obtain ⟨k, hk, rfl, rfl, hlow⟩ := hrel
        have HW := Lib.hid hlow
        clear hlow
        have hga := gatesAt_le g l k
        by_cases hlt : k < g.as.length
        · have hlt' : g.n + 1 + (k : Int) < ((belowG g l).length : Int) := by rw [HBL.out]; omega
          have i1 : 0 ≤ g.n + 1 + (k : Int) := by omega
          obtain ⟨bit, hbit⟩ : ∃ y, (belowG g l)[(g.n + 1 + (k : Int)).toNat]? = some y := ⟨_, List.getElem?_eq_getElem (by omega)⟩
          obtain ⟨b1, o1, rfl, hb1, hq1⟩ := (HV.out.step HW.out.b).p _ _ (bools_get hbit)
          cases bit
          · have HSN : Hid (gatesAt g l (k + 1) = gatesAt g l k) := gatesAt_no hbit
            clear hbit
            go_wp2_with fail
            go_roundw
            case rel => exact ⟨k + 1, by omega, by rw [HSN.out], by go_num, HW.out⟩
            case measure => simp [intOf]; omega
          · have HSN : Hid (gatesAt g l (k + 1) = gatesAt g l k + 1) := gatesAt_yes hbit
            clear hbit
            go_wp2_with fail
            go_roundw
            case rel => exact ⟨k + 1, by omega, by rw [HSN.out]; go_num, by go_num, HW.out⟩
            case measure => simp [intOf]; omega
        · obtain rfl : k = g.as.length := by omega
          have hlt' : ¬ (g.n + 1 + (g.as.length : Int) < ((belowG g l).length : Int)) := by rw [HBL.out]; omega
          go_wp2_with fail
          go_ret
          exact Ret.mk (by rw [HE.out]; rfl) (H3.out.step HW.out.b).low
end Go.Proofs.Ytbdhkagcbncefaa

set_option linter.unusedVariables false
set_option linter.unusedSimpArgs false
namespace Go.Proofs.Ytbdhkagcbncefaa
open Go.RowKit Go.Maps

/-- A list of numbers is handed back. -/
def RetI (w : World) (xs : List Int) (e : Ending) (w' : World) : Prop :=
  ∃ A c, e = .returned (.slice A xs.length c) ∧ xs.length ≤ c ∧ Vals w' w'.heap.size A (i64s xs) ∧ Below w.heap.size w w'

theorem suppAt_yes {g : Gr} {l : Int} {k : Nat} (hm : (belowG g l)[k + 1]? = some true) : suppAt g l (k + 1) = suppAt g l k ++ [(k : Int) + 1] := by
  rw [suppAt, hm]
  rfl
theorem suppAt_no {g : Gr} {l : Int} {k : Nat} (hm : (belowG g l)[k + 1]? = some false) : suppAt g l (k + 1) = suppAt g l k := by
  rw [suppAt, hm]
  rfl
theorem suppG_no {g : Gr} {l : Int} (h : (rightB g && litB g l) = false) : suppG g l = [] := by unfold suppG; rw [h]; rfl
theorem suppG_yes {g : Gr} {l : Int} (h : rightB g = true) (h' : litB g l = true) : suppG g l = suppAt g l g.n.toNat := by unfold suppG; rw [h, h']; rfl

theorem there_any (g : Gr) (l : Int) (A : Option Addr) (c : Nat) (w : World) (hg : GOk g) (hl : l ≤ 9223372036854775807) (hp : Prs w w.heap.size A g.as) :
    Calls Try.prog 92 #[.agg #[.int .i64 g.n, .slice A g.as.length c], .int .i64 l] w (Ret w (.bool (rightB g && litB g l))) := by
  have hgl : g.as.length ≤ 8796093022208 := hg.2.1
  have HP := Lib.hid hp
  have HG := Lib.hid hg
  have H0 := Lib.hid (Boxed.begin_ (w := w) (g := g) (A := A) (c := c))
  have c0 := H0.out.c0
  have c1 := H0.out.c1
  clear hp hg
  go_enter Try.func92, Try.ntmps92
  go_wp2_with fail
  refine (Right_any g A c _ HG.out (H0.out.prs HP.out)).mono ?_
  rintro e w1 ⟨rfl, hb1⟩
  have H1 := Lib.hid (H0.out.step hb1)
  clear hb1 H0 c0 c1
  have c0 := H1.out.c0
  have c1 := H1.out.c1
  cases hr : rightB g
  · have HR := Lib.hid hr
    clear hr
    go_wp2_with fail
    go_ret
    exact Ret.mk (by rw [HR.out]; rfl) H1.out.low
  · have HR := Lib.hid hr
    clear hr
    go_wp2_with fail
    refine (lit_any g l A c _ hgl hl).mono ?_
    rintro e w2 ⟨rfl, hb2⟩
    have H2 := Lib.hid (H1.out.step hb2)
    go_wp2_with fail
    go_ret
    exact Ret.mk (by rw [HR.out]; rfl) H2.out.low

set_option maxRecDepth 100000 in
set_option maxHeartbeats 2000000 in
theorem support_any (g : Gr) (l : Int) (A : Option Addr) (c : Nat) (w : World) (hg : GOk g) (hl : l ≤ 9223372036854775807) (hp : Prs w w.heap.size A g.as) :
    Calls Try.prog 57 #[.agg #[.int .i64 g.n, .slice A g.as.length c], .int .i64 l] w (RetI w (suppG g l)) := by
  have hnot := @not_run Try.prog
  have HP := Lib.hid hp
  have HG := Lib.hid hg
  have H0 := Lib.hid (Boxed.begin_ (w := w) (g := g) (A := A) (c := c))
  have c0 := H0.out.c0
  have c1 := H0.out.c1
  clear hp hg
  go_enter Try.func57, Try.ntmps57
  go_wp2_with fail
  refine (there_any g l A c _ HG.out hl (H0.out.prs HP.out)).mono ?_
  rintro e w1 ⟨rfl, hb1⟩
  have H1 := Lib.hid (H0.out.step hb1)
  clear hb1 H0 c0 c1
  have c0 := H1.out.c0
  have c1 := H1.out.c1
  cases hr : (rightB g && litB g l)
  · have HE : Hid (suppG g l = []) := suppG_no hr
    clear hr
    go_wp2_with fail
    go_ret
    rw [HE.out]
    exact ⟨none, 0, rfl, Nat.le_refl _, Vals.nil, H1.out.low⟩
  · rw [Bool.and_eq_true] at hr
    have HR := Lib.hid hr
    have HE : Hid (suppG g l = suppAt g l g.n.toNat) := suppG_yes hr.1 hr.2
    obtain ⟨g0, g1, g2, g3⟩ := (size_iff g).1 (right_size hr.1)
    have hbl : ((belowG g l).length : Int) = g.n + 1 + g.as.length := by rw [belowG_length]; unfold Gr.vars; omega
    have hw1 : IntKind.i64.wrap (g.n + 1) = g.n + 1 := IntWalk.i64_in _ (by omega)
    have hb0 : 0 < (belowG g l).length := by omega
    have hb4 : g.n + 1 ≤ ((belowG g l).length : Int) := by omega
    clear hr hbl
    go_wp2_with fail
    refine wp_region_noPanic ?_
    refine wp_region_seq (fun W => W.cell? ⟨w.heap.size, 0, none⟩ = some (.int .i64 g.n) ∧ W.cell? ⟨w.heap.size, 1, none⟩ = some (.slice A g.as.length c)) [0, 1, 3, 4, 5, 8, 2, 6, 7] [0, 1, 3, 4, 5, 7, 8] [] (by kernel_rfl) (by kernel_rfl) rfl (by kernel_rfl) (by kernel_rfl) (fun _ _ _ _ _ h => h) ?_ (fun hSS => ?_)
    · exact ⟨c0, c1⟩
    clear c0 c1 hSS
    replace H1 := Lib.hid (H1.out.step (stepD1 _))
    (refine wpSeq_mov rfl rfl ?_; intro o ho; simp only [List.getElem?_toArray, List.getElem?_cons_zero, List.getElem?_cons_succ, Option.some.injEq] at ho; subst ho; refine ⟨?_, Or.inl ⟨by rfl, fun W hSW => ?_⟩, ?_⟩; rotate_left; (focus (go_simp; first | done | with_reducible rfl)); try simp only [Act.put, List.setIfInBounds_toArray, List.set_cons_zero, List.set_cons_succ])
    (refine wpSeq_mov rfl rfl ?_; intro o ho; simp only [List.getElem?_toArray, List.getElem?_cons_zero, List.getElem?_cons_succ, Option.some.injEq] at ho; subst ho; refine ⟨?_, Or.inl ⟨by rfl, fun W hSW => ?_⟩, ?_⟩; rotate_left; (focus (go_simp; first | done | with_reducible rfl)); try simp only [Act.put, List.setIfInBounds_toArray, List.set_cons_zero, List.set_cons_succ])
    (refine wpSeq_mov rfl rfl ?_; intro o ho; simp only [List.getElem?_toArray, List.getElem?_cons_zero, List.getElem?_cons_succ, Option.some.injEq] at ho; subst ho; refine ⟨?_, Or.inl ⟨by rfl, fun W hSW => ?_⟩, ?_⟩; rotate_left; (focus (go_simp; first | done | with_reducible rfl)); try simp only [Act.put, List.setIfInBounds_toArray, List.set_cons_zero, List.set_cons_succ])
    (refine wpSeq_mov rfl rfl ?_; intro o ho; simp only [List.getElem?_toArray, List.getElem?_cons_zero, List.getElem?_cons_succ, Option.some.injEq] at ho; subst ho; refine ⟨?_, Or.inl ⟨by rfl, fun W hSW => ?_⟩, ?_⟩; rotate_left; (focus (go_simp; first | done | with_reducible rfl)); try simp only [Act.put, List.setIfInBounds_toArray, List.set_cons_zero, List.set_cons_succ])
    (refine wpSeq_mov rfl rfl ?_; intro o ho; simp only [List.getElem?_toArray, List.getElem?_cons_zero, List.getElem?_cons_succ, Option.some.injEq] at ho; subst ho; refine ⟨?_, Or.inl ⟨by rfl, fun W hSW => ?_⟩, ?_⟩; rotate_left; (focus (go_simp; first | done | with_reducible rfl)); try simp only [Act.put, List.setIfInBounds_toArray, List.set_cons_zero, List.set_cons_succ])
    (refine wpSeq_mov rfl rfl ?_; intro o ho; simp only [List.getElem?_toArray, List.getElem?_cons_zero, List.getElem?_cons_succ, Option.some.injEq] at ho; subst ho; refine ⟨?_, Or.inl ⟨by rfl, fun W hSW => ?_⟩, ?_⟩; rotate_left; (focus (go_simp; first | done | with_reducible rfl)); try simp only [Act.put, List.setIfInBounds_toArray, List.set_cons_zero, List.set_cons_succ])
    (refine wpSeq_fix rfl rfl ?_; intro o ho; simp only [List.getElem?_toArray, List.getElem?_cons_zero, List.getElem?_cons_succ, Option.some.injEq] at ho; subst ho; intro K hK)
    go_simp
    refine (conebelow_any g l A c _ HR.out.1 HR.out.2 (H1.out.prs HP.out)).mono ?_
    rintro e w3 ⟨B, d, rfl, hd, hv, hb3⟩
    have H3 := Lib.hid (H1.out.step hb3)
    obtain ⟨b1, o1, rfl, hb1, _⟩ := hv 0 _ (bools_get (List.getElem?_eq_getElem hb0))
    have HV : Hid (ValsF w3 (some ⟨b1, o1, none⟩) (bools (belowG g l))) := ⟨hv⟩
    clear hb3 hv H1
    (refine hK.out _ _ (fun _ => ⟨H3.out.c0, H3.out.c1⟩) ?_; clear hK K; try simp only [Act.put, List.setIfInBounds_toArray, List.set_cons_zero, List.set_cons_succ])
    have hs1 : 0 ≤ g.n + 1 := by omega
    have hs2 : g.n + 1 ≤ (d : Int) := by omega
    obtain ⟨M, hM⟩ : ∃ M : Nat, (g.n + 1).toNat = M := ⟨_, rfl⟩
    have HM : Hid ((M : Int) = g.n + 1) := by show (M : Int) = g.n + 1; omega
    have hMl : M ≤ 2001 := by omega
    (refine wpSeq_fix rfl rfl ?_; intro o ho; simp only [List.getElem?_toArray, List.getElem?_cons_zero, List.getElem?_cons_succ, Option.some.injEq] at ho; subst ho; intro K hK)
    go_simp
    (refine hK.out _ _ (fun _ => ⟨H3.out.c0, H3.out.c1⟩) ?_; clear hK K; try simp only [Act.put, List.setIfInBounds_toArray, List.set_cons_zero, List.set_cons_succ])
    (refine wpSeq_mov rfl rfl ?_; intro o ho; simp only [List.getElem?_toArray, List.getElem?_cons_zero, List.getElem?_cons_succ, Option.some.injEq] at ho; subst ho; refine ⟨?_, Or.inl ⟨by rfl, fun W hSW => ?_⟩, ?_⟩; rotate_left; (focus (go_simp; first | done | with_reducible rfl)); try simp only [Act.put, List.setIfInBounds_toArray, List.set_cons_zero, List.set_cons_succ])
    refine wpSeq_done ?_
    obtain ⟨i0, hi0, hz0, hz1, hz2⟩ := info_parts intInfo
    clear hM hs1 hs2
    go_wp2_with fail
    go_loopw [4, 19] (fun out i wr => ∃ (k : Nat) (A' : Option Addr) (c' : Nat), k ≤ M ∧ out = .slice A' (suppAt g l (k - 1)).length c' ∧ i = .int .i64 k ∧ OwnF wr w3.heap.size 3 1 (.slice A' (suppAt g l (k - 1)).length c') (suppAt g l (k - 1)).length (i64s (suppAt g l (k - 1))) ∧ Low w3 wr) (fun _ i _ => M - (intOf i).toNat)
    case atStart => exact ⟨0, none, 0, Nat.zero_le _, rfl, rfl, ⟨World.ownsRow_nil _ _ _ _⟩, Low.refl _⟩
    case round =>
      obtain ⟨k, A', c', hk, rfl, rfl, hown, hlow⟩ := hrel
      have HO := Lib.hid hown
      have HW := Lib.hid hlow
      have hs := HW.out.size
      have hsl := suppAt_length g l (k - 1)
      clear hown hlow
      by_cases hlt : k < M
      · have hlt' : (k : Int) < (M : Int) := by omega
        have hkl : k < (belowG g l).length := by have := HM.out; rw [belowG_length]; unfold Gr.vars; omega
        obtain ⟨bit, hbit⟩ : ∃ y, (belowG g l)[k]? = some y := ⟨_, List.getElem?_eq_getElem hkl⟩
        obtain ⟨b2, o2, e2, _, hq⟩ := (HV.out.step HW.out.b).p _ _ (bools_get hbit)
        cases e2
        have HB := Lib.hid hbit
        clear hbit hkl
        cases bit
        · have HSN : Hid (suppAt g l (k + 1 - 1) = suppAt g l (k - 1)) := by
            show suppAt g l (k + 1 - 1) = suppAt g l (k - 1)
            match k, HB with
            | 0, _ => rfl
            | k + 1, HB => exact suppAt_no HB.out
          go_wp2_with fail
          go_roundw
          case rel => exact ⟨k + 1, A', c', by omega, by rw [HSN.out], by go_num, by rw [HSN.out]; exact HO.out, HW.out⟩
          case measure => simp [intOf]; omega
        · by_cases hk0 : k = 0
          · have hk0' : ¬ ((0 : Int) < (k : Int)) := by omega
            have HSN : Hid (suppAt g l (k + 1 - 1) = suppAt g l (k - 1)) := by show suppAt g l (k + 1 - 1) = suppAt g l (k - 1); rw [hk0]
            clear hk0
            go_wp2_with fail
            go_roundw
            case rel => exact ⟨k + 1, A', c', by omega, by rw [HSN.out], by go_num, by rw [HSN.out]; exact HO.out, HW.out⟩
            case measure => simp [intOf]; omega
          · have hkp : (0 : Int) < (k : Int) := by omega
            have HSN : Hid (suppAt g l (k + 1 - 1) = suppAt g l (k - 1) ++ [(k : Int)]) := by
              show suppAt g l (k + 1 - 1) = suppAt g l (k - 1) ++ [(k : Int)]
              match k, HB, hk0 with
              | 0, _, h => exact absurd rfl h
              | k + 1, HB, _ => rw [Int.natCast_succ]; exact suppAt_yes HB.out
            clear hk0
            generalize suppAt g l (k - 1) = ss at HO hsl HSN
            go_wp2_with (first | (at_builtin; go_loud (refine wpList_append_vals _ rfl (.tmp 29) (.tmp 31) _ rfl w3.heap.size 3 i0 _ 1 8 Try.underlying26 hi0 hz0 hz1 hz2 rfl (by omega) (.slice A' ss.length c') ss.length (i64s ss) rfl (HO.out.p.alloc _) _ _ 1 1 [.int .i64 (k : Int)] rfl rfl (vals_new wr [.int .i64 (k : Int)] 3) (i64s_one [(k : Int)]) (by unfold maxLen; omega) (by omega) (by simp; omega) ?_); intro v5 w5 hown5 hg5; have HO5 := Lib.hid hown5; have HW5 := Lib.hid ((HW.out.step (stepA wr (.cells #[.int .i64 (k : Int)] 3))).grown hg5 (own_block HO.out.p)); clear hown5 hg5))
            go_roundw
            case rel =>
              obtain ⟨A6, c6, hv6, _⟩ := own_form HO5.out
              subst hv6
              refine ⟨k + 1, A6, c6, by omega, ?_, by go_num, ⟨?_⟩, HW5.out⟩
              · rw [HSN.out, List.length_append, List.length_singleton]
              · rw [HSN.out, List.length_append, List.length_singleton, i64s_append]
                exact HO5.out
            case measure => simp [intOf]; omega
      · obtain rfl : k = M := by omega
        have hlt' : ¬ ((k : Int) < (k : Int)) := by omega
        go_wp2_with fail
        go_ret
        have hkn : k - 1 = g.n.toNat := by have := HM.out; omega
        rw [hkn] at HO ⊢
        rw [HE.out]
        exact ⟨A', c', rfl, own_cap HO.out.p, Vals.of_own HO.out.p, (H3.out.step HW.out.b).low⟩

set_option maxRecDepth 100000 in
set_option maxHeartbeats 2000000 in
theorem cgates_any (g : Gr) (l : Int) (A : Option Addr) (c : Nat) (w : World) (hg : GOk g) (hl : l ≤ 9223372036854775807) (hp : Prs w w.heap.size A g.as) :
    Calls Try.prog 58 #[.agg #[.int .i64 g.n, .slice A g.as.length c], .int .i64 l] w (Ret w (.int .i64 (gatesG g l))) := by
  have hnot := @not_run Try.prog
  have HP := Lib.hid hp
  have HG := Lib.hid hg
  have H0 := Lib.hid (Boxed.begin_ (w := w) (g := g) (A := A) (c := c))
  have c0 := H0.out.c0
  have c1 := H0.out.c1
  clear hp hg
  go_enter Try.func58, Try.ntmps58
  go_wp2_with fail
  refine (there_any g l A c _ HG.out hl (H0.out.prs HP.out)).mono ?_
  rintro e w1 ⟨rfl, hb1⟩
  have H1 := Lib.hid (H0.out.step hb1)
  clear hb1 H0 c0 c1
  have c0 := H1.out.c0
  have c1 := H1.out.c1
  cases hr : (rightB g && litB g l)
  · have HE : Hid (gatesG g l = 0) := by show gatesG g l = 0; unfold gatesG; rw [hr]; rfl
    clear hr
    go_wp2_with fail
    go_ret
    exact Ret.mk (by rw [HE.out]; rfl) H1.out.low
  · rw [Bool.and_eq_true] at hr
    have HR := Lib.hid hr
    have HE : Hid (gatesG g l = gatesAt g l g.as.length) := gatesG_yes hr.1 hr.2
    obtain ⟨g0, g1, g2, g3⟩ := (size_iff g).1 (right_size hr.1)
    have hbl : ((belowG g l).length : Int) = g.n + 1 + g.as.length := by rw [belowG_length]; unfold Gr.vars; omega
    have HBL := Lib.hid hbl
    have hw1 : IntKind.i64.wrap (g.n + 1) = g.n + 1 := IntWalk.i64_in _ (by omega)
    have hb0 : 0 < (belowG g l).length := by omega
    have hb4 : g.n + 1 ≤ ((belowG g l).length : Int) := by omega
    clear hr hbl
    go_wp2_with fail
    refine wp_region_noPanic ?_
    refine wp_region_seq (fun W => W.cell? ⟨w.heap.size, 0, none⟩ = some (.int .i64 g.n) ∧ W.cell? ⟨w.heap.size, 1, none⟩ = some (.slice A g.as.length c)) [0, 1, 3, 4, 5, 8, 2, 6, 7] [0, 1, 3, 4, 5, 7, 8] [] (by kernel_rfl) (by kernel_rfl) rfl (by kernel_rfl) (by kernel_rfl) (fun _ _ _ _ _ h => h) ?_ (fun hSS => ?_)
    · exact ⟨c0, c1⟩
    clear c0 c1 hSS
    replace H1 := Lib.hid (H1.out.step (stepD1 _))
    (refine wpSeq_mov rfl rfl ?_; intro o ho; simp only [List.getElem?_toArray, List.getElem?_cons_zero, List.getElem?_cons_succ, Option.some.injEq] at ho; subst ho; refine ⟨?_, Or.inl ⟨by rfl, fun W hSW => ?_⟩, ?_⟩; rotate_left; (focus (go_simp; first | done | with_reducible rfl)); try simp only [Act.put, List.setIfInBounds_toArray, List.set_cons_zero, List.set_cons_succ])
    (refine wpSeq_mov rfl rfl ?_; intro o ho; simp only [List.getElem?_toArray, List.getElem?_cons_zero, List.getElem?_cons_succ, Option.some.injEq] at ho; subst ho; refine ⟨?_, Or.inl ⟨by rfl, fun W hSW => ?_⟩, ?_⟩; rotate_left; (focus (go_simp; first | done | with_reducible rfl)); try simp only [Act.put, List.setIfInBounds_toArray, List.set_cons_zero, List.set_cons_succ])
    (refine wpSeq_mov rfl rfl ?_; intro o ho; simp only [List.getElem?_toArray, List.getElem?_cons_zero, List.getElem?_cons_succ, Option.some.injEq] at ho; subst ho; refine ⟨?_, Or.inl ⟨by rfl, fun W hSW => ?_⟩, ?_⟩; rotate_left; (focus (go_simp; first | done | with_reducible rfl)); try simp only [Act.put, List.setIfInBounds_toArray, List.set_cons_zero, List.set_cons_succ])
    (refine wpSeq_mov rfl rfl ?_; intro o ho; simp only [List.getElem?_toArray, List.getElem?_cons_zero, List.getElem?_cons_succ, Option.some.injEq] at ho; subst ho; refine ⟨?_, Or.inl ⟨by rfl, fun W hSW => ?_⟩, ?_⟩; rotate_left; (focus (go_simp; first | done | with_reducible rfl)); try simp only [Act.put, List.setIfInBounds_toArray, List.set_cons_zero, List.set_cons_succ])
    (refine wpSeq_mov rfl rfl ?_; intro o ho; simp only [List.getElem?_toArray, List.getElem?_cons_zero, List.getElem?_cons_succ, Option.some.injEq] at ho; subst ho; refine ⟨?_, Or.inl ⟨by rfl, fun W hSW => ?_⟩, ?_⟩; rotate_left; (focus (go_simp; first | done | with_reducible rfl)); try simp only [Act.put, List.setIfInBounds_toArray, List.set_cons_zero, List.set_cons_succ])
    (refine wpSeq_mov rfl rfl ?_; intro o ho; simp only [List.getElem?_toArray, List.getElem?_cons_zero, List.getElem?_cons_succ, Option.some.injEq] at ho; subst ho; refine ⟨?_, Or.inl ⟨by rfl, fun W hSW => ?_⟩, ?_⟩; rotate_left; (focus (go_simp; first | done | with_reducible rfl)); try simp only [Act.put, List.setIfInBounds_toArray, List.set_cons_zero, List.set_cons_succ])
    (refine wpSeq_fix rfl rfl ?_; intro o ho; simp only [List.getElem?_toArray, List.getElem?_cons_zero, List.getElem?_cons_succ, Option.some.injEq] at ho; subst ho; intro K hK)
    go_simp
    refine (conebelow_any g l A c _ HR.out.1 HR.out.2 (H1.out.prs HP.out)).mono ?_
    rintro e w3 ⟨B, d, rfl, hd, hv, hb3⟩
    have H3 := Lib.hid (H1.out.step hb3)
    obtain ⟨b1, o1, rfl, hb1, _⟩ := hv 0 _ (bools_get (List.getElem?_eq_getElem hb0))
    have HV : Hid (ValsF w3 (some ⟨b1, o1, none⟩) (bools (belowG g l))) := ⟨hv⟩
    clear hb3 hv H1
    (refine hK.out _ _ (fun _ => ⟨H3.out.c0, H3.out.c1⟩) ?_; clear hK K; try simp only [Act.put, List.setIfInBounds_toArray, List.set_cons_zero, List.set_cons_succ])
    have hs1 : 0 ≤ g.n + 1 := by omega
    have hs2 : g.n + 1 ≤ ((belowG g l).length : Int) := hb4
    have hs3 : (belowG g l).length ≤ d := hd
    obtain ⟨M, hM⟩ : ∃ M : Nat, (g.n + 1).toNat = M := ⟨_, rfl⟩
    have HM : Hid ((M : Int) = g.n + 1) := by show (M : Int) = g.n + 1; omega
    have hMl : M ≤ 2001 := by omega
    (refine wpSeq_fix rfl rfl ?_; intro o ho; simp only [List.getElem?_toArray, List.getElem?_cons_zero, List.getElem?_cons_succ, Option.some.injEq] at ho; subst ho; intro K hK)
    go_simp
    have hJ : (belowG g l).length - M = g.as.length := by have := HM.out; have := HBL.out; omega
    obtain ⟨oX, hoX, hoY⟩ : ∃ oX, (if d = M then some (⟨b1, o1, none⟩ : Addr) else some ⟨b1, o1 + M, none⟩) = some ⟨b1, oX, none⟩ ∧ (d ≠ M → oX = o1 + M) := by
      by_cases h : d = M
      · exact ⟨o1, by rw [if_pos h], fun h' => absurd h h'⟩
      · exact ⟨o1 + M, by rw [if_neg h], fun _ => rfl⟩
    rw [hJ, hoX]
    have HOY := Lib.hid hoY
    clear hJ hoX hoY
    (refine hK.out _ _ (fun _ => ⟨H3.out.c0, H3.out.c1⟩) ?_; clear hK K; try simp only [Act.put, List.setIfInBounds_toArray, List.set_cons_zero, List.set_cons_succ])
    (refine wpSeq_mov rfl rfl ?_; intro o ho; simp only [List.getElem?_toArray, List.getElem?_cons_zero, List.getElem?_cons_succ, Option.some.injEq] at ho; subst ho; refine ⟨?_, Or.inl ⟨by rfl, fun W hSW => ?_⟩, ?_⟩; rotate_left; (focus (go_simp; first | done | with_reducible rfl)); try simp only [Act.put, List.setIfInBounds_toArray, List.set_cons_zero, List.set_cons_succ])
    refine wpSeq_done ?_
    clear hM hs1 hs2
    go_wp2_with fail
    go_loopw [4, 19] (fun n i wr => ∃ k : Nat, k ≤ g.as.length ∧ n = .int .i64 (gatesAt g l k) ∧ i = .int .i64 k ∧ Low w3 wr) (fun _ i _ => g.as.length - (intOf i).toNat)
    case atStart => exact ⟨0, Nat.zero_le _, rfl, rfl, Low.refl _⟩
    case round =>
      obtain ⟨k, hk, rfl, rfl, hlow⟩ := hrel
      have HW := Lib.hid hlow
      clear hlow
      have hga := gatesAt_le g l k
      by_cases hlt : k < g.as.length
      · have hlt' : (k : Int) < (g.as.length : Int) := by omega
        obtain ⟨bit, hbit⟩ : ∃ y, (belowG g l)[M + k]? = some y := ⟨_, List.getElem?_eq_getElem (by have := HM.out; have := HBL.out; omega)⟩
        obtain ⟨b2, o2, e2, _, hq⟩ := (HV.out.step HW.out.b).p _ _ (bools_get hbit)
        cases e2
        have hdm : d ≠ M := by have := HM.out; have := HBL.out; omega
        obtain rfl := HOY.out hdm
        rw [← Nat.add_assoc] at hq
        have hbit' : (belowG g l)[(g.n + 1 + (k : Int)).toNat]? = some bit := by rw [show (g.n + 1 + (k : Int)).toNat = M + k from by have := HM.out; omega]; exact hbit
        clear hdm
        cases bit
        · have HSN : Hid (gatesAt g l (k + 1) = gatesAt g l k) := gatesAt_no hbit'
          clear hbit hbit'
          go_wp2_with fail
          go_roundw
          case rel => exact ⟨k + 1, by omega, by rw [HSN.out], by go_num, HW.out⟩
          case measure => simp [intOf]; omega
        · have HSN : Hid (gatesAt g l (k + 1) = gatesAt g l k + 1) := gatesAt_yes hbit'
          clear hbit hbit'
          go_wp2_with fail
          go_roundw
          case rel => exact ⟨k + 1, by omega, by rw [HSN.out]; go_num, by go_num, HW.out⟩
          case measure => simp [intOf]; omega
      · obtain rfl : k = g.as.length := by omega
        have hlt' : ¬ ((g.as.length : Int) < (g.as.length : Int)) := by omega
        go_wp2_with fail
        go_ret
        exact Ret.mk (by rw [HE.out]; rfl) (H3.out.step HW.out.b).low

set_option maxRecDepth 100000 in
set_option maxHeartbeats 2000000 in
theorem rsupport_any (g : Gr) (l : Int) (A : Option Addr) (c : Nat) (w : World) (hg : GOk g) (hl : l ≤ 9223372036854775807) (hp : Prs w w.heap.size A g.as) :
    Calls Try.prog 91 #[.agg #[.int .i64 g.n, .slice A g.as.length c], .int .i64 l] w (RetI w (suppG g l)) := by
  have hnot := @not_run Try.prog
  have hgl : g.as.length ≤ 8796093022208 := hg.2.1
  have HP := Lib.hid hp
  have HG := Lib.hid hg
  have H0 := Lib.hid (Boxed.begin_ (w := w) (g := g) (A := A) (c := c))
  have c0 := H0.out.c0
  have c1 := H0.out.c1
  clear hp hg
  go_enter Try.func91, Try.ntmps91
  go_wp2_with fail
  refine (rright_any g A c _ HG.out (H0.out.prs HP.out)).mono ?_
  rintro e w1 ⟨rfl, hb1⟩
  have H1 := Lib.hid (H0.out.step hb1)
  clear hb1 H0 c0 c1
  have c0 := H1.out.c0
  have c1 := H1.out.c1
  cases hr : rightB g
  · have HE : Hid (suppG g l = []) := suppG_no (by rw [hr]; rfl)
    clear hr
    go_wp2_with fail
    go_ret
    rw [HE.out]
    exact ⟨none, 0, rfl, Nat.le_refl _, Vals.nil, H1.out.low⟩
  · have HR := Lib.hid hr
    clear hr
    go_wp2_with fail
    refine (rlit_any g l A c _ hgl hl).mono ?_
    rintro e w2 ⟨rfl, hb2⟩
    have H2 := Lib.hid (H1.out.step hb2)
    clear hb2 H1 c0 c1
    have c0 := H2.out.c0
    have c1 := H2.out.c1
    cases hlb : litB g l
    · have HE : Hid (suppG g l = []) := suppG_no (by rw [hlb, Bool.and_false])
      clear hlb
      go_wp2_with fail
      go_ret
      rw [HE.out]
      exact ⟨none, 0, rfl, Nat.le_refl _, Vals.nil, H2.out.low⟩
    · have HE : Hid (suppG g l = suppAt g l g.n.toNat) := suppG_yes HR.out hlb
      obtain ⟨g0, g1, g2, g3⟩ := (size_iff g).1 (right_size HR.out)
      have HL := Lib.hid hlb
      have hbl : ((belowG g l).length : Int) = g.n + 1 + g.as.length := by rw [belowG_length]; unfold Gr.vars; omega
      have HBL := Lib.hid hbl
      clear hlb hbl
      go_wp2_with fail
      refine (rbelow_any g l A c _ HR.out HL.out (H2.out.prs HP.out)).mono ?_
      rintro e w3 ⟨B, d, rfl, hd, hv, hb3⟩
      have H3 := Lib.hid (H2.out.step hb3)
      have HV : Hid (ValsF w3 B (bools (belowG g l))) := ⟨hv⟩
      clear hb3 hv H2 c0 c1
      obtain ⟨i0, hi0, hz0, hz1, hz2⟩ := info_parts intInfo
      go_wp2_with fail
      go_loopw [6, 7] (fun out i wr => ∃ (k : Nat) (A' : Option Addr) (c' : Nat), (k : Int) ≤ g.n ∧ out = .slice A' (suppAt g l k).length c' ∧ i = .int .i64 ((k : Int) + 1) ∧ OwnF wr w3.heap.size 3 1 (.slice A' (suppAt g l k).length c') (suppAt g l k).length (i64s (suppAt g l k)) ∧ Low w3 wr) (fun _ i _ => (g.n + 1 - intOf i).toNat)
      case atStart => exact ⟨0, none, 0, by omega, rfl, rfl, ⟨World.ownsRow_nil _ _ _ _⟩, Low.refl _⟩
      case round =>
        obtain ⟨k, A', c', hk, rfl, rfl, hown, hlow⟩ := hrel
        have HO := Lib.hid hown
        have HW := Lib.hid hlow
        have hs := HW.out.size
        have hsl := suppAt_length g l k
        have H4 := Lib.hid (H3.out.step HW.out.b)
        have c0 := H4.out.c0
        have c1 := H4.out.c1
        clear hown hlow
        by_cases hlt : (k : Int) + 1 ≤ g.n
        · have i1 : 0 ≤ (k : Int) + 1 := by omega
          have i2 : (k : Int) + 1 < ((belowG g l).length : Int) := by rw [HBL.out]; omega
          have hkl : k + 1 < (belowG g l).length := by omega
          obtain ⟨bit, hbit⟩ : ∃ y, (belowG g l)[k + 1]? = some y := ⟨_, List.getElem?_eq_getElem hkl⟩
          obtain ⟨b2, o2, rfl, _, hq⟩ := (HV.out.step HW.out.b).p _ _ (bools_get hbit)
          cases bit
          · have HSN : Hid (suppAt g l (k + 1) = suppAt g l k) := suppAt_no hbit
            clear hbit hkl
            go_wp2_with fail
            go_roundw
            case rel => exact ⟨k + 1, A', c', by omega, by rw [HSN.out], by go_num, by rw [HSN.out]; exact HO.out, HW.out⟩
            case measure => simp [intOf]; omega
          · have HSN : Hid (suppAt g l (k + 1) = suppAt g l k ++ [(k : Int) + 1]) := suppAt_yes hbit
            clear hbit hkl
            generalize suppAt g l k = ss at HO hsl HSN
            go_wp2_with (first | (at_builtin; go_loud (refine wpList_append_vals _ rfl (.tmp 30) (.tmp 32) _ rfl w3.heap.size 3 i0 _ 1 8 Try.underlying26 hi0 hz0 hz1 hz2 rfl (by omega) (.slice A' ss.length c') ss.length (i64s ss) rfl (HO.out.p.alloc _) _ _ 1 1 [.int .i64 ((k : Int) + 1)] rfl rfl (vals_new wr [.int .i64 ((k : Int) + 1)] 3) (i64s_one [(k : Int) + 1]) (by unfold maxLen; omega) (by omega) (by simp; omega) ?_); intro v5 w5 hown5 hg5; have HO5 := Lib.hid hown5; have HW5 := Lib.hid ((HW.out.step (stepA wr (.cells #[.int .i64 ((k : Int) + 1)] 3))).grown hg5 (own_block HO.out.p)); clear hown5 hg5))
            go_roundw
            case rel =>
              obtain ⟨A6, c6, hv6, _⟩ := own_form HO5.out
              subst hv6
              refine ⟨k + 1, A6, c6, by omega, ?_, by go_num, ⟨?_⟩, HW5.out⟩
              · rw [HSN.out, List.length_append, List.length_singleton]
              · rw [HSN.out, List.length_append, List.length_singleton, i64s_append]
                exact HO5.out
            case measure => simp [intOf]; omega
        · go_wp2_with fail
          go_ret
          have hkn : g.n.toNat = k := by omega
          rw [HE.out, hkn]
          exact ⟨A', c', rfl, own_cap HO.out.p, Vals.of_own HO.out.p, (H3.out.step HW.out.b).low⟩

set_option maxHeartbeats 1000000 in
theorem sameInts_any (xs : List Int) (A B : Option Addr) (c d : Nat) (w : World) (hl : xs.length ≤ 140737488355328) (hx : Vals w w.heap.size A (i64s xs)) (hy : Vals w w.heap.size B (i64s xs)) :
    Calls Try.prog 90 #[.slice A xs.length c, .slice B xs.length d] w (Ret w (.bool true)) := by
  have HX := Lib.hid hx
  have HY := Lib.hid hy
  clear hx hy
  go_enter Try.func90, Try.ntmps90
  go_wp2_with fail
  go_loopw [5] (fun s wr => ∃ k : Nat, k ≤ xs.length ∧ s = .int .i64 k ∧ Low w wr) (fun s _ => xs.length - (intOf s).toNat)
  case atStart => exact ⟨0, Nat.zero_le _, rfl, Low.refl _⟩
  case round =>
    obtain ⟨k, hk, rfl, hlow⟩ := hrel
    have HL := Lib.hid hlow
    clear hlow
    by_cases hlt : k < xs.length
    · have hlt' : (k : Int) < (xs.length : Int) := by omega
      obtain ⟨x, hxk⟩ : ∃ q, xs[k]? = some q := ⟨_, List.getElem?_eq_getElem hlt⟩
      obtain ⟨b1, o1, rfl, _, q1⟩ := (HX.out.after HL.out.b) k _ (i64s_at hxk)
      obtain ⟨b2, o2, rfl, _, q2⟩ := (HY.out.after HL.out.b) k _ (i64s_at hxk)
      clear hxk
      go_wp2_with fail
      refine wp_region_noPanic ?_
      refine wp_region_seq (fun W => W.cell? ⟨b1, o1 + k, none⟩ = some (.int .i64 x) ∧ W.cell? ⟨b2, o2 + k, none⟩ = some (.int .i64 x)) [0, 1, 2, 3, 4, 5, 6, 7, 8] [0, 1, 2, 3, 4, 5, 6, 7, 8] [] (by kernel_rfl) (by kernel_rfl) rfl (by kernel_rfl) (by kernel_rfl) (fun _ _ _ _ _ h => h) ?_ (fun hSS => ?_)
      · exact ⟨q1, q2⟩
      (refine wpSeq_mov rfl rfl ?_; intro o ho; simp only [List.getElem?_toArray, List.getElem?_cons_zero, List.getElem?_cons_succ, Option.some.injEq] at ho; subst ho; refine ⟨?_, Or.inl ⟨by rfl, fun W hSW => ?_⟩, ?_⟩; rotate_left; (focus (go_simp; first | done | with_reducible rfl)); try simp only [Act.put, List.setIfInBounds_toArray, List.set_cons_zero, List.set_cons_succ])
      (refine wpSeq_mov rfl rfl ?_; intro o ho; simp only [List.getElem?_toArray, List.getElem?_cons_zero, List.getElem?_cons_succ, Option.some.injEq] at ho; subst ho; refine ⟨?_, Or.inl ⟨by rfl, fun W hSW => ?_⟩, ?_⟩; rotate_left; (focus (go_simp; first | done | with_reducible rfl)); try simp only [Act.put, List.setIfInBounds_toArray, List.set_cons_zero, List.set_cons_succ])
      (refine wpSeq_mov rfl rfl ?_; intro o ho; simp only [List.getElem?_toArray, List.getElem?_cons_zero, List.getElem?_cons_succ, Option.some.injEq] at ho; subst ho; refine ⟨?_, Or.inl ⟨by rfl, fun W hSW => ?_⟩, ?_⟩; rotate_left; (focus (go_simp; first | done | with_reducible rfl)); try simp only [Act.put, List.setIfInBounds_toArray, List.set_cons_zero, List.set_cons_succ])
      (refine wpSeq_mov rfl rfl ?_; intro o ho; simp only [List.getElem?_toArray, List.getElem?_cons_zero, List.getElem?_cons_succ, Option.some.injEq] at ho; subst ho; refine ⟨?_, Or.inl ⟨by rfl, fun W hSW => ?_⟩, ?_⟩; rotate_left; (focus (go_simp; first | done | with_reducible rfl)); try simp only [Act.put, List.setIfInBounds_toArray, List.set_cons_zero, List.set_cons_succ])
      (refine wpSeq_mov rfl rfl ?_; intro o ho; simp only [List.getElem?_toArray, List.getElem?_cons_zero, List.getElem?_cons_succ, Option.some.injEq] at ho; subst ho; refine ⟨?_, Or.inl ⟨by rfl, fun W hSW => ?_⟩, ?_⟩; rotate_left; (focus (go_simp; first | done | with_reducible rfl)); try simp only [Act.put, List.setIfInBounds_toArray, List.set_cons_zero, List.set_cons_succ])
      (refine wpSeq_mov rfl rfl ?_; intro o ho; simp only [List.getElem?_toArray, List.getElem?_cons_zero, List.getElem?_cons_succ, Option.some.injEq] at ho; subst ho; refine ⟨?_, Or.inl ⟨by rfl, fun W hSW => ?_⟩, ?_⟩; rotate_left; (focus (go_simp; first | done | with_reducible rfl)); try simp only [Act.put, List.setIfInBounds_toArray, List.set_cons_zero, List.set_cons_succ])
      (refine wpSeq_mov rfl rfl ?_; intro o ho; simp only [List.getElem?_toArray, List.getElem?_cons_zero, List.getElem?_cons_succ, Option.some.injEq] at ho; subst ho; refine ⟨?_, Or.inl ⟨by rfl, fun W hSW => ?_⟩, ?_⟩; rotate_left; (focus (go_simp; first | done | with_reducible rfl)); try simp only [Act.put, List.setIfInBounds_toArray, List.set_cons_zero, List.set_cons_succ])
      (refine wpSeq_mov rfl rfl ?_; intro o ho; simp only [List.getElem?_toArray, List.getElem?_cons_zero, List.getElem?_cons_succ, Option.some.injEq] at ho; subst ho; refine ⟨?_, Or.inl ⟨by rfl, fun W hSW => ?_⟩, ?_⟩; rotate_left; (focus (go_simp; first | done | with_reducible rfl)); try simp only [Act.put, List.setIfInBounds_toArray, List.set_cons_zero, List.set_cons_succ])
      (refine wpSeq_mov rfl rfl ?_; intro o ho; simp only [List.getElem?_toArray, List.getElem?_cons_zero, List.getElem?_cons_succ, Option.some.injEq] at ho; subst ho; refine ⟨?_, Or.inl ⟨by rfl, fun W hSW => ?_⟩, ?_⟩; rotate_left; (focus (go_simp; first | done | with_reducible rfl)); try simp only [Act.put, List.setIfInBounds_toArray, List.set_cons_zero, List.set_cons_succ])
      refine wpSeq_done ?_
      go_wp2_with fail
      go_roundw
      case rel => exact ⟨k + 1, by omega, by go_num, HL.out.step (stepD1 _)⟩
      case measure => simp [intOf]; omega
    · have hlt' : ¬ ((k : Int) < (xs.length : Int)) := by omega
      go_wp2_with fail
      go_ret
      exact Ret.mk rfl HL.out.b
end Go.Proofs.Ytbdhkagcbncefaa

set_option linter.unusedVariables false
set_option linter.unusedSimpArgs false
namespace Go.Proofs.Ytbdhkagcbncefaa
open Go.RowKit Go.Maps

/-! ### Literals turned by a bit -/
theorem xor_zero (a : Int) (h0 : 0 ≤ a) (h1 : a ≤ 9223372036854775807) : bits .xor .i64 a 0 = a := by
  obtain ⟨n, rfl⟩ := Int.eq_ofNat_of_zero_le h0
  have := xor_i64 n 0 (by omega) (by omega)
  rw [show ((0 : Nat) : Int) = 0 from rfl] at this
  rw [this, Nat.xor_zero]
theorem xor_turnP (x l : Int) (h0 : 0 ≤ x) (h1 : x ≤ 9223372036854775807) (hl : 0 ≤ l) : bits .xor .i64 x (l % 2) = turnP x l := by
  unfold turnP
  rcases (show l % 2 = 0 ∨ l % 2 = 1 by omega) with h | h
  · rw [h, if_neg (by omega)]
    exact xor_zero x h0 h1
  · rw [h, if_pos rfl]
    exact xor_flip x h0 h1
theorem litI_eq {is : List Int} {l x : Int} (h : is[(l / 2).toNat]? = some x) : litI is l = turnP x l := by
  unfold litI
  rw [h]
  rfl

/-- A graph that may be is one of numbers that fit. -/
theorem ok_of_right {g : Gr} (h : rightB g = true) : GOk g := by
  obtain ⟨⟨h1, h2, h3, h4⟩, hall, _⟩ := (right_iff g).1 h
  refine ⟨(wf_iff _).2 (by omega), by omega, fun p hp => ?_⟩
  obtain ⟨j, hj⟩ := List.getElem?_of_mem hp
  have hjl := (List.getElem?_eq_some_iff.1 hj).1
  obtain ⟨m1, m2, m3⟩ := (of_decide_eq_true (hall j p hj) : 2 ≤ p.2 ∧ p.2 / 2 < p.1 / 2 ∧ p.1 / 2 < g.n + 1 + j)
  exact ⟨(wf_iff _).2 (by omega), (wf_iff _).2 (by omega)⟩

/-! ### A closure that turns nothing that was there -/
set_option maxRecDepth 100000 in
set_option maxHeartbeats 1000000 in
theorem idx_low (F : FuncId) (hen : ∀ args w, (callFunc F args).run Try.prog w = .ok (.enter F args) w) (q : Option Addr) (p : Int → Bool) (l : List Int) (A : Option Addr) (c : Nat) (w : World) (hl : l.length ≤ 140737488355328) (hp : Vals w w.heap.size A (i64s l))
    (hF : ∀ x ∈ l, ∀ W, Low w W → Calls Try.prog F #[.int .i64 x, .pointer q] W (Ret W (.bool (p x)))) :
    Calls Try.prog 105 #[.slice A l.length c, .func (.func F) #[] #[.pointer q]] w (fun e w' => (∃ r : Int, e = .returned (.int .i64 r) ∧ decide (0 ≤ r) = l.any p) ∧ Below w.heap.size w w') := by
  have HP := Lib.hid hp
  have HF := Lib.hid hF
  clear hp hF
  go_enter Try.func105, Try.ntmps105
  go_wp2_with fail
  go_loopw [8] (fun s wr => ∃ k : Nat, k ≤ l.length ∧ s = .int .i64 k ∧ Hid (∀ i x, i < k → l[i]? = some x → p x = false) ∧ Low w wr) (fun s _ => l.length - (intOf s).toNat)
  case atStart => exact ⟨0, Nat.zero_le _, rfl, fun i x hi => by omega, Low.refl _⟩
  case round =>
    obtain ⟨k, hk, rfl, hall, hlow⟩ := hrel
    have HW := Lib.hid hlow
    clear hlow
    by_cases hlt : k < l.length
    · have hlt' : (k : Int) < (l.length : Int) := by omega
      obtain ⟨x, hxk⟩ : ∃ x, l[k]? = some x := ⟨_, List.getElem?_eq_getElem hlt⟩
      obtain ⟨b, o, rfl, _, q1⟩ := (HP.out.after HW.out.b) k _ (i64s_at hxk)
      have HK := Lib.hid hxk
      clear hxk
      go_wp2_with fail
      refine (HF.out x (List.mem_of_getElem? HK.out) _ HW.out).mono ?_
      rintro e w2 ⟨rfl, hb⟩
      have HW2 := Lib.hid (HW.out.step hb)
      clear hb
      cases hs : p x
      · have HS := Lib.hid hs
        clear hs
        go_wp2_with fail
        go_roundw
        case rel =>
          refine ⟨k + 1, by omega, by go_num, fun i x' hi hx' => ?_, HW2.out⟩
          rcases Nat.lt_or_ge i k with h | h
          · exact hall.out i x' h hx'
          · obtain rfl : i = k := by omega
            rw [HK.out] at hx'
            cases hx'
            exact HS.out
        case measure => simp [intOf]; omega
      · have HS := Lib.hid hs
        clear hs
        go_wp2_with fail
        go_ret
        refine ⟨⟨(k : Int), rfl, ?_⟩, HW2.out.b⟩
        rw [any_at HK.out HS.out, decide_eq_true (by omega)]
    · have hlt' : ¬ ((k : Int) < (l.length : Int)) := by omega
      go_wp2_with fail
      go_ret
      have hF : l.any p = false := any_take hall.out (by omega)
      exact ⟨⟨-1, rfl, by rw [hF]; rfl⟩, HW.out.b⟩

theorem has_low (F : FuncId) (hen : ∀ args w, (callFunc F args).run Try.prog w = .ok (.enter F args) w) (q : Option Addr) (p : Int → Bool) (l : List Int) (A : Option Addr) (c : Nat) (w : World) (hl : l.length ≤ 140737488355328) (hp : Vals w w.heap.size A (i64s l))
    (hF : ∀ x ∈ l, ∀ W, Low w W → Calls Try.prog F #[.int .i64 x, .pointer q] W (Ret W (.bool (p x)))) :
    Calls Try.prog 84 #[.slice A l.length c, .func (.func F) #[] #[.pointer q]] w (Ret w (.bool (l.any p))) := by
  have HP := Lib.hid hp
  have HF := Lib.hid hF
  clear hp hF
  go_enter Try.func84, Try.ntmps84
  go_wp2_with fail
  refine (idx_low F hen q p l A c _ hl HP.out HF.out).mono ?_
  rintro e w2 ⟨⟨r, rfl, hr⟩, hb⟩
  have HB := Lib.hid hb
  have HR := Lib.hid hr
  clear hb hr
  go_wp2_with fail
  go_ret
  exact ⟨by rw [← HR.out]; rfl, HB.out⟩

/-! ### Copy's closures -/
theorem en_copy1 : ∀ args w, (callFunc 94 args).run Try.prog w = .ok (.enter 94 args) w := fun _ _ => by
  simp [callFunc, go_sem, Try.func94, Try.f94]

theorem copy1_any (g : Gr) (x : Int) (b : Nat) (A : Option Addr) (c : Nat) (w : World) (hg : g.as.length ≤ 8796093022208) (hx : x ≤ 9223372036854775807) (c0 : w.cell? ⟨b, 0, none⟩ = some (.int .i64 g.n)) (c1 : w.cell? ⟨b, 1, none⟩ = some (.slice A g.as.length c)) :
    Calls Try.prog 94 #[.int .i64 x, .pointer (some ⟨b, 0, none⟩)] w (Ret w (.bool (!litB g x))) := by
  have hnot := @not_run Try.prog
  go_enter Try.func94, Try.ntmps94
  go_wp2_with fail
  refine (lit_any g x A c _ hg hx).mono ?_
  rintro e w1 ⟨rfl, hb⟩
  have HB := Lib.hid hb
  clear hb
  go_wp2_with fail
  go_ret
  exact ⟨rfl, HB.out⟩

theorem copy2_any (L : List Int) (l x : Int) (b g : Nat) (w : World) (l0 : 0 ≤ l) (l1 : l ≤ 9223372036854775807) (hx : L[(l / 2).toNat]? = some x) (x0 : 0 ≤ x) (x1 : x ≤ 9223372036854775807) (hc : w.cell? ⟨b, 0, none⟩ = some (.slice (some ⟨g, 0, none⟩) L.length L.length)) (hr : w.cell? ⟨g, (l / 2).toNat, none⟩ = some (.int .i64 x)) :
    Calls Try.prog 95 #[.int .i64 l, .pointer (some ⟨b, 0, none⟩)] w (fun e w' => e = .returned (.int .i64 (litI L l)) ∧ w' = w) := by
  have hlt := (List.getElem?_eq_some_iff.1 hx).1
  have HE : Hid (litI L l = turnP x l) := litI_eq hx
  have hd : 0 ≤ l / 2 := by omega
  have hd2 : l / 2 < (L.length : Int) := by omega
  have HX := Lib.hid hx
  clear hx
  go_enter Try.func95, Try.ntmps95
  go_wp2_with fail
  go_ret
  refine ⟨?_, rfl⟩
  refine congrArg Ending.returned ?_
  show Value.int .i64 (bits .xor .i64 x (bits .and .i64 l 1)) = _
  rw [and_one l l0 l1, xor_turnP x l x0 x1 l0, HE.out]

/-! ### What holds between Copy's rounds -/
structure CpSt (w : World) (Q : Nat → Prop) (bm : Nat) (fr : Gr) (A2 : Option Addr) (c2 : Nat) (ms : List Bool) (t : Gr) (A' : Option Addr) (c' : Nat) (wr : World) : Prop where
  low : Below w.heap.size w wr
  size : w.heap.size + 3 ≤ wr.heap.size
  bt : Blk wr w.heap.size 24 #[.int .i64 t.n, .slice A' t.as.length c']
  bf : Blk wr (w.heap.size + 1) 24 #[.int .i64 fr.n, .slice A2 fr.as.length c2]
  br : Blk wr (w.heap.size + 2) 24 #[.int .i64 0, .slice none 0 0]
  bm : Blk wr bm 4 (bools ms).toArray
  cap : t.as.length ≤ c'
  prs : PrsQ wr Q A' t.as

/-- Two blocks of unlike types are two. -/
theorem Blk.ne {w : World} {a b : Nat} {s t : TypeId} {cs ds : Array Value} (h : Blk w a s cs) (k : Blk w b t ds) (hne : s ≠ t) : a ≠ b := by
  rintro rfl
  unfold Blk at h k
  rw [h] at k
  injection k with k
  injection k with _ k2
  exact hne k2

section
variable {w : World} {Q : Nat → Prop} {bm : Nat} {fr : Gr} {A2 : Option Addr} {c2 : Nat} {ms : List Bool} {t : Gr} {A' : Option Addr} {c' : Nat} {wr wr' : World}
theorem CpSt.step (h : CpSt w Q bm fr A2 c2 ms t A' c' wr) (hb : Below wr.heap.size wr wr') : CpSt w Q bm fr A2 c2 ms t A' c' wr' :=
  ⟨below2 h.low h.low.size hb, Nat.le_trans h.size hb.size, h.bt.below hb h.bt.lt, h.bf.below hb h.bf.lt, h.br.below hb h.br.lt, h.bm.below hb h.bm.lt, h.cap, h.prs.below hb⟩
theorem CpSt.far (h : CpSt w Q bm fr A2 c2 ms t A' c' wr) {g : Nat} {e : TypeId} {cs : Array Value} (hg : Blk wr g e cs) (hg0 : w.heap.size + 3 ≤ g) (he : e ≠ 4) (hq : ¬ Q g) (i : Nat) (u : Value) : CpSt w Q bm fr A2 c2 ms t A' c' (wr.setCell ⟨g, i, none⟩ u) :=
  ⟨h.low.setCell (p := ⟨g, i, none⟩) (by simp; omega) _, by simpa using h.size, h.bt.far (p := ⟨g, i, none⟩) (by simp; omega) _, h.bf.far (p := ⟨g, i, none⟩) (by simp; omega) _, h.br.far (p := ⟨g, i, none⟩) (by simp; omega) _,
    h.bm.far (p := ⟨g, i, none⟩) (h.bm.ne hg (Ne.symm he)) _, h.cap, h.prs.setCell (fun b hb e => hq (by subst e; exact hb)) u⟩
theorem CpSt.put (h : CpSt w Q bm fr A2 c2 ms t A' c' wr) (hq : ¬ Q w.heap.size) {t2 : Gr} {A3 : Option Addr} {c3 : Nat} (hc : t2.as.length ≤ c3) (hp : PrsQ wr Q A3 t2.as) :
    CpSt w Q bm fr A2 c2 ms t2 A3 c3 ((wr.setCell ⟨w.heap.size, 0, none⟩ (.int .i64 t2.n)).setCell ⟨w.heap.size, 1, none⟩ (.slice A3 t2.as.length c3)) := by
  have hne : bm ≠ w.heap.size := h.bm.ne h.bt (by decide)
  refine ⟨(h.low.setCell (p := ⟨w.heap.size, 0, none⟩) (by simp) _).setCell (p := ⟨w.heap.size, 1, none⟩) (by simp) _, by simpa using h.size, ?_, (h.bf.far (p := ⟨w.heap.size, 0, none⟩) (by simp) _).far (p := ⟨w.heap.size, 1, none⟩) (by simp) _,
    (h.br.far (p := ⟨w.heap.size, 0, none⟩) (by simp) _).far (p := ⟨w.heap.size, 1, none⟩) (by simp) _, (h.bm.far (p := ⟨w.heap.size, 0, none⟩) hne _).far (p := ⟨w.heap.size, 1, none⟩) hne _, hc, ?_⟩
  · have := (h.bt.set_ 0 (.int .i64 t2.n)).set_ 1 (.slice A3 t2.as.length c3)
    simpa using this
  · exact (hp.setCell (fun b hb e => hq (by subst e; exact hb)) _).setCell (fun b hb e => hq (by subst e; exact hb)) _
theorem CpSt.imp {Q' : Nat → Prop} (h : CpSt w Q bm fr A2 c2 ms t A' c' wr) (hq : ∀ b, Q b → b < wr.heap.size → Q' b) : CpSt w Q' bm fr A2 c2 ms t A' c' wr :=
  ⟨h.low, h.size, h.bt, h.bf, h.br, h.bm, h.cap, h.prs.imp hq⟩
end
end Go.Proofs.Ytbdhkagcbncefaa

namespace Go.Proofs.Ytbdhkagcbncefaa
open Go.RowKit Go

section
variable {P : Program} {ops : Array Oper} {Q : Exit → Act → World → Prop} {md : Region.Mode} {S R : World → Prop} {late lateR mov movR : Nat → Bool}

/-- Whatever order is picked from here on; each operation that does not end S (or R) keeps it. -/
def wpAnyG (P : Program) (md : Region.Mode) (ops : Array Oper) (Q : Exit → Act → World → Prop) (S R : World → Prop) (late lateR : Nat → Bool) : Nat → Array Bool → Act → World → Prop
  | 0, listed, a, w => Region.ready md ops listed = [] ∧ Q .normal a w
  | fuel + 1, listed, a, w =>
    (Region.ready md ops listed = [] → Q .normal a w) ∧
    ∀ i ∈ Region.ready md ops listed, wpOp P ops Q i (fun a' w' => (late i = false → S w → S w') ∧ (lateR i = false → R w → R w') ∧ wpAnyG P md ops Q S R late lateR fuel (listed.setIfInBounds i true) a' w') a w

theorem wpAny_of_G : ∀ (fuel : Nat) (listed : Array Bool) (a : Act) (w : World), wpAnyG P md ops Q S R late lateR fuel listed a w → wpAny P md ops Q fuel listed a w
  | 0, _, _, _, h => h
  | fuel + 1, _, _, _, h => ⟨h.1, fun i hi => wpOp_mono (fun a' w' h' => wpAny_of_G fuel _ a' w' h'.2.2) (h.2 i hi)⟩

theorem wpAnyG_swap : ∀ (fuel : Nat) (listed : Array Bool) (a : Act) (w : World), wpAnyG P md ops Q S R late lateR fuel listed a w → wpAnyG P md ops Q R S lateR late fuel listed a w
  | 0, _, _, _, h => h
  | fuel + 1, _, _, _, h => ⟨h.1, fun i hi => wpOp_mono (fun a' w' h' => ⟨h'.2.1, h'.1, wpAnyG_swap fuel _ a' w' h'.2.2⟩) (h.2 i hi)⟩

theorem wpAnyG_first {i : Nat} {oi : Oper} {v : Value} (hi : ops[i]? = some oi) (hsel : ∀ (j : Nat) (o : Oper) cs b, ops[j]? = some o → o.op ≠ .select cs b)
    (hQ : ∀ c a w, Q (.panic c) (a.put oi.dst v) w → Q (.panic c) a w)
    (hlate : ∀ j, late j = true → Region.waitsFor md ops j i = true) :
    ∀ (fuel : Nat) (listed : Array Bool) (a : Act) (w : World),
      (∀ j oj, ops[j]? = some oj → j ≠ i → listed.getD j true = false → (∀ e ∈ oj.after, Region.binds md e = true → e.on ≠ i) → oi.apart ops oj = true) →
      i ∈ Region.ready md ops listed → YieldsIf P ops S oi v a → S w →
      wpAnyG P md ops Q S R late lateR fuel (listed.setIfInBounds i true) (a.put oi.dst v) w → wpAnyG P md ops Q S R late lateR (fuel + 1) listed a w := by
  intro fuel
  induction fuel with
  | zero =>
    intro listed a w _ hr hy hS H
    refine ⟨fun h => (by rw [h] at hr; cases hr), fun j hj => ?_⟩
    by_cases hji : j = i
    · subst hji; exact hy.wpOp hi hS ⟨fun _ h => h, fun _ h => h, H⟩
    · have := ready_mono hj hji
      rw [H.1] at this
      cases this
  | succ fuel ih =>
    intro listed a w hfree hr hy hS H
    refine ⟨fun h => (by rw [h] at hr; cases hr), fun j hj => ?_⟩
    by_cases hji : j = i
    · subst hji; exact hy.wpOp hi hS ⟨fun _ h => h, fun _ h => h, H⟩
    · have h1 := H.2 j (ready_mono hj hji)
      obtain ⟨hjun, oj, hoj, hall⟩ := mem_ready.1 hj
      have hnot : ∀ e ∈ oj.after, Region.binds md e = true → e.on ≠ i := fun e he hb heq => by
        have h1 := hall e he hb
        have h0 := (mem_ready.1 hr).1
        rw [heq] at h1
        rcases Nat.lt_or_ge i listed.size with h' | h'
        · simp [h'] at h0 h1; rw [h0] at h1; cases h1
        · simp [Array.getElem?_eq_none h'] at h1
      have hl : late j = false := by
        cases hl : late j with
        | false => rfl
        | true =>
          obtain ⟨o2, ho2, e, he, hb, heq⟩ := Region.waitsFor_spec (hlate j hl)
          rw [hoj] at ho2
          cases ho2
          exact absurd heq (hnot e he hb)
      have h2 := wpOp_putIf hoj (hfree j oj hoj hji hjun hnot) (fun cs b => hsel i oi cs b hi) (fun cs b => hsel j oj cs b hoj) hQ hy h1
      have hfree' : ∀ k ok, ops[k]? = some ok → k ≠ i → (listed.setIfInBounds j true).getD k true = false →
          (∀ e ∈ ok.after, Region.binds md e = true → e.on ≠ i) → oi.apart ops ok = true := fun k ok hk hki hun hno => by
        refine hfree k ok hk hki ?_ hno
        by_cases hjk : j = k
        · subst hjk; exact hjun
        · rw [getD_set_ne true hjk] at hun; exact hun
      refine wpOp_mono (fun a' w' h3 => ⟨h3.2.1, h3.2.2.1, ih (listed.setIfInBounds j true) a' w' hfree' (ready_mono hr (Ne.symm hji)) h3.1 (h3.2.1 hl hS) ?_⟩) h2
      rw [Array.setIfInBounds_comm _ _ hji]
      exact h3.2.2.2

/-- The region's operations in an order of ours. -/
def wpSeqG (P : Program) (ops : Array Oper) (Q : Exit → Act → World → Prop) (S R : World → Prop) (mov movR late lateR : Nat → Bool) : List Nat → Act → World → Prop
  | [], a, w => Q .normal a w
  | i :: is, a, w =>
    (mov i = true ∧ ∃ o v, ops[i]? = some o ∧ YieldsIf P ops S o v a ∧ wpSeqG P ops Q S R mov movR late lateR is (a.put o.dst v) w) ∨
    (mov i = false ∧ movR i = true ∧ ∃ o v, ops[i]? = some o ∧ YieldsIf P ops R o v a ∧ wpSeqG P ops Q S R mov movR late lateR is (a.put o.dst v) w) ∨
    (mov i = false ∧ movR i = false ∧ wpOp P ops Q i (fun a' w' => (late i = false → S w → S w') ∧ (lateR i = false → R w → R w') ∧ wpSeqG P ops Q S R mov movR late lateR is a' w') a w)

/-- Is our order one that serves? -/
def seqGB (md : Region.Mode) (ops : Array Oper) (mov movR late lateR : Nat → Bool) : Bool → Bool → List Nat → Array Bool → Bool
  | _, _, [], listed => (Region.ready md ops listed).isEmpty
  | f, g, i :: is, listed =>
    bif mov i then f && ((Region.ready md ops listed).contains i && (Region.free md ops listed i && ((List.range ops.size).all (fun j => !late j || Region.waitsFor md ops j i) && seqGB md ops mov movR late lateR f g is (listed.setIfInBounds i true))))
    else bif movR i then g && ((Region.ready md ops listed).contains i && (Region.free md ops listed i && ((List.range ops.size).all (fun j => !lateR j || Region.waitsFor md ops j i) && seqGB md ops mov movR late lateR f g is (listed.setIfInBounds i true))))
    else (Region.ready md ops listed == [i]) && seqGB md ops mov movR late lateR (f && !late i) (g && !lateR i) is (listed.setIfInBounds i true)

theorem wpAnyG_seq (hsel : Region.noSelect ops = true) (hlt : ∀ j, late j = true → j < ops.size) (hltR : ∀ j, lateR j = true → j < ops.size) (hQ : ∀ c a d v w, Q (.panic c) (Act.put a d v) w → Q (.panic c) a w) :
    ∀ (is : List Nat) (f g : Bool) (listed : Array Bool) (a : Act) (w : World), seqGB md ops mov movR late lateR f g is listed = true → (f = true → S w) → (g = true → R w) → wpSeqG P ops Q S R mov movR late lateR is a w → wpAnyG P md ops Q S R late lateR is.length listed a w
  | [], f, g, listed, a, w, hb, _, _, h => ⟨by simpa [seqGB] using hb, h⟩
  | i :: is, f, g, listed, a, w, hb, hf, hg, h => by
    rcases h with ⟨hm, o, v, ho, hy, h⟩ | ⟨hm, hmR, o, v, ho, hy, h⟩ | ⟨hm, hmR, h⟩
    · rw [seqGB, hm] at hb
      simp only [cond_true, Bool.and_eq_true] at hb
      obtain ⟨hf1, hr, hfr, hl, hb⟩ := hb
      refine wpAnyG_first ho (Region.noSelect_spec hsel) (fun c a w h => hQ c a _ v w h) (fun j hj => ?_) is.length listed a w (Region.free_spec ho hfr) (by simpa using hr) hy (hf hf1) ?_
      · have := List.all_eq_true.1 hl j (List.mem_range.2 (hlt j hj))
        rw [hj] at this
        simpa using this
      · exact wpAnyG_seq hsel hlt hltR hQ is f g _ _ _ hb hf hg h
    · rw [seqGB, hm, hmR] at hb
      simp only [cond_true, cond_false, Bool.and_eq_true] at hb
      obtain ⟨hg1, hr, hfr, hl, hb⟩ := hb
      refine wpAnyG_swap _ _ _ _ (wpAnyG_first ho (Region.noSelect_spec hsel) (fun c a w h => hQ c a _ v w h) (fun j hj => ?_) is.length listed a w (Region.free_spec ho hfr) (by simpa using hr) hy (hg hg1) (wpAnyG_swap _ _ _ _ ?_))
      · have := List.all_eq_true.1 hl j (List.mem_range.2 (hltR j hj))
        rw [hj] at this
        simpa using this
      · exact wpAnyG_seq hsel hlt hltR hQ is f g _ _ _ hb hf hg h
    · rw [seqGB, hm, hmR] at hb
      simp only [cond_false, Bool.and_eq_true, beq_iff_eq] at hb
      obtain ⟨hr, hb⟩ := hb
      refine ⟨fun h0 => (by rw [hr] at h0; cases h0), fun j hj => ?_⟩
      rw [hr] at hj
      obtain rfl : j = i := by simpa using hj
      refine wpOp_mono (fun a' w' h3 => ⟨h3.1, h3.2.1, wpAnyG_seq hsel hlt hltR hQ is (f && !late j) (g && !lateR j) _ a' w' hb (fun h4 => ?_) (fun h4 => ?_) h3.2.2⟩) h
      · simp only [Bool.and_eq_true, Bool.not_eq_true'] at h4
        exact h3.1 h4.2 (hf h4.1)
      · simp only [Bool.and_eq_true, Bool.not_eq_true'] at h4
        exact h3.2.1 h4.2 (hg h4.1)

theorem wp_region_seqG {id : Nat} {a : Act} {w : World} (S R : World → Prop) (order movs movRs lates lateRs : List Nat) (hm : P.follows .mixedOrders = true) (hsel : Region.noSelect ops = true)
    (hn : order.length = ops.size) (hlt : lates.all (fun j => decide (j < ops.size)) = true) (hltR : lateRs.all (fun j => decide (j < ops.size)) = true)
    (hb : seqGB .any ops (fun i => movs.contains i) (fun i => movRs.contains i) (fun i => lates.contains i) (fun i => lateRs.contains i) true true order (Array.replicate ops.size false) = true)
    (hQ : ∀ c a d v w, Q (.panic c) (Act.put a d v) w → Q (.panic c) a w)
    (hS : S w.drew ∧ R w.drew) (h : S w.drew → R w.drew → wpSeqG P ops Q S R (fun i => movs.contains i) (fun i => movRs.contains i) (fun i => lates.contains i) (fun i => lateRs.contains i) order a w.drew) : (Code.region id ops true).wp P Q a w := by
  refine wp_region_any hm (wpAny_of_G (S := S) (R := R) (late := fun i => lates.contains i) (lateR := fun i => lateRs.contains i) _ _ _ _ ?_)
  rw [← hn]
  refine wpAnyG_seq (mov := fun i => movs.contains i) (movR := fun i => movRs.contains i) hsel (fun j hj => ?_) (fun j hj => ?_) hQ order true true _ a _ (by rw [hn]; exact hb) (fun _ => hS.1) (fun _ => hS.2) (h hS.1 hS.2)
  · have := List.all_eq_true.1 hlt j (by simpa using hj)
    simpa using this
  · have := List.all_eq_true.1 hltR j (by simpa using hj)
    simpa using this

theorem wpSeqG_done {a : Act} {w : World} (h : Q .normal a w) : wpSeqG P ops (NoPanic Q) S R mov movR late lateR [] a w := NoPanic.normal h
theorem wpSeqG_mov {i : Nat} {is : List Nat} {a : Act} {w : World} (hm : mov i = true) (hi : (ops[i]?).isSome = true) (h : ∀ o, ops[i]? = some o → ∃ v, YieldsIf P ops S o v a ∧ wpSeqG P ops Q S R mov movR late lateR is (a.put o.dst v) w) : wpSeqG P ops Q S R mov movR late lateR (i :: is) a w := by
  obtain ⟨o, ho⟩ := Option.isSome_iff_exists.1 hi
  obtain ⟨v, hy, h⟩ := h o ho
  exact .inl ⟨hm, o, v, ho, hy, h⟩
theorem wpSeqG_movR {i : Nat} {is : List Nat} {a : Act} {w : World} (hm : mov i = false) (hmR : movR i = true) (hi : (ops[i]?).isSome = true) (h : ∀ o, ops[i]? = some o → ∃ v, YieldsIf P ops R o v a ∧ wpSeqG P ops Q S R mov movR late lateR is (a.put o.dst v) w) : wpSeqG P ops Q S R mov movR late lateR (i :: is) a w := by
  obtain ⟨o, ho⟩ := Option.isSome_iff_exists.1 hi
  obtain ⟨v, hy, h⟩ := h o ho
  exact .inr (.inl ⟨hm, hmR, o, v, ho, hy, h⟩)
theorem wpSeqG_fix {i : Nat} {is : List Nat} {a : Act} {w : World} (hm : mov i = false) (hmR : movR i = false) (hi : (ops[i]?).isSome = true)
    (h : ∀ o, ops[i]? = some o → ∀ K' : Act → World → Prop, Shut (∀ a w', (late i = false → S w → S w') → (lateR i = false → R w → R w') → wpSeqG P ops Q S R mov movR late lateR is a w' → K' a w') → if Region.wanted o (yielded ops a.tmps) = true then Oper.wp P o a w K' Q else K' (a.put o.dst undef) w) : wpSeqG P ops Q S R mov movR late lateR (i :: is) a w := by
  obtain ⟨o, ho⟩ := Option.isSome_iff_exists.1 hi
  exact .inr (.inr ⟨hm, hmR, wpOp_step ho (fun K' hK => h o ho K' (fun a w' h1 h2 h3 => hK a w' ⟨h1, h2, h3⟩))⟩)
end
/-- An order, with forks: where two operations are ready that do not commute, both ways. -/
inductive Ord where
  | done : Ord
  | step : Nat → Ord → Ord
  | fork : Nat → Ord → Nat → Ord → Ord

def Ord.ofList : List Nat → Ord → Ord
  | [], o => o
  | i :: is, o => .step i (Ord.ofList is o)

/-- All ways are so long. -/
def Ord.long : Ord → Nat → Bool
  | .done, n => n == 0
  | .step _ o, n => match n with
    | 0 => false
    | n + 1 => o.long n
  | .fork _ o _ p, n => match n with
    | 0 => false
    | n + 1 => o.long n && p.long n

section
variable {P : Program} {ops : Array Oper} {Q : Exit → Act → World → Prop} {md : Region.Mode} {S R : World → Prop} {late lateR mov movR : Nat → Bool}

/-- What an operation that stays in its place has to show. -/
abbrev fixW (P : Program) (ops : Array Oper) (Q : Exit → Act → World → Prop) (S R : World → Prop) (late lateR : Nat → Bool) (i : Nat) (K : Act → World → Prop) (a : Act) (w : World) : Prop :=
  wpOp P ops Q i (fun a' w' => (late i = false → S w → S w') ∧ (lateR i = false → R w → R w') ∧ K a' w') a w

def wpTree (P : Program) (ops : Array Oper) (Q : Exit → Act → World → Prop) (S R : World → Prop) (mov movR late lateR : Nat → Bool) : Ord → Act → World → Prop
  | .done, a, w => Q .normal a w
  | .step i is, a, w =>
    (mov i = true ∧ ∃ o v, ops[i]? = some o ∧ YieldsIf P ops S o v a ∧ wpTree P ops Q S R mov movR late lateR is (a.put o.dst v) w) ∨
    (mov i = false ∧ movR i = true ∧ ∃ o v, ops[i]? = some o ∧ YieldsIf P ops R o v a ∧ wpTree P ops Q S R mov movR late lateR is (a.put o.dst v) w) ∨
    (mov i = false ∧ movR i = false ∧ fixW P ops Q S R late lateR i (wpTree P ops Q S R mov movR late lateR is) a w)
  | .fork i is j js, a, w => fixW P ops Q S R late lateR i (wpTree P ops Q S R mov movR late lateR is) a w ∧ fixW P ops Q S R late lateR j (wpTree P ops Q S R mov movR late lateR js) a w

def treeB (md : Region.Mode) (ops : Array Oper) (mov movR late lateR : Nat → Bool) : Bool → Bool → Ord → Array Bool → Bool
  | _, _, .done, listed => (Region.ready md ops listed).isEmpty
  | f, g, .step i is, listed =>
    bif mov i then f && ((Region.ready md ops listed).contains i && (Region.free md ops listed i && ((List.range ops.size).all (fun j => !late j || Region.waitsFor md ops j i) && treeB md ops mov movR late lateR f g is (listed.setIfInBounds i true))))
    else bif movR i then g && ((Region.ready md ops listed).contains i && (Region.free md ops listed i && ((List.range ops.size).all (fun j => !lateR j || Region.waitsFor md ops j i) && treeB md ops mov movR late lateR f g is (listed.setIfInBounds i true))))
    else (Region.ready md ops listed == [i]) && treeB md ops mov movR late lateR (f && !late i) (g && !lateR i) is (listed.setIfInBounds i true)
  | f, g, .fork i is j js, listed => (Region.ready md ops listed == [i, j]) && (treeB md ops mov movR late lateR (f && !late i) (g && !lateR i) is (listed.setIfInBounds i true) && treeB md ops mov movR late lateR (f && !late j) (g && !lateR j) js (listed.setIfInBounds j true))

theorem wpAnyG_tree (hsel : Region.noSelect ops = true) (hlt : ∀ j, late j = true → j < ops.size) (hltR : ∀ j, lateR j = true → j < ops.size) (hQ : ∀ c a d v w, Q (.panic c) (Act.put a d v) w → Q (.panic c) a w) :
    ∀ (is : Ord) (n : Nat) (f g : Bool) (listed : Array Bool) (a : Act) (w : World), is.long n = true → treeB md ops mov movR late lateR f g is listed = true → (f = true → S w) → (g = true → R w) → wpTree P ops Q S R mov movR late lateR is a w → wpAnyG P md ops Q S R late lateR n listed a w
  | .done, n, f, g, listed, a, w, hn, hb, _, _, h => by
    have hn' : n = 0 := by simpa [Ord.long] using hn
    subst hn'
    exact ⟨by simpa [treeB] using hb, h⟩
  | .step i is, 0, f, g, listed, a, w, hn, hb, hf, hg, h => by simp [Ord.long] at hn
  | .step i is, n + 1, f, g, listed, a, w, hn, hb, hf, hg, h => by
    have hn' : is.long n = true := hn
    rcases h with ⟨hm, o, v, ho, hy, h⟩ | ⟨hm, hmR, o, v, ho, hy, h⟩ | ⟨hm, hmR, h⟩
    · rw [treeB, hm] at hb
      simp only [cond_true, Bool.and_eq_true] at hb
      obtain ⟨hf1, hr, hfr, hl, hb⟩ := hb
      refine wpAnyG_first ho (Region.noSelect_spec hsel) (fun c a w h => hQ c a _ v w h) (fun j hj => ?_) n listed a w (Region.free_spec ho hfr) (by simpa using hr) hy (hf hf1) ?_
      · have := List.all_eq_true.1 hl j (List.mem_range.2 (hlt j hj))
        rw [hj] at this
        simpa using this
      · exact wpAnyG_tree hsel hlt hltR hQ is n f g _ _ _ hn' hb hf hg h
    · rw [treeB, hm, hmR] at hb
      simp only [cond_true, cond_false, Bool.and_eq_true] at hb
      obtain ⟨hg1, hr, hfr, hl, hb⟩ := hb
      refine wpAnyG_swap _ _ _ _ (wpAnyG_first ho (Region.noSelect_spec hsel) (fun c a w h => hQ c a _ v w h) (fun j hj => ?_) n listed a w (Region.free_spec ho hfr) (by simpa using hr) hy (hg hg1) (wpAnyG_swap _ _ _ _ ?_))
      · have := List.all_eq_true.1 hl j (List.mem_range.2 (hltR j hj))
        rw [hj] at this
        simpa using this
      · exact wpAnyG_tree hsel hlt hltR hQ is n f g _ _ _ hn' hb hf hg h
    · rw [treeB, hm, hmR] at hb
      simp only [cond_false, Bool.and_eq_true, beq_iff_eq] at hb
      obtain ⟨hr, hb⟩ := hb
      refine ⟨fun h0 => (by rw [hr] at h0; cases h0), fun j hj => ?_⟩
      rw [hr] at hj
      obtain rfl : j = i := by simpa using hj
      refine wpOp_mono (fun a' w' h3 => ⟨h3.1, h3.2.1, wpAnyG_tree hsel hlt hltR hQ is n (f && !late j) (g && !lateR j) _ a' w' hn' hb (fun h4 => ?_) (fun h4 => ?_) h3.2.2⟩) h
      · simp only [Bool.and_eq_true, Bool.not_eq_true'] at h4
        exact h3.1 h4.2 (hf h4.1)
      · simp only [Bool.and_eq_true, Bool.not_eq_true'] at h4
        exact h3.2.1 h4.2 (hg h4.1)
  | .fork i is k js, 0, f, g, listed, a, w, hn, hb, hf, hg, h => by simp [Ord.long] at hn
  | .fork i is k js, n + 1, f, g, listed, a, w, hn, hb, hf, hg, h => by
    have hn' : (is.long n && js.long n) = true := hn
    rw [Bool.and_eq_true] at hn'
    rw [treeB] at hb
    simp only [Bool.and_eq_true, beq_iff_eq] at hb
    obtain ⟨hr, hb1, hb2⟩ := hb
    refine ⟨fun h0 => (by rw [hr] at h0; cases h0), fun j hj => ?_⟩
    rw [hr] at hj
    have hj' : j = i ∨ j = k := by simpa using hj
    rcases hj' with rfl | rfl
    · refine wpOp_mono (fun a' w' h3 => ⟨h3.1, h3.2.1, wpAnyG_tree hsel hlt hltR hQ is n (f && !late j) (g && !lateR j) _ a' w' hn'.1 hb1 (fun h4 => ?_) (fun h4 => ?_) h3.2.2⟩) h.1
      · simp only [Bool.and_eq_true, Bool.not_eq_true'] at h4
        exact h3.1 h4.2 (hf h4.1)
      · simp only [Bool.and_eq_true, Bool.not_eq_true'] at h4
        exact h3.2.1 h4.2 (hg h4.1)
    · refine wpOp_mono (fun a' w' h3 => ⟨h3.1, h3.2.1, wpAnyG_tree hsel hlt hltR hQ js n (f && !late j) (g && !lateR j) _ a' w' hn'.2 hb2 (fun h4 => ?_) (fun h4 => ?_) h3.2.2⟩) h.2
      · simp only [Bool.and_eq_true, Bool.not_eq_true'] at h4
        exact h3.1 h4.2 (hf h4.1)
      · simp only [Bool.and_eq_true, Bool.not_eq_true'] at h4
        exact h3.2.1 h4.2 (hg h4.1)

theorem wp_region_tree {id : Nat} {a : Act} {w : World} (S R : World → Prop) (order : Ord) (movs movRs lates lateRs : List Nat) (hm : P.follows .mixedOrders = true) (hsel : Region.noSelect ops = true)
    (hn : order.long ops.size = true) (hlt : lates.all (fun j => decide (j < ops.size)) = true) (hltR : lateRs.all (fun j => decide (j < ops.size)) = true)
    (hb : treeB .any ops (fun i => movs.contains i) (fun i => movRs.contains i) (fun i => lates.contains i) (fun i => lateRs.contains i) true true order (Array.replicate ops.size false) = true)
    (hQ : ∀ c a d v w, Q (.panic c) (Act.put a d v) w → Q (.panic c) a w)
    (hS : S w.drew ∧ R w.drew) (h : S w.drew → R w.drew → wpTree P ops Q S R (fun i => movs.contains i) (fun i => movRs.contains i) (fun i => lates.contains i) (fun i => lateRs.contains i) order a w.drew) : (Code.region id ops true).wp P Q a w := by
  refine wp_region_any hm (wpAny_of_G (S := S) (R := R) (late := fun i => lates.contains i) (lateR := fun i => lateRs.contains i) _ _ _ _ ?_)
  refine wpAnyG_tree (mov := fun i => movs.contains i) (movR := fun i => movRs.contains i) hsel (fun j hj => ?_) (fun j hj => ?_) hQ order _ true true _ a _ hn hb (fun _ => hS.1) (fun _ => hS.2) (h hS.1 hS.2)
  · have := List.all_eq_true.1 hlt j (by simpa using hj)
    simpa using this
  · have := List.all_eq_true.1 hltR j (by simpa using hj)
    simpa using this

theorem wpTree_done {a : Act} {w : World} (h : Q .normal a w) : wpTree P ops (NoPanic Q) S R mov movR late lateR .done a w := NoPanic.normal h
theorem wpTree_mov {i : Nat} {is : Ord} {a : Act} {w : World} (hm : mov i = true) (hi : (ops[i]?).isSome = true) (h : ∀ o, ops[i]? = some o → ∃ v, YieldsIf P ops S o v a ∧ wpTree P ops Q S R mov movR late lateR is (a.put o.dst v) w) : wpTree P ops Q S R mov movR late lateR (.step i is) a w := by
  obtain ⟨o, ho⟩ := Option.isSome_iff_exists.1 hi
  obtain ⟨v, hy, h⟩ := h o ho
  exact .inl ⟨hm, o, v, ho, hy, h⟩
theorem wpTree_movR {i : Nat} {is : Ord} {a : Act} {w : World} (hm : mov i = false) (hmR : movR i = true) (hi : (ops[i]?).isSome = true) (h : ∀ o, ops[i]? = some o → ∃ v, YieldsIf P ops R o v a ∧ wpTree P ops Q S R mov movR late lateR is (a.put o.dst v) w) : wpTree P ops Q S R mov movR late lateR (.step i is) a w := by
  obtain ⟨o, ho⟩ := Option.isSome_iff_exists.1 hi
  obtain ⟨v, hy, h⟩ := h o ho
  exact .inr (.inl ⟨hm, hmR, o, v, ho, hy, h⟩)
theorem fixW_of {i : Nat} {a : Act} {w : World} {K : Act → World → Prop} (hi : (ops[i]?).isSome = true)
    (h : ∀ o, ops[i]? = some o → ∀ K' : Act → World → Prop, Shut (∀ a w', (late i = false → S w → S w') → (lateR i = false → R w → R w') → K a w' → K' a w') → if Region.wanted o (yielded ops a.tmps) = true then Oper.wp P o a w K' Q else K' (a.put o.dst undef) w) : fixW P ops Q S R late lateR i K a w := by
  obtain ⟨o, ho⟩ := Option.isSome_iff_exists.1 hi
  exact wpOp_step ho (fun K' hK => h o ho K' (fun a w' h1 h2 h3 => hK a w' ⟨h1, h2, h3⟩))
theorem wpTree_fix {i : Nat} {is : Ord} {a : Act} {w : World} (hm : mov i = false) (hmR : movR i = false) (hi : (ops[i]?).isSome = true)
    (h : ∀ o, ops[i]? = some o → ∀ K' : Act → World → Prop, Shut (∀ a w', (late i = false → S w → S w') → (lateR i = false → R w → R w') → wpTree P ops Q S R mov movR late lateR is a w' → K' a w') → if Region.wanted o (yielded ops a.tmps) = true then Oper.wp P o a w K' Q else K' (a.put o.dst undef) w) : wpTree P ops Q S R mov movR late lateR (.step i is) a w :=
  .inr (.inr ⟨hm, hmR, fixW_of hi h⟩)
theorem wpTree_fork {i j : Nat} {is js : Ord} {a : Act} {w : World} (h : fixW P ops Q S R late lateR i (wpTree P ops Q S R mov movR late lateR is) a w) (h' : fixW P ops Q S R late lateR j (wpTree P ops Q S R mov movR late lateR js) a w) : wpTree P ops Q S R mov movR late lateR (.fork i is j js) a w := ⟨h, h'⟩
end
end Go.Proofs.Ytbdhkagcbncefaa

set_option linter.unusedVariables false
set_option linter.unusedSimpArgs false
namespace Go.Proofs.Ytbdhkagcbncefaa
open Go.RowKit Go.Maps

/-- A row of numbers, all nought. -/
theorem make_zeros (C : Int) (h1 : 0 ≤ C) (h2 : C ≤ 4001) : ∃ (V : Nat) (cs : Array Value), (V : Int) = C ∧ cs = (i64s (List.replicate V 0)).toArray ∧
    ∀ w : World, (Instr.makeSlice 26 (.int .i64 C) (.int .i64 C)).run Try.prog w = .ok (.slice (some ⟨w.heap.size, 0, none⟩) V V) (w.alloc (.cells cs 3)) := by
  refine ⟨C.toNat, _, by omega, rfl, fun w => ?_⟩
  obtain ⟨i, hi, hz, hs, hb⟩ := info_parts intInfo
  have hr := run_make (P := Try.prog) w 26 3 i (.int .i64 0) Try.underlying26 hi hz .i64 .i64 C C h1 (Int.le_refl _) (by rw [hb]; omega) (by omega)
  rw [hs, Nat.mul_one] at hr
  have e : madeCells (Value.int .i64 0).cells C.toNat = (i64s (List.replicate C.toNat 0)).toArray := by
    apply Array.ext'
    apply List.ext_getElem?
    intro i
    simp [madeCells, i64s, Value.cells, List.getElem?_replicate, List.getElem?_range]
    split <;> simp_all [Nat.mod_one]
  rw [e] at hr
  exact hr

/-- copy into a row of the call's own: the row is spliced, no other block turns. -/
theorem wpList_copy_mine {P : Program} {w : World} {ops : Array Oper} {rest : List Oper} {o : Oper} {a : Act} {Q : Exit → Act → World → Prop} (hgd : o.guard = none) (d s : Operand) (dT sT : TypeId)
    (ho : o.op = .call { callee := .builtin .copy, args := #[d, s], argTypes := #[dT, sT] }) (elem : TypeId) (hu : P.underlying dT = some (.slice elem)) (hsz : (P.info? elem).map (·.size) = some 1)
    (dp sp : Option Addr) (dLen dCap sLen sCap : Nat) (hd : a.eval d = .slice dp dLen dCap) (hs : a.eval s = .slice sp sLen sCap)
    (g off : Nat) (cur : List Value) (t : TypeId) (hg : Blk w g t cur.toArray) (cs : List Value) (hn : cs.length = Nat.min sLen dLen)
    (hpos : 0 < cs.length → dp = some ⟨g, off, none⟩ ∧ ∃ ad, sp = some ad ∧ ∀ j v, cs[j]? = some v → w.cell? (ad.add j) = some v)
    (hfit : off + cs.length ≤ cur.length) (h1 : ∀ v ∈ cs, v.oneCell' = true)
    (h : ∀ w', Hid (Blk w' g t (splice cur off cs).toArray) → w.grownBy w' (some g) → wpList P ops Q rest (a.put o.dst (goInt cs.length)) w') :
    wpList P ops Q (o :: rest) a w := by
  by_cases h0 : cs.length = 0
  · obtain rfl : cs = [] := List.eq_nil_of_length_eq_zero h0
    refine wpList_copy_nothing hgd d s dT sT ho elem hu hsz dp sp dLen dCap sLen sCap hd hs (by simpa using hn.symm) ?_
    exact h w (show Blk _ _ _ _ by simpa [splice] using hg) (World.grownBy.refl w _)
  · obtain ⟨rfl, ad, rfl, hsrc⟩ := hpos (by omega)
    refine wpList_copy_own hgd d s dT sT ho elem hu hsz g off dLen dCap ad sLen sCap hd hs cur.toArray t hg cs hn hsrc (by simpa using hfit) h1 ?_
    refine h _ (show Blk _ _ _ _ by unfold Blk; simpa [splice] using setRow_heap w g _ _ t _ hg) ⟨rfl, rfl, rfl, by simp [World.setRow], fun i _ hi => setRow_other w g i _ (fun e => hi (by rw [e]))⟩

/-- A list with noughts behind it. -/
def padI (L : List Int) (V : Nat) : List Int := L ++ List.replicate (V - L.length) 0
theorem padI_length {L : List Int} {V : Nat} (h : L.length ≤ V) : (padI L V).length = V := by simp [padI]; omega
theorem padI_set {L : List Int} {V : Nat} (h : L.length < V) (y : Int) : (padI L V).set L.length y = padI (L ++ [y]) V := by
  unfold padI
  obtain ⟨m, hm⟩ : ∃ m, V - L.length = m + 1 := ⟨V - L.length - 1, by omega⟩
  rw [hm, List.set_append_right _ _ (Nat.le_refl _), List.length_append, List.length_singleton, show V - (L.length + 1) = m by omega, Nat.sub_self, List.replicate_succ]
  simp
theorem padI_skip {L : List Int} {V : Nat} (h : L.length < V) : padI L V = padI (L ++ [0]) V := by
  unfold padI
  obtain ⟨m, hm⟩ : ∃ m, V - L.length = m + 1 := ⟨V - L.length - 1, by omega⟩
  rw [hm, List.length_append, List.length_singleton, show V - (L.length + 1) = m by omega, List.replicate_succ]
  simp
theorem padI_at {L : List Int} {V i : Nat} (h : i < L.length) : (padI L V)[i]? = L[i]? := by
  unfold padI
  rw [List.getElem?_append_left h]
theorem litI_pad {L : List Int} {V : Nat} {l : Int} (h : (l / 2).toNat < L.length) : litI (padI L V) l = litI L l := by
  unfold litI
  rw [padI_at h]
theorem splice_pad {L : List Int} {V : Nat} (h : L.length + 1 ≤ V) : splice (i64s (List.replicate V 0)) 1 (i64s L) = i64s (padI (0 :: L) V) := by
  unfold splice padI
  obtain ⟨m, hm⟩ : ∃ m, V = m + 1 := ⟨V - 1, by omega⟩
  subst hm
  rw [i64s_append, i64s_length, List.length_cons]
  simp only [i64s, List.map_cons, List.map_replicate, List.replicate_succ]
  simp only [List.take_succ_cons, List.take_zero, List.cons_append, List.nil_append, show 1 + L.length = L.length + 1 from Nat.add_comm _ _, List.drop_succ_cons, List.drop_replicate, show m + 1 - (L.length + 1) = m - L.length by omega]

abbrev cpW (w : World) (to : Gr) (A : Option Addr) (c : Nat) (fr : Gr) (A2 : Option Addr) (c2 : Nat) : World :=
  ((w.alloc (.cells #[.int .i64 to.n, .slice A to.as.length c] 24)).alloc (.cells #[.int .i64 fr.n, .slice A2 fr.as.length c2] 24)).alloc (.cells #[.int .i64 0, .slice none 0 0] 24)

/-- Both graphs' boxes and the result's cell stand, and all that was there before. -/
structure Cp0 (w wr : World) (to : Gr) (A : Option Addr) (c : Nat) (fr : Gr) (A2 : Option Addr) (c2 : Nat) : Prop where
  below : Below (w.heap.size + 3) (cpW w to A c fr A2 c2) wr
section
variable {w wr wr' : World} {to fr : Gr} {A A2 : Option Addr} {c c2 : Nat}
theorem cpW_size : (cpW w to A c fr A2 c2).heap.size = w.heap.size + 3 := by simp [cpW]
theorem Cp0.begin_ : Cp0 w (cpW w to A c fr A2 c2) to A c fr A2 c2 := ⟨Below.refl _ _⟩
theorem Cp0.size (h : Cp0 w wr to A c fr A2 c2) : w.heap.size + 3 ≤ wr.heap.size := by have := h.below.size; rw [cpW_size] at this; exact this
theorem Cp0.bt (h : Cp0 w wr to A c fr A2 c2) : Blk wr w.heap.size 24 #[.int .i64 to.n, .slice A to.as.length c] := (((Blk.new w _ _).alloc _).alloc _).below h.below (by omega)
theorem Cp0.bf (h : Cp0 w wr to A c fr A2 c2) : Blk wr (w.heap.size + 1) 24 #[.int .i64 fr.n, .slice A2 fr.as.length c2] := by
  have := Blk.new (w.alloc (.cells #[.int .i64 to.n, .slice A to.as.length c] 24)) 24 #[.int .i64 fr.n, .slice A2 fr.as.length c2]
  rw [World.size_alloc] at this
  exact (this.alloc _).below h.below (by omega)
theorem Cp0.br (h : Cp0 w wr to A c fr A2 c2) : Blk wr (w.heap.size + 2) 24 #[.int .i64 0, .slice none 0 0] := by
  have := Blk.new ((w.alloc (.cells #[.int .i64 to.n, .slice A to.as.length c] 24)).alloc (.cells #[.int .i64 fr.n, .slice A2 fr.as.length c2] 24)) 24 #[.int .i64 0, .slice none 0 0]
  rw [World.size_alloc, World.size_alloc] at this
  exact this.below h.below (by omega)
theorem Cp0.low (h : Cp0 w wr to A c fr A2 c2) : Below w.heap.size w wr := ((((Below.refl _ _).alloc (Nat.le_refl _) _).alloc (by simp) _).alloc (by simp; omega) _).trans (h.below.mono (by omega))
theorem Cp0.step (h : Cp0 w wr to A c fr A2 c2) (hb : Below wr.heap.size wr wr') : Cp0 w wr' to A c fr A2 c2 := ⟨h.below.trans (hb.mono h.size)⟩
end

theorem cp_after {w w4 w5 : World} {to fr : Gr} {A A2 : Option Addr} {c c2 gI : Nat} {t : TypeId} {cs : Array Value} (h : Cp0 w w4 to A c fr A2 c2) (hi : BlkF w4 (gI + 1) t cs) (hg : w4.grownBy w5 (some gI)) (hg3 : w.heap.size + 3 ≤ gI) : Cp0 w w5 to A c fr A2 c2 ∧ BlkF w5 (gI + 1) t cs :=
  ⟨⟨h.below.grown hg h.size (fun k hk => by cases hk; omega)⟩, ⟨hi.p.by_ hg (fun k hk => by cases hk; omega)⟩⟩

theorem copyAt_no {to fr : Gr} {l : Int} {by_ : List Int} {k : Nat} {p : Pr} (h : fr.as[k]? = some p) (hm : (belowG fr l)[(fr.n + 1 + k).toNat]? = some false) (he : (copyAt to fr l by_ k).2.2 = 0) :
    copyAt to fr l by_ (k + 1) = ((copyAt to fr l by_ k).1, (copyAt to fr l by_ k).2.1 ++ [0], 0) := by
  rw [copyAt, h, hm]
  simp only
  rw [if_pos he]
  rfl
theorem copyAt_yes {to fr : Gr} {l : Int} {by_ : List Int} {k : Nat} {p : Pr} (h : fr.as[k]? = some p) (hm : (belowG fr l)[(fr.n + 1 + k).toNat]? = some true) (he : (copyAt to fr l by_ k).2.2 = 0) (he2 : (andG (copyAt to fr l by_ k).1 (litI (copyAt to fr l by_ k).2.1 p.1) (litI (copyAt to fr l by_ k).2.1 p.2)).2.2 = 0) :
    copyAt to fr l by_ (k + 1) = ((andG (copyAt to fr l by_ k).1 (litI (copyAt to fr l by_ k).2.1 p.1) (litI (copyAt to fr l by_ k).2.1 p.2)).1, (copyAt to fr l by_ k).2.1 ++ [(andG (copyAt to fr l by_ k).1 (litI (copyAt to fr l by_ k).2.1 p.1) (litI (copyAt to fr l by_ k).2.1 p.2)).2.1], 0) := by
  rw [copyAt, h, hm]
  simp only
  rw [if_pos he, if_pos (by rfl), if_pos he2]
theorem copyAt_bad {to fr : Gr} {l : Int} {by_ : List Int} {k : Nat} {p : Pr} (h : fr.as[k]? = some p) (hm : (belowG fr l)[(fr.n + 1 + k).toNat]? = some true) (he : (copyAt to fr l by_ k).2.2 = 0) (he2 : (andG (copyAt to fr l by_ k).1 (litI (copyAt to fr l by_ k).2.1 p.1) (litI (copyAt to fr l by_ k).2.1 p.2)).2.2 ≠ 0) :
    ∀ d, (copyAt to fr l by_ (k + 1 + d)).2.2 = (andG (copyAt to fr l by_ k).1 (litI (copyAt to fr l by_ k).2.1 p.1) (litI (copyAt to fr l by_ k).2.1 p.2)).2.2
  | 0 => by
    show (copyAt to fr l by_ (k + 1)).2.2 = _
    rw [copyAt, h, hm]
    simp only
    rw [if_pos he, if_pos (by rfl), if_neg he2]
  | d + 1 => by
    have ih := copyAt_bad h hm he he2 d
    show (copyAt to fr l by_ (k + 1 + d + 1)).2.2 = _
    rw [copyAt]
    simp only
    split
    · exact ih
    · rw [if_neg (by rw [ih]; exact he2)]
      exact ih
theorem copyG_bad {to fr : Gr} {l : Int} {by_ : List Int} {k : Nat} {p : Pr} (hok : copyOk to fr l by_ = true) (h : fr.as[k]? = some p) (hm : (belowG fr l)[(fr.n + 1 + k).toNat]? = some true) (he : (copyAt to fr l by_ k).2.2 = 0) (he2 : (andG (copyAt to fr l by_ k).1 (litI (copyAt to fr l by_ k).2.1 p.1) (litI (copyAt to fr l by_ k).2.1 p.2)).2.2 ≠ 0) :
    copyG to fr l by_ = (noG, 0, (andG (copyAt to fr l by_ k).1 (litI (copyAt to fr l by_ k).2.1 p.1) (litI (copyAt to fr l by_ k).2.1 p.2)).2.2) := by
  have hk := (List.getElem?_eq_some_iff.1 h).1
  have := copyAt_bad h hm he he2 (fr.as.length - (k + 1))
  rw [show k + 1 + (fr.as.length - (k + 1)) = fr.as.length by omega] at this
  unfold copyG
  rw [if_pos hok]
  simp only
  rw [if_neg (by rw [this]; exact he2), this]
theorem copyG_done {to fr : Gr} {l : Int} {by_ : List Int} (hok : copyOk to fr l by_ = true) (he : (copyAt to fr l by_ fr.as.length).2.2 = 0) : copyG to fr l by_ = ((copyAt to fr l by_ fr.as.length).1, litI (copyAt to fr l by_ fr.as.length).2.1 l, 0) := by
  unfold copyG
  rw [if_pos hok]
  simp only
  rw [if_pos he]

theorem i64s_set (m : List Int) (i : Nat) (y : Int) : ((i64s m).toArray).setIfInBounds i (.int .i64 y) = (i64s (m.set i y)).toArray := by
  simp [i64s, List.map_set]
theorem lit_small {g : Gr} {l : Int} (hr : rightB g = true) (h : litB g l = true) : 0 ≤ l ∧ l ≤ 4001 := by
  have := right_vars hr
  have := lit_lt h
  exact ⟨litB_ge h, by omega⟩
theorem copyG_no {to fr : Gr} {l : Int} {by_ : List Int} (h : copyOk to fr l by_ = false) : copyG to fr l by_ = (noG, 0, 1) := by
  unfold copyG
  rw [h]
  rfl

set_option maxRecDepth 100000 in
set_option maxHeartbeats 4000000 in
theorem ccopy_any (to fr : Gr) (l : Int) (by_ : List Int) (A A2 A3 : Option Addr) (c c2 c3 : Nat) (w : World) (hto : GOk to) (hfr : GOk fr) (hl : l ≤ 9223372036854775807) (hc : to.as.length ≤ c) (hpt : Prs w w.heap.size A to.as) (hpf : Prs w w.heap.size A2 fr.as)
    (hby : ∀ x ∈ by_, x ≤ 9223372036854775807) (hbl : by_.length ≤ 140737488355328) (hv : Vals w w.heap.size A3 (i64s by_)) :
    Calls Try.prog 59 #[.agg #[.int .i64 to.n, .slice A to.as.length c], .agg #[.int .i64 fr.n, .slice A2 fr.as.length c2], .int .i64 l, .slice A3 by_.length c3] w (RetP w (copyG to fr l by_)) := by
  have hnot := @not_run Try.prog
  have hmf : ∀ (fn : Fn) (first cap : Array Value) (w : World), (Instr.makeFunc fn first cap).run Try.prog w = .ok (.func fn first cap) w := fun _ _ _ _ => rfl
  have htl : to.as.length ≤ 8796093022208 := hto.2.1
  have HPT := Lib.hid hpt
  have HPF := Lib.hid hpf
  have HBY := Lib.hid hby
  have HV := Lib.hid hv
  have HTO := Lib.hid hto
  have HFR := Lib.hid hfr
  have H0 := Lib.hid (Cp0.begin_ (w := w) (to := to) (A := A) (c := c) (fr := fr) (A2 := A2) (c2 := c2))
  have c0 := H0.out.bt.cell 0
  have c1 := H0.out.bt.cell 1
  clear hto hfr hpt hpf hby hv
  go_enter Try.func59, Try.ntmps59
  go_wp2_with fail
  refine (Right_any to A c _ HTO.out (HPT.out.after H0.out.low)).mono ?_
  rintro e w1 ⟨rfl, hb⟩
  have H1 := Lib.hid (H0.out.step hb)
  clear hb H0 c0 c1
  cases hr : rightB to
  · have HE : Hid (copyG to fr l by_ = (noG, 0, 1)) := copyG_no (by unfold copyOk; rw [hr]; rfl)
    have d0 := H1.out.br.cell 0
    have d1 := H1.out.br.cell 1
    have f0 := H1.out.br.frozen 0
    have f1 := H1.out.br.frozen 1
    clear hr
    go_wp2_with fail
    refine bodyPost_ret (v := .tuple #[.agg #[.int .i64 0, .slice none 0 0], .int .i64 0, .int .i64 1]) (by simp [results, Try.results59, go_sem, d0, d1]) rfl ?_
    rw [HE.out]
    exact ⟨none, 0, rfl, Nat.le_refl _, Prs.nil, (H1.out.low.setCell (p := ⟨w.heap.size + 2, 0, none⟩) (by simp) _).setCell (p := ⟨w.heap.size + 2, 1, none⟩) (by simp) _⟩
  · have HR := Lib.hid hr
    have c0 := H1.out.bf.cell 0
    have c1 := H1.out.bf.cell 1
    clear hr
    go_wp2_with fail
    refine (there_any fr l A2 c2 _ HFR.out hl (HPF.out.after H1.out.low)).mono ?_
    rintro e w2 ⟨rfl, hb⟩
    have H2 := Lib.hid (H1.out.step hb)
    clear hb H1 c0 c1
    cases ht : (rightB fr && litB fr l)
    · have HE : Hid (copyG to fr l by_ = (noG, 0, 1)) := copyG_no (by unfold copyOk; rw [← Bool.and_assoc (rightB fr), ht, Bool.false_and, Bool.and_false])
      clear ht
      have d0 := H2.out.br.cell 0
      have d1 := H2.out.br.cell 1
      have f0 := H2.out.br.frozen 0
      have f1 := H2.out.br.frozen 1
      go_wp2_with fail
      refine bodyPost_ret (v := .tuple #[.agg #[.int .i64 0, .slice none 0 0], .int .i64 0, .int .i64 1]) (by simp [results, Try.results59, go_sem, d0, d1]) rfl ?_
      rw [HE.out]
      exact ⟨none, 0, rfl, Nat.le_refl _, Prs.nil, (H2.out.low.setCell (p := ⟨w.heap.size + 2, 0, none⟩) (by simp) _).setCell (p := ⟨w.heap.size + 2, 1, none⟩) (by simp) _⟩
    · have HT : Hid (rightB fr = true ∧ litB fr l = true) := by rw [Bool.and_eq_true] at ht; exact ht
      have c0 := H2.out.bf.cell 0
      have c1 := H2.out.bf.cell 1
      clear ht
      by_cases hn : (by_.length : Int) = fr.n
      · have hn' : ((by_.length : Int) != fr.n) = false := by rw [hn]; simp
        have HN := Lib.hid hn
        clear hn
        go_wp2_with fail
        refine (has_low _ en_copy1 _ (fun x => !litB to x) by_ A3 c3 _ hbl (HV.out.after H2.out.low) (fun x hx W hW => copy1_any to x w.heap.size A c W htl (HBY.out x hx) ((H2.out.step hW.b).bt.cell 0) ((H2.out.step hW.b).bt.cell 1))).mono ?_
        rintro e w3 ⟨rfl, hb⟩
        have H3 := Lib.hid (H2.out.step hb)
        clear hb H2 c0 c1
        cases ha : by_.any (fun x => !litB to x)
        · have HOK : Hid (copyOk to fr l by_ = true) := by
            refine copyOk_iff.2 ⟨HR.out, HT.out.1, HT.out.2, HN.out, fun x hx => ?_⟩
            have := List.any_eq_false.1 ha x hx
            simpa using this
          obtain ⟨g0, g1, g2, g3⟩ := (size_iff fr).1 (right_size HT.out.1)
          obtain ⟨V, cs0, hV, hcs, hmk⟩ := make_zeros (fr.n + 1 + (fr.as.length : Int)) (by omega) (by omega)
          have HCS := Lib.hid hcs
          have HVV := Lib.hid hV
          have c0 := H3.out.bf.cell 0
          have c1 := H3.out.bf.cell 1
          have hv1 : 1 ≤ V := by omega
          have hVl : V ≤ 2000 := by omega
          have hbV : by_.length + 1 ≤ V := by have := HN.out; omega
          obtain ⟨gI, hgI⟩ : ∃ gI, w3.heap.size = gI := ⟨_, rfl⟩
          have hg3 : w.heap.size + 3 ≤ gI := by have := H3.out.size; omega
          have HI4 : Hid (BlkF ((w3.alloc (.cells cs0 3)).alloc (.cells #[.slice (some ⟨gI, 0, none⟩) V V] 26)) (gI + 1) 26 #[.slice (some ⟨gI, 0, none⟩) V V]) := by
            have h := BlkF.new (w3.alloc (.cells cs0 3)) 26 #[.slice (some ⟨gI, 0, none⟩) V V]
            rw [World.size_alloc, hgI] at h
            exact h
          have HRW4 : Hid (Blk ((w3.alloc (.cells cs0 3)).alloc (.cells #[.slice (some ⟨gI, 0, none⟩) V V] 26)) gI 3 (i64s (List.replicate V 0)).toArray) := by
            have h := (Blk.new w3 3 cs0).alloc (.cells #[.slice (some ⟨gI, 0, none⟩) V V] 26)
            rw [hgI] at h
            show Blk _ _ _ _
            rw [← HCS.out]
            exact h
          have H4 : Hid (Cp0 w ((w3.alloc (.cells cs0 3)).alloc (.cells #[.slice (some ⟨gI, 0, none⟩) V V] 26)) to A c fr A2 c2) := H3.out.step (step2 (stepA w3 (.cells cs0 3)) (stepA _ (.cells #[.slice (some ⟨gI, 0, none⟩) V V] 26)))
          have HV4 := Lib.hid (HV.out.after H4.out.low)
          obtain ⟨cp, hcp⟩ : ∃ cp, cp = i64s by_ := ⟨_, rfl⟩
          have HCP := Lib.hid hcp
          have hcl : cp.length = by_.length := by rw [hcp, i64s_length]
          have HSP : Hid (splice (i64s (List.replicate V 0)) 1 cp = i64s (padI (0 :: by_) V)) := by show splice _ _ _ = _; rw [HCP.out]; exact splice_pad hbV
          have hz1 : ((i64s (List.replicate V (0 : Int))).length) = V := by rw [i64s_length, List.length_replicate]
          have hint : (Try.prog.info? 3).map (·.size) = some 1 := by kernel_rfl
          clear ha hV hcs hcp
          obtain ⟨oX, hoX, hoY⟩ : ∃ oX, (if V = 1 then some (⟨gI, 0, none⟩ : Addr) else some ⟨gI, 1, none⟩) = some ⟨gI, oX, none⟩ ∧ (V ≠ 1 → oX = 1) := by
            by_cases h : V = 1
            · exact ⟨0, by rw [if_pos h], fun h' => absurd h h'⟩
            · exact ⟨1, by rw [if_neg h], fun _ => rfl⟩
          have hsl : ∀ W : World, (Instr.slice 26 (.slice (some ⟨gI, 0, none⟩) V V) (some (.int .i64 1)) none none).run Try.prog W = .ok (.slice (some ⟨gI, oX, none⟩) (V - 1) (V - 1)) W := fun W => by
            rw [← hoX]
            have h1 : (1 : Int) ≤ V := by omega
            simp [go_sem, Try.underlying26, h1, hv1]
          have HOY := Lib.hid hoY
          clear hoX hoY
          have HCN : Hid (cp.length = Nat.min by_.length (V - 1)) := by
            show cp.length = _
            rw [hcl]
            exact (Nat.min_eq_left (by omega)).symm
          have HCF : Hid (1 + cp.length ≤ (i64s (List.replicate V (0 : Int))).length) := by show _ ≤ _; rw [hz1, hcl]; omega
          have HC1 : Hid (∀ u ∈ cp, u.oneCell' = true) := by rw [HCP.out]; exact i64s_one _
          have HCQ : Hid (0 < cp.length → (some (⟨gI, oX, none⟩ : Addr)) = some ⟨gI, 1, none⟩ ∧ ∃ ad, A3 = some ad ∧ ∀ j v, cp[j]? = some v → ((w3.alloc (.cells cs0 3)).alloc (.cells #[.slice (some ⟨gI, 0, none⟩) V V] 26)).cell? (ad.add j) = some v) := fun h => by
            have h1 : V ≠ 1 := by omega
            obtain ⟨ad, had⟩ : ∃ ad, A3 = some ad := by
              cases hA : A3 with
              | some ad => exact ⟨ad, rfl⟩
              | none =>
                have := HV4.out.none_ hA
                have h3 := i64s_length by_
                rw [this] at h3
                simp at h3
                omega
            exact ⟨by rw [HOY.out h1], ad, had, fun j v hj => HV4.out.cells ad had j v (by rw [← HCP.out]; exact hj)⟩
          clear hcl hz1
          go_wp2_with ((with_reducible show wpList _ _ _ (⟨some 53, _, _, _, _, _⟩ :: _) _ _); go_loud (refine wpList_copy_mine (o := ⟨some 53, _, _, _, _, _⟩) rfl (.tmp 51) (.tmp 52) _ _ rfl 3 Try.underlying26 hint _ _ _ _ _ _ rfl rfl gI 1 (i64s (List.replicate V 0)) 3 HRW4.out cp HCN.out HCQ.out HCF.out HC1.out ?_); go_loud (intro w5 hrow hg5); go_loud (obtain ⟨h5a, h5b⟩ := cp_after H4.out HI4.out hg5 hg3); go_loud (have H5 := Lib.hid h5a); go_loud (have HI5 := Lib.hid h5b); go_loud (have HRW5 : Hid (Blk w5 gI _ _) := hrow); clear hrow hg5 h5a h5b; have e0 := H5.out.bf.cell 0; have e1 := H5.out.bf.cell 1)
          rw [HSP.out] at HRW5
          clear H4 HI4 HRW4 HV4 HCN HCF HC1 HCQ HCP HSP hsl hmk HCS c0 c1
          refine (conebelow_k fr l A2 c2 _ HT.out.1 HT.out.2 (HPF.out.after H5.out.low)).mono ?_
          rintro e w7 ⟨bm, rfl, hbm, hb⟩
          have h6 := H5.out.step hb
          have HI7 := Lib.hid (HI5.out.step hb)
          have hg5 : gI < _ := HRW5.out.lt
          have HRW7 : Hid (BlkF w7 gI 3 (i64s (padI (0 :: by_) V)).toArray) := ⟨HRW5.out.below hb hg5⟩
          have HS7 : Hid (CpSt w (fun b => b < w.heap.size ∨ w7.heap.size ≤ b) bm fr A2 c2 (belowG fr l) to A c w7) := ⟨h6.low, h6.size, h6.bt, h6.bf, h6.br, hbm, hc, ((HPT.out.below h6.low).q).imp fun b hb _ => .inl hb⟩
          have hg7 : gI < w7.heap.size := by have := hb.size; omega
          have HQ7 : Hid (¬ (gI < w.heap.size ∨ w7.heap.size ≤ gI)) := fun h => by omega
          have HQ0 : Hid (¬ (w.heap.size < w.heap.size ∨ w7.heap.size ≤ w.heap.size)) := fun h => by have := h6.size; omega
          have c0 := HS7.out.bf.cell 0
          have c1 := HS7.out.bf.cell 1
          clear hb hbm h6 HI5 HRW5 H5 e0 e1 hg5
          go_wp2_with fail
          go_loopw [61] (fun i wr => ∃ (k : Nat) (A' : Option Addr) (c' : Nat), k ≤ fr.as.length ∧ i = .int .i64 k ∧ Hid ((copyAt to fr l by_ k).2.2 = 0) ∧ CpSt w (fun b => b < w.heap.size ∨ w7.heap.size ≤ b) bm fr A2 c2 (belowG fr l) (copyAt to fr l by_ k).1 A' c' wr ∧ BlkF wr gI 3 (i64s (padI (copyAt to fr l by_ k).2.1 V)).toArray ∧ BlkF wr (gI + 1) 26 #[.slice (some ⟨gI, 0, none⟩) V V] ∧ w7.heap.size ≤ wr.heap.size) (fun i _ => fr.as.length - (intOf i).toNat)
          case atStart => exact ⟨0, A, c, Nat.zero_le _, rfl, rfl, HS7.out, HRW7.out, HI7.out, Nat.le_refl _⟩
          case round =>
            obtain ⟨k, A', c', hk, rfl, he, hst, hrow, hbi, hsz⟩ := hrel
            have HE0 := Lib.hid he.out
            have HS := Lib.hid hst
            have HRW := Lib.hid hrow
            have HI := Lib.hid hbi
            clear he hst hrow hbi HS7 HRW7 HI7 c0 c1
            have HIN := Lib.hid (copyAt_inv HOK.out k hk HE0.out)
            by_cases hlt : k < fr.as.length
            · have hlt' : (k : Int) < (fr.as.length : Int) := by omega
              obtain ⟨⟨p1, p2⟩, hpk⟩ : ∃ p, fr.as[k]? = some p := ⟨_, List.getElem?_eq_getElem hlt⟩
              obtain ⟨b', o', rfl, hbs, q1, q2⟩ := (HPF.out.below HS.out.low) k _ hpk
              obtain ⟨r1, r2, r3, r4, r5, r6⟩ := gate_lits HT.out.1 hpk
              simp only at r1 r2 r3 r4 r5 r6
              have i1 : 0 ≤ fr.n + 1 + (k : Int) := by omega
              have i2 : fr.n + 1 + (k : Int) < ((belowG fr l).length : Int) := by rw [belowG_length]; unfold Gr.vars; omega
              obtain ⟨bit, hbit⟩ : ∃ y, (belowG fr l)[(fr.n + 1 + (k : Int)).toNat]? = some y := ⟨_, List.getElem?_eq_getElem (by omega)⟩
              obtain ⟨pb, hpb⟩ : ∃ pb, wr.heap.size = pb := ⟨_, rfl⟩
              have HG : Hid (BlkF (wr.alloc (.cells #[.int .i64 p1, .int .i64 p2] 41)) pb 41 #[.int .i64 p1, .int .i64 p2]) := by rw [← hpb]; exact BlkF.new wr _ _
              replace HS := Lib.hid (HS.out.step (stepA wr (.cells #[.int .i64 p1, .int .i64 p2] 41))); replace HRW := Lib.hid (HRW.out.step (stepA wr (.cells #[.int .i64 p1, .int .i64 p2] 41))); replace HI := Lib.hid (HI.out.step (stepA wr (.cells #[.int .i64 p1, .int .i64 p2] 41)))
              have hmk : (wr.alloc (.cells #[.int .i64 p1, .int .i64 p2] 41)).cell? ⟨bm, (fr.n + 1 + (k : Int)).toNat, none⟩ = some (.bool bit) := by
                rw [HS.out.bm.cell, List.getElem?_toArray]
                exact bools_get hbit
              have e0 := HS.out.bf.cell 0
              have HBT := Lib.hid hbit
              have HPK := Lib.hid hpk
              clear hbit hpk
              cases bit
              · have HSN := Lib.hid (copyAt_no HPK.out HBT.out HE0.out)
                have HSL : Hid ((copyAt to fr l by_ k).2.1.length < V) := by have h1 := HIN.out.len; have h2 := HVV.out; show _ < _; omega
                go_wp2_with fail
                go_roundw
                case rel => exact ⟨k + 1, A', c', by omega, by go_num, by rw [HSN.out]; rfl, by rw [HSN.out]; exact HS.out, by rw [HSN.out, ← padI_skip HSL.out]; exact HRW.out, HI.out, by simp; omega⟩
                case measure => simp [intOf]; omega
              · obtain ⟨y1, hy1⟩ : ∃ y, (copyAt to fr l by_ k).2.1[(p1 / 2).toNat]? = some y := ⟨_, List.getElem?_eq_getElem (by have := HIN.out.len; omega)⟩
                obtain ⟨y2, hy2⟩ : ∃ y, (copyAt to fr l by_ k).2.1[(p2 / 2).toNat]? = some y := ⟨_, List.getElem?_eq_getElem (by have := HIN.out.len; omega)⟩
                have b1 := lit_small HIN.out.right (HIN.out.lit y1 (List.mem_of_getElem? hy1))
                have b2 := lit_small HIN.out.right (HIN.out.lit y2 (List.mem_of_getElem? hy2))
                have HLA := Lib.hid (litI_lit (l := p1) HIN.out.right HIN.out.lit)
                have HLB := Lib.hid (litI_lit (l := p2) HIN.out.right HIN.out.lit)
                have hzl : (copyAt to fr l by_ k).2.1.length < V := by have h1 := HIN.out.len; have h2 := HVV.out; omega
                have HZL : Hid ((fr.n + 1 + (k : Int)).toNat = (copyAt to fr l by_ k).2.1.length) := by have h1 := HIN.out.len; show _ = _; omega
                have HPL : Hid ((padI (copyAt to fr l by_ k).2.1 V).length = V) := padI_length (by omega)
                have HP1 : Hid ((padI (copyAt to fr l by_ k).2.1 V)[(p1 / 2).toNat]? = some y1) := by show _ = _; rw [padI_at (List.getElem?_eq_some_iff.1 hy1).1]; exact hy1
                have HP2 : Hid ((padI (copyAt to fr l by_ k).2.1 V)[(p2 / 2).toNat]? = some y2) := by show _ = _; rw [padI_at (List.getElem?_eq_some_iff.1 hy2).1]; exact hy2
                have HE1 : Hid (litI (padI (copyAt to fr l by_ k).2.1 V) p1 = litI (copyAt to fr l by_ k).2.1 p1) := litI_pad (List.getElem?_eq_some_iff.1 hy1).1
                have HE2 : Hid (litI (padI (copyAt to fr l by_ k).2.1 V) p2 = litI (copyAt to fr l by_ k).2.1 p2) := litI_pad (List.getElem?_eq_some_iff.1 hy2).1
                have HYES := Lib.hid (copyAt_yes HPK.out HBT.out HE0.out)
                have HBAD := Lib.hid (copyG_bad HOK.out HPK.out HBT.out HE0.out)
                generalize copyAt to fr l by_ k = s at HIN HS HRW HYES HBAD HLA HLB hzl HZL HPL HP1 HP2 HE1 HE2 hy1 hy2
                clear hy1 hy2
                simp only at HYES HBAD
                generalize litI s.2.1 p1 = a at HLA HE1 HYES HBAD
                generalize litI s.2.1 p2 = b at HLB HE2 HYES HBAD
                have a1 := lit_small HIN.out.right HLA.out
                have b3 := lit_small HIN.out.right HLB.out
                go_wp2_with fail
                clear q1 q2 e0 hmk
                replace HS := Lib.hid (HS.out.step (stepD1 _)); replace HRW := Lib.hid (HRW.out.step (stepD1 _)); replace HI := Lib.hid (HI.out.step (stepD1 _)); replace HG := Lib.hid (HG.out.step (stepD1 _))
                refine wp_region_noPanic ?_
                refine wp_region_seqG (fun W => W.cell? ⟨gI + 1, 0, none⟩ = some (.slice (some ⟨gI, 0, none⟩) V V) ∧ W.cell? ⟨pb, 0, none⟩ = some (.int .i64 p1) ∧ W.cell? ⟨pb, 1, none⟩ = some (.int .i64 p2)) (fun W => W.cell? ⟨w.heap.size, 0, none⟩ = some (.int .i64 s.1.n) ∧ W.cell? ⟨w.heap.size, 1, none⟩ = some (.slice A' s.1.as.length c')) [0, 1, 2, 3, 4, 5, 7, 8, 9, 6, 10, 11, 12, 13, 14, 15, 16, 17, 18, 19] [0, 1, 3, 4, 5, 7, 8, 9, 12, 13, 14, 15, 17, 19] [2] [] [16, 18] (by kernel_rfl) (by kernel_rfl) rfl (by kernel_rfl) (by kernel_rfl) (by kernel_rfl) (fun _ _ _ _ _ h => h) ?_ (fun hSS hRR => ?_)
                · exact ⟨⟨HI.out.cell 0, HG.out.cell 0, HG.out.cell 1⟩, ⟨HS.out.bt.cell 0, HS.out.bt.cell 1⟩⟩
                clear hSS hRR
                (refine wpSeqG_mov rfl rfl ?_; intro o ho; simp only [List.getElem?_toArray, List.getElem?_cons_zero, List.getElem?_cons_succ, Option.some.injEq] at ho; subst ho; refine ⟨?_, Or.inl ⟨by rfl, fun W hSW => ?_⟩, ?_⟩; rotate_left; (focus (go_simp; first | done | with_reducible rfl)); try simp only [Act.put, List.setIfInBounds_toArray, List.set_cons_zero, List.set_cons_succ])
                (refine wpSeqG_mov rfl rfl ?_; intro o ho; simp only [List.getElem?_toArray, List.getElem?_cons_zero, List.getElem?_cons_succ, Option.some.injEq] at ho; subst ho; refine ⟨?_, Or.inl ⟨by rfl, fun W hSW => ?_⟩, ?_⟩; rotate_left; (focus (go_simp; first | done | with_reducible rfl)); try simp only [Act.put, List.setIfInBounds_toArray, List.set_cons_zero, List.set_cons_succ])
                (refine wpSeqG_movR rfl rfl rfl ?_; intro o ho; simp only [List.getElem?_toArray, List.getElem?_cons_zero, List.getElem?_cons_succ, Option.some.injEq] at ho; subst ho; refine ⟨?_, Or.inl ⟨by rfl, fun W hSW => ?_⟩, ?_⟩; rotate_left; (focus (go_simp; first | done | with_reducible rfl)); try simp only [Act.put, List.setIfInBounds_toArray, List.set_cons_zero, List.set_cons_succ])
                (refine wpSeqG_mov rfl rfl ?_; intro o ho; simp only [List.getElem?_toArray, List.getElem?_cons_zero, List.getElem?_cons_succ, Option.some.injEq] at ho; subst ho; refine ⟨?_, Or.inl ⟨by rfl, fun W hSW => ?_⟩, ?_⟩; rotate_left; (focus (go_simp; first | done | with_reducible rfl)); try simp only [Act.put, List.setIfInBounds_toArray, List.set_cons_zero, List.set_cons_succ])
                (refine wpSeqG_mov rfl rfl ?_; intro o ho; simp only [List.getElem?_toArray, List.getElem?_cons_zero, List.getElem?_cons_succ, Option.some.injEq] at ho; subst ho; refine ⟨?_, Or.inl ⟨by rfl, fun W hSW => ?_⟩, ?_⟩; rotate_left; (focus (go_simp; first | done | with_reducible rfl)); try simp only [Act.put, List.setIfInBounds_toArray, List.set_cons_zero, List.set_cons_succ])
                (refine wpSeqG_mov rfl rfl ?_; intro o ho; simp only [List.getElem?_toArray, List.getElem?_cons_zero, List.getElem?_cons_succ, Option.some.injEq] at ho; subst ho; refine ⟨?_, Or.inl ⟨by rfl, fun W hSW => ?_⟩, ?_⟩; rotate_left; (focus (go_simp; first | done | with_reducible rfl)); try simp only [Act.put, List.setIfInBounds_toArray, List.set_cons_zero, List.set_cons_succ])
                (refine wpSeqG_mov rfl rfl ?_; intro o ho; simp only [List.getElem?_toArray, List.getElem?_cons_zero, List.getElem?_cons_succ, Option.some.injEq] at ho; subst ho; refine ⟨?_, Or.inl ⟨by rfl, fun W hSW => ?_⟩, ?_⟩; rotate_left; (focus (go_simp; first | done | with_reducible rfl)); try simp only [Act.put, List.setIfInBounds_toArray, List.set_cons_zero, List.set_cons_succ])
                (refine wpSeqG_mov rfl rfl ?_; intro o ho; simp only [List.getElem?_toArray, List.getElem?_cons_zero, List.getElem?_cons_succ, Option.some.injEq] at ho; subst ho; refine ⟨?_, Or.inl ⟨by rfl, fun W hSW => ?_⟩, ?_⟩; rotate_left; (focus (go_simp; first | done | with_reducible rfl)); try simp only [Act.put, List.setIfInBounds_toArray, List.set_cons_zero, List.set_cons_succ])
                (refine wpSeqG_mov rfl rfl ?_; intro o ho; simp only [List.getElem?_toArray, List.getElem?_cons_zero, List.getElem?_cons_succ, Option.some.injEq] at ho; subst ho; refine ⟨?_, Or.inl ⟨by rfl, fun W hSW => ?_⟩, ?_⟩; rotate_left; (focus (go_simp; first | done | with_reducible rfl)); try simp only [Act.put, List.setIfInBounds_toArray, List.set_cons_zero, List.set_cons_succ])
                (refine wpSeqG_fix rfl rfl rfl ?_; intro o ho; simp only [List.getElem?_toArray, List.getElem?_cons_zero, List.getElem?_cons_succ, Option.some.injEq] at ho; subst ho; intro K hK)
                go_simp
                refine (copy2_any (padI s.2.1 V) p1 y1 (gI + 1) gI _ r1 (by omega) HP1.out b1.1 (by omega) (by rw [HPL.out]; exact HI.out.cell 0) (by rw [HRW.out.cell, List.getElem?_toArray]; exact i64s_at HP1.out)).mono ?_
                rintro e w8 ⟨rfl, rfl⟩
                rw [HE1.out]
                (refine hK.out _ _ (fun _ _ => ⟨HI.out.cell 0, HG.out.cell 0, HG.out.cell 1⟩) (fun _ _ => ⟨HS.out.bt.cell 0, HS.out.bt.cell 1⟩) ?_; clear hK K; try simp only [Act.put, List.setIfInBounds_toArray, List.set_cons_zero, List.set_cons_succ])
                (refine wpSeqG_fix rfl rfl rfl ?_; intro o ho; simp only [List.getElem?_toArray, List.getElem?_cons_zero, List.getElem?_cons_succ, Option.some.injEq] at ho; subst ho; intro K hK)
                go_simp
                refine (copy2_any (padI s.2.1 V) p2 y2 (gI + 1) gI _ r3 (by omega) HP2.out b2.1 (by omega) (by rw [HPL.out]; exact HI.out.cell 0) (by rw [HRW.out.cell, List.getElem?_toArray]; exact i64s_at HP2.out)).mono ?_
                rintro e w8 ⟨rfl, rfl⟩
                rw [HE2.out]
                (refine hK.out _ _ (fun _ _ => ⟨HI.out.cell 0, HG.out.cell 0, HG.out.cell 1⟩) (fun _ _ => ⟨HS.out.bt.cell 0, HS.out.bt.cell 1⟩) ?_; clear hK K; try simp only [Act.put, List.setIfInBounds_toArray, List.set_cons_zero, List.set_cons_succ])
                (refine wpSeqG_fix rfl rfl rfl ?_; intro o ho; simp only [List.getElem?_toArray, List.getElem?_cons_zero, List.getElem?_cons_succ, Option.some.injEq] at ho; subst ho; intro K hK)
                go_simp
                obtain ⟨r, hr⟩ : ∃ r, andG s.1 a b = r := ⟨_, rfl⟩
                have HC := Lib.hid (and_any s.1 a b A' c' _ _ (ok_of_right HIN.out.right) (by omega) (by omega) HS.out.cap HS.out.prs)
                rw [hr] at HC HYES HBAD
                clear hr
                refine HC.out.mono ?_
                rintro e w9 ⟨A5, c5, rfl, hc5, hp5, hb⟩
                have HP5 : Hid (PrsQ w9 (fun b => b < w.heap.size ∨ w7.heap.size ≤ b) A5 r.1.as) := hp5.imp (fun b hb _ => by
                  rcases hb with ⟨h, _⟩ | h
                  · exact h
                  · simp at h
                    exact .inr (by omega))
                replace HS := Lib.hid (HS.out.step hb); replace HRW := Lib.hid (HRW.out.step hb); replace HI := Lib.hid (HI.out.step hb); replace HG := Lib.hid (HG.out.step hb)
                have hsz9 : w7.heap.size ≤ w9.heap.size := by
                  have := hb.size
                  simp at this
                  omega
                clear hb hp5 HC HP1 HP2 HE1 HE2
                (refine hK.out _ _ (fun _ _ => ⟨HI.out.cell 0, HG.out.cell 0, HG.out.cell 1⟩) (fun _ _ => ⟨HS.out.bt.cell 0, HS.out.bt.cell 1⟩) ?_; clear hK K; try simp only [Act.put, List.setIfInBounds_toArray, List.set_cons_zero, List.set_cons_succ])
                (refine wpSeqG_mov rfl rfl ?_; intro o ho; simp only [List.getElem?_toArray, List.getElem?_cons_zero, List.getElem?_cons_succ, Option.some.injEq] at ho; subst ho; refine ⟨?_, Or.inl ⟨by rfl, fun W hSW => ?_⟩, ?_⟩; rotate_left; (focus (go_simp; first | done | with_reducible rfl)); try simp only [Act.put, List.setIfInBounds_toArray, List.set_cons_zero, List.set_cons_succ])
                (refine wpSeqG_mov rfl rfl ?_; intro o ho; simp only [List.getElem?_toArray, List.getElem?_cons_zero, List.getElem?_cons_succ, Option.some.injEq] at ho; subst ho; refine ⟨?_, Or.inl ⟨by rfl, fun W hSW => ?_⟩, ?_⟩; rotate_left; (focus (go_simp; first | done | with_reducible rfl)); try simp only [Act.put, List.setIfInBounds_toArray, List.set_cons_zero, List.set_cons_succ])
                (refine wpSeqG_mov rfl rfl ?_; intro o ho; simp only [List.getElem?_toArray, List.getElem?_cons_zero, List.getElem?_cons_succ, Option.some.injEq] at ho; subst ho; refine ⟨?_, Or.inl ⟨by rfl, fun W hSW => ?_⟩, ?_⟩; rotate_left; (focus (go_simp; first | done | with_reducible rfl)); try simp only [Act.put, List.setIfInBounds_toArray, List.set_cons_zero, List.set_cons_succ])
                (refine wpSeqG_mov rfl rfl ?_; intro o ho; simp only [List.getElem?_toArray, List.getElem?_cons_zero, List.getElem?_cons_succ, Option.some.injEq] at ho; subst ho; refine ⟨?_, Or.inl ⟨by rfl, fun W hSW => ?_⟩, ?_⟩; rotate_left; (focus (go_simp; first | done | with_reducible rfl)); try simp only [Act.put, List.setIfInBounds_toArray, List.set_cons_zero, List.set_cons_succ])
                have d0 := HS.out.bt.cell 0
                have d1 := HS.out.bt.cell 1
                have f0 := HS.out.bt.frozen 0
                have f1 := HS.out.bt.frozen 1
                have hgne : gI ≠ w.heap.size := by omega
                have hpne : pb ≠ w.heap.size := by have := hsz; omega
                have HSq := Lib.hid (HS.out.put HQ0.out hc5 HP5.out)
                have HIq : Hid (BlkF _ _ _ _) := ⟨(HI.out.p.far (p := ⟨w.heap.size, 0, none⟩) (by simp; omega) (.int .i64 r.1.n)).far (p := ⟨w.heap.size, 1, none⟩) (by simp; omega) (.slice A5 r.1.as.length c5)⟩
                have HGq : Hid (BlkF _ _ _ _) := ⟨(HG.out.p.far (p := ⟨w.heap.size, 0, none⟩) (by simp; omega) (.int .i64 r.1.n)).far (p := ⟨w.heap.size, 1, none⟩) (by simp; omega) (.slice A5 r.1.as.length c5)⟩
                have HRq : Hid (BlkF _ _ _ _) := ⟨(HRW.out.p.far (p := ⟨w.heap.size, 0, none⟩) (by simp; omega) (.int .i64 r.1.n)).far (p := ⟨w.heap.size, 1, none⟩) (by simp; omega) (.slice A5 r.1.as.length c5)⟩
                have hszq : w7.heap.size ≤ ((w9.setCell ⟨w.heap.size, 0, none⟩ (.int .i64 r.1.n)).setCell ⟨w.heap.size, 1, none⟩ (.slice A5 r.1.as.length c5)).heap.size := by simpa using hsz9
                (refine wpSeqG_fix rfl rfl rfl ?_; intro o ho; simp only [List.getElem?_toArray, List.getElem?_cons_zero, List.getElem?_cons_succ, Option.some.injEq] at ho; subst ho; intro K hK)
                go_simp
                (refine hK.out _ _ (fun _ _ => ⟨HIq.out.cell 0, HGq.out.cell 0, HGq.out.cell 1⟩) (fun h => by simp at h) ?_; clear hK K; try simp only [Act.put, List.setIfInBounds_toArray, List.set_cons_zero, List.set_cons_succ])
                clear d0 d1 f0 f1 HS HI HG HRW HP5
                generalize (w9.setCell ⟨w.heap.size, 0, none⟩ (.int .i64 r.1.n)).setCell ⟨w.heap.size, 1, none⟩ (.slice A5 r.1.as.length c5) = w10 at HSq HIq HGq HRq hszq ⊢
                have hiV : fr.n + 1 + (k : Int) < (V : Int) := by have := HVV.out; omega
                obtain ⟨y0, hy0⟩ : ∃ y, (padI s.2.1 V)[(fr.n + 1 + (k : Int)).toNat]? = some y := ⟨_, List.getElem?_eq_getElem (by rw [HPL.out]; omega)⟩
                have d0 : w10.cell? ⟨gI, (fr.n + 1 + (k : Int)).toNat, none⟩ = some (.int .i64 y0) := by rw [HRq.out.cell, List.getElem?_toArray]; exact i64s_at hy0
                have f0 : w10.frozen? ⟨gI, (fr.n + 1 + (k : Int)).toNat, none⟩ = false := HRq.out.p.frozen _
                have hz := HRq.out.p.set_ (fr.n + 1 + (k : Int)).toNat (.int .i64 r.2.1)
                rw [i64s_set, HZL.out, padI_set hzl, ← HZL.out] at hz
                have HRz : Hid (BlkF _ _ _ _) := ⟨hz⟩
                have HSz := Lib.hid (HSq.out.far HRq.out.p hg3 (by decide) HQ7.out (fr.n + 1 + (k : Int)).toNat (.int .i64 r.2.1))
                have HIz : Hid (BlkF _ _ _ _) := ⟨HIq.out.p.far (p := ⟨gI, (fr.n + 1 + (k : Int)).toNat, none⟩) (by simp) (.int .i64 r.2.1)⟩
                have HGz : Hid (BlkF _ _ _ _) := ⟨HGq.out.p.far (p := ⟨gI, (fr.n + 1 + (k : Int)).toNat, none⟩) (by simp; omega) (.int .i64 r.2.1)⟩
                clear hz hy0
                (refine wpSeqG_mov rfl rfl ?_; intro o ho; simp only [List.getElem?_toArray, List.getElem?_cons_zero, List.getElem?_cons_succ, Option.some.injEq] at ho; subst ho; refine ⟨?_, Or.inl ⟨by rfl, fun W hSW => ?_⟩, ?_⟩; rotate_left; (focus (go_simp; first | done | with_reducible rfl)); try simp only [Act.put, List.setIfInBounds_toArray, List.set_cons_zero, List.set_cons_succ])
                (refine wpSeqG_fix rfl rfl rfl ?_; intro o ho; simp only [List.getElem?_toArray, List.getElem?_cons_zero, List.getElem?_cons_succ, Option.some.injEq] at ho; subst ho; intro K hK)
                go_simp
                (refine hK.out _ _ (fun _ _ => ⟨HIz.out.cell 0, HGz.out.cell 0, HGz.out.cell 1⟩) (fun h => by simp at h) ?_; clear hK K; try simp only [Act.put, List.setIfInBounds_toArray, List.set_cons_zero, List.set_cons_succ])
                (refine wpSeqG_mov rfl rfl ?_; intro o ho; simp only [List.getElem?_toArray, List.getElem?_cons_zero, List.getElem?_cons_succ, Option.some.injEq] at ho; subst ho; refine ⟨?_, Or.inl ⟨by rfl, fun W hSW => ?_⟩, ?_⟩; rotate_left; (focus (go_simp; first | done | with_reducible rfl)); try simp only [Act.put, List.setIfInBounds_toArray, List.set_cons_zero, List.set_cons_succ])
                refine wpSeqG_done ?_
                clear d0 f0 HSq HIq HGq HRq
                by_cases he2 : r.2.2 = 0
                · have he2' : (r.2.2 != 0) = false := by rw [he2]; rfl
                  have HSN := Lib.hid (HYES.out he2)
                  clear he2 HYES HBAD
                  go_wp2_with fail
                  go_roundw
                  case rel => exact ⟨k + 1, A5, c5, by omega, by go_num, by rw [HSN.out]; rfl, by rw [HSN.out]; exact HSz.out, by rw [HSN.out]; exact HRz.out, HIz.out, by simpa using hszq⟩
                  case measure => simp [intOf]; omega
                · have he2' : (r.2.2 != 0) = true := by rw [bne_iff_ne]; exact he2
                  have HSN := Lib.hid (HBAD.out he2)
                  have d0 := HSz.out.br.cell 0
                  have d1 := HSz.out.br.cell 1
                  have f0 := HSz.out.br.frozen 0
                  have f1 := HSz.out.br.frozen 1
                  clear he2 HYES HBAD
                  go_wp2_with fail
                  refine bodyPost_ret (v := .tuple #[.agg #[.int .i64 0, .slice none 0 0], .int .i64 0, .int .i64 r.2.2]) (by simp [results, Try.results59, go_sem, d0, d1]) rfl ?_
                  rw [HSN.out]
                  exact ⟨none, 0, rfl, Nat.le_refl _, Prs.nil, (HSz.out.low.setCell (p := ⟨w.heap.size + 2, 0, none⟩) (by simp) _).setCell (p := ⟨w.heap.size + 2, 1, none⟩) (by simp) _⟩
            · obtain rfl : k = fr.as.length := by omega
              have hlt' : ¬ ((fr.as.length : Int) < (fr.as.length : Int)) := by omega
              have HDN := Lib.hid (copyG_done HOK.out HE0.out)
              obtain ⟨_, _, l0, l2⟩ := (litB_iff fr l).1 HT.out.2
              obtain ⟨y, hy⟩ : ∃ y, (copyAt to fr l by_ fr.as.length).2.1[(l / 2).toNat]? = some y := ⟨_, List.getElem?_eq_getElem (by have := HIN.out.len; omega)⟩
              have b1 := lit_small HIN.out.right (HIN.out.lit y (List.mem_of_getElem? hy))
              have HPL : Hid ((padI (copyAt to fr l by_ fr.as.length).2.1 V).length = V) := padI_length (by have h1 := HIN.out.len; have h2 := HVV.out; omega)
              have HP1 : Hid ((padI (copyAt to fr l by_ fr.as.length).2.1 V)[(l / 2).toNat]? = some y) := by show _ = _; rw [padI_at (List.getElem?_eq_some_iff.1 hy).1]; exact hy
              have HE1 : Hid (litI (padI (copyAt to fr l by_ fr.as.length).2.1 V) l = litI (copyAt to fr l by_ fr.as.length).2.1 l) := litI_pad (List.getElem?_eq_some_iff.1 hy).1
              generalize copyAt to fr l by_ fr.as.length = s at HIN HS HRW HDN HPL HP1 HE1 hy
              clear hy HE0
              go_wp2_with fail
              replace HS := Lib.hid (HS.out.step (stepD1 _)); replace HRW := Lib.hid (HRW.out.step (stepD1 _)); replace HI := Lib.hid (HI.out.step (stepD1 _))
              refine wp_region_noPanic ?_
              refine wp_region_seq (fun W => W.cell? ⟨w.heap.size, 0, none⟩ = some (.int .i64 s.1.n) ∧ W.cell? ⟨w.heap.size, 1, none⟩ = some (.slice A' s.1.as.length c') ∧ W.cell? ⟨gI + 1, 0, none⟩ = some (.slice (some ⟨gI, 0, none⟩) V V)) [0, 1, 2, 3, 4, 5, 6] [0, 1, 2, 5, 6] [] (by kernel_rfl) (by kernel_rfl) rfl (by kernel_rfl) (by kernel_rfl) (fun _ _ _ _ _ h => h) ?_ (fun hSS => ?_)
              · exact ⟨HS.out.bt.cell 0, HS.out.bt.cell 1, HI.out.cell 0⟩
              clear hSS
              generalize wr.drew = wD at HS HRW HI ⊢
              (refine wpSeq_mov rfl rfl ?_; intro o ho; simp only [List.getElem?_toArray, List.getElem?_cons_zero, List.getElem?_cons_succ, Option.some.injEq] at ho; subst ho; refine ⟨?_, Or.inl ⟨by rfl, fun W hSW => ?_⟩, ?_⟩; rotate_left; (focus (go_simp; first | done | with_reducible rfl)); try simp only [Act.put, List.setIfInBounds_toArray, List.set_cons_zero, List.set_cons_succ])
              (refine wpSeq_mov rfl rfl ?_; intro o ho; simp only [List.getElem?_toArray, List.getElem?_cons_zero, List.getElem?_cons_succ, Option.some.injEq] at ho; subst ho; refine ⟨?_, Or.inl ⟨by rfl, fun W hSW => ?_⟩, ?_⟩; rotate_left; (focus (go_simp; first | done | with_reducible rfl)); try simp only [Act.put, List.setIfInBounds_toArray, List.set_cons_zero, List.set_cons_succ])
              (refine wpSeq_mov rfl rfl ?_; intro o ho; simp only [List.getElem?_toArray, List.getElem?_cons_zero, List.getElem?_cons_succ, Option.some.injEq] at ho; subst ho; refine ⟨?_, Or.inl ⟨by rfl, fun W hSW => ?_⟩, ?_⟩; rotate_left; (focus (go_simp; first | done | with_reducible rfl)); try simp only [Act.put, List.setIfInBounds_toArray, List.set_cons_zero, List.set_cons_succ])
              (refine wpSeq_fix rfl rfl ?_; intro o ho; simp only [List.getElem?_toArray, List.getElem?_cons_zero, List.getElem?_cons_succ, Option.some.injEq] at ho; subst ho; intro K hK)
              go_simp
              refine (copy2_any (padI s.2.1 V) l y (gI + 1) gI _ l0 hl HP1.out b1.1 (by omega) (by rw [HPL.out]; exact HI.out.cell 0) (by rw [HRW.out.cell, List.getElem?_toArray]; exact i64s_at HP1.out)).mono ?_
              rintro e w8 ⟨rfl, rfl⟩
              rw [HE1.out]
              (refine hK.out _ _ (fun _ => ⟨HS.out.bt.cell 0, HS.out.bt.cell 1, HI.out.cell 0⟩) ?_; clear hK K; try simp only [Act.put, List.setIfInBounds_toArray, List.set_cons_zero, List.set_cons_succ])
              have d0 := HS.out.br.cell 0
              have d1 := HS.out.br.cell 1
              have f0 := HS.out.br.frozen 0
              have f1 := HS.out.br.frozen 1
              have HX : Hid (Blk _ _ _ _) := (HS.out.br.set_ 0 (.int .i64 s.1.n)).set_ 1 (.slice A' s.1.as.length c')
              have HT0 : Hid (Blk _ _ _ _) := (HS.out.bt.far (p := ⟨w.heap.size + 2, 0, none⟩) (by simp) (.int .i64 s.1.n)).far (p := ⟨w.heap.size + 2, 1, none⟩) (by simp) (.slice A' s.1.as.length c')
              have HI0 : Hid (Blk _ _ _ _) := (HI.out.p.far (p := ⟨w.heap.size + 2, 0, none⟩) (by simp; omega) (.int .i64 s.1.n)).far (p := ⟨w.heap.size + 2, 1, none⟩) (by simp; omega) (.slice A' s.1.as.length c')
              (refine wpSeq_fix rfl rfl ?_; intro o ho; simp only [List.getElem?_toArray, List.getElem?_cons_zero, List.getElem?_cons_succ, Option.some.injEq] at ho; subst ho; intro K hK)
              go_simp
              (refine hK.out _ _ (fun _ => ⟨HT0.out.cell 0, HT0.out.cell 1, HI0.out.cell 0⟩) ?_; clear hK K; try simp only [Act.put, List.setIfInBounds_toArray, List.set_cons_zero, List.set_cons_succ])
              (refine wpSeq_mov rfl rfl ?_; intro o ho; simp only [List.getElem?_toArray, List.getElem?_cons_zero, List.getElem?_cons_succ, Option.some.injEq] at ho; subst ho; refine ⟨?_, Or.inl ⟨by rfl, fun W hSW => ?_⟩, ?_⟩; rotate_left; (focus (go_simp; first | done | with_reducible rfl)); try simp only [Act.put, List.setIfInBounds_toArray, List.set_cons_zero, List.set_cons_succ])
              (refine wpSeq_mov rfl rfl ?_; intro o ho; simp only [List.getElem?_toArray, List.getElem?_cons_zero, List.getElem?_cons_succ, Option.some.injEq] at ho; subst ho; refine ⟨?_, Or.inl ⟨by rfl, fun W hSW => ?_⟩, ?_⟩; rotate_left; (focus (go_simp; first | done | with_reducible rfl)); try simp only [Act.put, List.setIfInBounds_toArray, List.set_cons_zero, List.set_cons_succ])
              refine wpSeq_done ?_
              clear d0 d1 f0 f1
              have d0 := HX.out.cell 0
              have d1 := HX.out.cell 1
              go_wp2_with fail
              refine bodyPost_ret (v := .tuple #[.agg #[.int .i64 s.1.n, .slice A' s.1.as.length c'], .int .i64 (litI s.2.1 l), .int .i64 0]) (by simp [results, Try.results59, go_sem, d0, d1]) rfl ?_
              rw [HDN.out]
              have hq8 : ∀ b, (b < w.heap.size ∨ w7.heap.size ≤ b) → b ≠ w.heap.size + 2 := fun b hb e => by omega
              exact ⟨A', c', rfl, HS.out.cap, ((HS.out.prs.setCell hq8 _).setCell hq8 _).prs, (HS.out.low.setCell (p := ⟨w.heap.size + 2, 0, none⟩) (by simp) _).setCell (p := ⟨w.heap.size + 2, 1, none⟩) (by simp) _⟩
        · have HE : Hid (copyG to fr l by_ = (noG, 0, 1)) := copyG_no (by
            cases h : copyOk to fr l by_
            · rfl
            · obtain ⟨_, _, _, _, h5⟩ := copyOk_iff.1 h
              obtain ⟨x, hx, hb⟩ := List.any_eq_true.1 ha
              rw [h5 x hx] at hb
              cases hb)
          clear ha
          have d0 := H3.out.br.cell 0
          have d1 := H3.out.br.cell 1
          have f0 := H3.out.br.frozen 0
          have f1 := H3.out.br.frozen 1
          go_wp2_with fail
          refine bodyPost_ret (v := .tuple #[.agg #[.int .i64 0, .slice none 0 0], .int .i64 0, .int .i64 1]) (by simp [results, Try.results59, go_sem, d0, d1]) rfl ?_
          rw [HE.out]
          exact ⟨none, 0, rfl, Nat.le_refl _, Prs.nil, (H3.out.low.setCell (p := ⟨w.heap.size + 2, 0, none⟩) (by simp) _).setCell (p := ⟨w.heap.size + 2, 1, none⟩) (by simp) _⟩
      · have hn' : ((by_.length : Int) != fr.n) = true := by rw [bne_iff_ne]; exact hn
        have HE : Hid (copyG to fr l by_ = (noG, 0, 1)) := copyG_no (by unfold copyOk; rw [decide_eq_false hn]; simp)
        clear hn
        have d0 := H2.out.br.cell 0
        have d1 := H2.out.br.cell 1
        have f0 := H2.out.br.frozen 0
        have f1 := H2.out.br.frozen 1
        go_wp2_with fail
        refine bodyPost_ret (v := .tuple #[.agg #[.int .i64 0, .slice none 0 0], .int .i64 0, .int .i64 1]) (by simp [results, Try.results59, go_sem, d0, d1]) rfl ?_
        rw [HE.out]
        exact ⟨none, 0, rfl, Nat.le_refl _, Prs.nil, (H2.out.low.setCell (p := ⟨w.heap.size + 2, 0, none⟩) (by simp) _).setCell (p := ⟨w.heap.size + 2, 1, none⟩) (by simp) _⟩

end Go.Proofs.Ytbdhkagcbncefaa
