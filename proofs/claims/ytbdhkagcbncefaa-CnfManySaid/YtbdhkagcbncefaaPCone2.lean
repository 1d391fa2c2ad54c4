/- Copies of literals, what stands below them: plain data. -/
import Derived.Test.YtbdhkagcbncefaaG4
set_option linter.unusedVariables false
set_option linter.unusedSimpArgs false
namespace Go.Proofs.Ytbdhkagcbncefaa

/-- A literal, turned where the other number is odd. -/
def turnP (x l : Int) : Int := if l % 2 = 1 then flip x else x
def litI (is : List Int) (l : Int) : Int := turnP (is[(l / 2).toNat]?.getD 0) l

/-- A copy behind so many gates: the graph, the literals, the error. -/
def copyAt (to fr : Gr) (l : Int) (by_ : List Int) : Nat → Gr × List Int × Int
  | 0 => (to, 0 :: by_, 0)
  | k + 1 =>
    let s := copyAt to fr l by_ k
    match fr.as[k]? with
    | none => s
    | some p =>
      if s.2.2 = 0 then
        if (belowG fr l)[(fr.n + 1 + k).toNat]?.getD false then
          let r := andG s.1 (litI s.2.1 p.1) (litI s.2.1 p.2)
          if r.2.2 = 0 then (r.1, s.2.1 ++ [r.2.1], 0) else (noG, [], r.2.2)
        else (s.1, s.2.1 ++ [0], 0)
      else s

def copyOk (to fr : Gr) (l : Int) (by_ : List Int) : Bool := rightB to && (rightB fr && (litB fr l && (decide ((by_.length : Int) = fr.n) && by_.all (litB to))))
def copyG (to fr : Gr) (l : Int) (by_ : List Int) : Gr × Int × Int :=
  if copyOk to fr l by_ then
    let s := copyAt to fr l by_ fr.as.length
    if s.2.2 = 0 then (s.1, litI s.2.1 l, 0) else (noG, 0, s.2.2)
  else (noG, 0, 1)

/-- Inputs themselves, but for one. -/
def fixBy (n : Nat) (input : Int) (v : Bool) : List Int := (List.range n).map fun (i : Nat) => if (i : Int) + 1 = input then (if v then 1 else 0) else 2 * ((i : Int) + 1)
def fixG (g : Gr) (l input : Int) (v : Bool) : Gr × Int × Int :=
  if input < 1 ∨ g.n < input ∨ 2000 < g.n then (noG, 0, 1) else copyG g g l (fixBy g.n.toNat input v)

/-- The inputs below a literal, of so many. -/
def suppAt (g : Gr) (l : Int) : Nat → List Int
  | 0 => []
  | k + 1 => if (belowG g l)[k + 1]?.getD false then suppAt g l k ++ [(k : Int) + 1] else suppAt g l k
def suppG (g : Gr) (l : Int) : List Int := if rightB g && litB g l then suppAt g l g.n.toNat else []

/-! ### Copies -/
theorem turnP_zero (x : Int) {l : Int} (h : l % 2 = 0) : turnP x l = x := by unfold turnP; rw [if_neg (by omega)]
theorem turnP_lit {g : Gr} {x : Int} (l : Int) (h : litB g x = true) : litB g (turnP x l) = true := by
  unfold turnP
  split
  · exact flip_lit h
  · exact h
theorem turnP_litV {g : Gr} {xs : List Bool} {x l : Int} (h : 0 ≤ x) : litV g xs (turnP x l) = (litV g xs x != decide (l % 2 = 1)) := by
  unfold turnP
  split
  · rename_i e
    rw [litV_flip h, decide_eq_true e]
    simp
  · rename_i e
    rw [decide_eq_false e]
    simp

/-- Copies that are right so far. -/
structure CInv (to fr : Gr) (k : Nat) (s : Gr × List Int × Int) : Prop where
  right : rightB s.1 = true
  ext : Ext to s.1
  len : s.2.1.length = fr.n.toNat + 1 + k
  lit : ∀ x ∈ s.2.1, litB s.1 x = true
  more : s.1.as.length ≤ to.as.length + k

theorem copyOk_iff {to fr : Gr} {l : Int} {by_ : List Int} : copyOk to fr l by_ = true ↔ rightB to = true ∧ rightB fr = true ∧ litB fr l = true ∧ (by_.length : Int) = fr.n ∧ ∀ x ∈ by_, litB to x = true := by
  unfold copyOk
  simp only [Bool.and_eq_true, decide_eq_true_eq, List.all_eq_true]

theorem zero_lit {g : Gr} (h : rightB g = true) : litB g 0 = true := by
  have := right_vars h
  exact lit_of h (by omega) (by omega)

theorem litI_lit {g : Gr} {is : List Int} {l : Int} (hr : rightB g = true) (h : ∀ x ∈ is, litB g x = true) : litB g (litI is l) = true := by
  unfold litI
  refine turnP_lit l ?_
  cases e : is[(l / 2).toNat]? with
  | none => exact zero_lit hr
  | some x => exact h x (List.mem_of_getElem? e)

theorem copyAt_inv {to fr : Gr} {l : Int} {by_ : List Int} (h : copyOk to fr l by_ = true) : ∀ k, k ≤ fr.as.length → (copyAt to fr l by_ k).2.2 = 0 → CInv to fr k (copyAt to fr l by_ k)
  | 0, _, _ => by
    obtain ⟨h1, h2, h3, h4, h5⟩ := copyOk_iff.1 h
    refine ⟨h1, Ext.refl _, ?_, ?_, Nat.le_refl _⟩
    · simp only [copyAt, List.length_cons]
      omega
    · intro x hx
      rcases List.mem_cons.1 hx with rfl | hx
      · exact zero_lit h1
      · exact h5 x hx
  | k + 1, hk, he => by
    have hp := List.getElem?_eq_getElem (by omega : k < fr.as.length)
    rw [copyAt, hp] at he ⊢
    simp only at he ⊢
    by_cases e0 : (copyAt to fr l by_ k).2.2 = 0
    · have ih := copyAt_inv h k (by omega) e0
      rw [if_pos e0] at he ⊢
      split at he
      · rename_i hm
        rw [if_pos hm]
        split at he
        · rename_i e1
          rw [if_pos e1]
          have hg := andG_grows e1
          obtain ⟨qs, q1, q2⟩ := hg.more
          refine ⟨hg.right, ih.ext.trans hg.ext, ?_, ?_, ?_⟩
          · simp only [List.length_append, List.length_singleton, ih.len]
            omega
          · intro x hx
            rcases List.mem_append.1 hx with hx | hx
            · exact hg.ext.lit (ih.lit x hx)
            · simp only [List.mem_cons, List.not_mem_nil, or_false] at hx
              subst hx
              exact hg.lit
          · simp only [q1, List.length_append]
            have := ih.more
            omega
        · rename_i e1
          exact absurd he e1
      · rename_i hm
        rw [if_neg hm]
        refine ⟨ih.right, ih.ext, ?_, ?_, ?_⟩
        · simp only [List.length_append, List.length_singleton, ih.len]
          omega
        · intro x hx
          rcases List.mem_append.1 hx with hx | hx
          · exact ih.lit x hx
          · simp only [List.mem_cons, List.not_mem_nil, or_false] at hx
            subst hx
            exact zero_lit ih.right
        · have := ih.more
          simp only
          omega
    · rw [if_neg e0] at he
      exact absurd he e0

/-- There is room for a copy. -/
theorem copyAt_room {to fr : Gr} {l : Int} {by_ : List Int} (h : copyOk to fr l by_ = true) (hv : to.vars + fr.as.length ≤ 2000) : ∀ k, k ≤ fr.as.length → (copyAt to fr l by_ k).2.2 = 0
  | 0, _ => rfl
  | k + 1, hk => by
    have hp := List.getElem?_eq_getElem (by omega : k < fr.as.length)
    have e0 := copyAt_room h hv k (by omega)
    have ih := copyAt_inv h k (by omega) e0
    rw [copyAt, hp]
    simp only
    rw [if_pos e0]
    split
    · have e1 : (andG (copyAt to fr l by_ k).1 (litI (copyAt to fr l by_ k).2.1 (fr.as[k]).1) (litI (copyAt to fr l by_ k).2.1 (fr.as[k]).2)).2.2 = 0 := by
        refine andG_ok_of ih.right (litI_lit ih.right ih.lit) (litI_lit ih.right ih.lit) ?_
        have h1 := ih.more
        have h2 := ih.ext.1
        unfold Gr.vars at hv ⊢
        omega
      rw [if_pos e1]
    · rfl

/-! ### What stands below, as a relation -/
/-- Variable u stands under variable v, or is it. -/
inductive Und (g : Gr) : Int → Int → Prop
  | self (v : Int) : Und g v v
  | left {j : Nat} {p : Pr} {u : Int} : g.as[j]? = some p → Und g (p.1 / 2) u → Und g (g.n + 1 + j) u
  | right {j : Nat} {p : Pr} {u : Int} : g.as[j]? = some p → Und g (p.2 / 2) u → Und g (g.n + 1 + j) u

theorem Und.trans {g : Gr} {a b c : Int} (h : Und g a b) (h' : Und g b c) : Und g a c := by
  induction h with
  | self v => exact h'
  | left hp _ ih => exact .left hp (ih h')
  | right hp _ ih => exact .right hp (ih h')

theorem gate_less {g : Gr} (hr : rightB g = true) {j : Nat} {p : Pr} (h : g.as[j]? = some p) : 2 ≤ p.2 ∧ p.2 / 2 < p.1 / 2 ∧ p.1 / 2 < g.n + 1 + j := by
  obtain ⟨_, hall, _⟩ := (right_iff g).1 hr
  exact (of_decide_eq_true (hall j p h) : 2 ≤ p.2 ∧ p.2 / 2 < p.1 / 2 ∧ p.1 / 2 < g.n + 1 + j)

theorem mark_mono {n : Int} {m : List Bool} {i : Nat} {p : Pr} {u : Nat} (h : m[u]? = some true) : (mark n m i p)[u]? = some true := by
  have hu := (List.getElem?_eq_some_iff.1 h).1
  have hset : ∀ (m : List Bool) (a : Nat), m[u]? = some true → (m.set a true)[u]? = some true := fun m a h => by
    have hu := (List.getElem?_eq_some_iff.1 h).1
    by_cases e : a = u
    · subst e
      rw [List.getElem?_set_self hu]
    · rw [List.getElem?_set_ne e, h]
  unfold mark
  split
  · exact hset _ _ (hset _ _ h)
  · exact h

theorem marksAt_mono {g : Gr} {m0 : List Bool} {k u : Nat} (h : (marksAt g m0 k)[u]? = some true) : ∀ j, (marksAt g m0 (k + j))[u]? = some true
  | 0 => h
  | j + 1 => by
    have ih := marksAt_mono h j
    show (marksAt g m0 (k + j + 1))[u]? = _
    rw [marksAt]
    split
    · exact mark_mono ih
    · exact ih

/-- What is marked stands below. -/
theorem marksAt_und {g : Gr} (hr : rightB g = true) {l : Int} (hl : litB g l = true) : ∀ k, k ≤ g.as.length → ∀ u : Nat, (marksAt g (mark0 g l) k)[u]? = some true → Und g (l / 2) u
  | 0, _, u, h => by
    have l0 := litB_ge hl
    unfold marksAt mark0 at h
    by_cases e : (l / 2).toNat = u
    · have e' : l / 2 = (u : Int) := by omega
      rw [e']
      exact .self _
    · rw [List.getElem?_set_ne e, List.getElem?_replicate] at h
      split at h <;> cases h
  | k + 1, hk, u, h => by
    have ih := marksAt_und hr hl k (by omega)
    have hp := List.getElem?_eq_getElem (by omega : g.as.length - 1 - k < g.as.length)
    obtain ⟨n0, _, _, _⟩ := (size_iff g).1 (right_size hr)
    obtain ⟨m1, m2, m3⟩ := gate_less hr hp
    rw [marksAt_succ rfl hp] at h
    unfold mark at h
    split at h
    · rename_i hm
      have hm' : (marksAt g (mark0 g l) k)[(g.n + 1 + (g.as.length - 1 - k : Nat)).toNat]? = some true := by
        cases e : (marksAt g (mark0 g l) k)[(g.n + 1 + (g.as.length - 1 - k : Nat)).toNat]? with
        | none => rw [e] at hm; cases hm
        | some b => rw [e] at hm; cases b <;> simp_all
      have h0 := ih _ hm'
      rw [show (((g.n + 1 + (g.as.length - 1 - k : Nat)).toNat : Nat) : Int) = g.n + 1 + (g.as.length - 1 - k : Nat) from by omega] at h0
      by_cases e2 : ((g.as[g.as.length - 1 - k]).2 / 2).toNat = u
      · have e' : (g.as[g.as.length - 1 - k]).2 / 2 = (u : Int) := by omega
        exact h0.trans (.right hp (by rw [e']; exact .self _))
      · rw [List.getElem?_set_ne e2] at h
        by_cases e1 : ((g.as[g.as.length - 1 - k]).1 / 2).toNat = u
        · have e' : (g.as[g.as.length - 1 - k]).1 / 2 = (u : Int) := by omega
          exact h0.trans (.left hp (by rw [e']; exact .self _))
        · rw [List.getElem?_set_ne e1] at h
          exact ih u h
    · exact ih u h

/-- A variable that no gate to come marks stays as it is. -/
theorem marksAt_keep {g : Gr} (hr : rightB g = true) {m0 : List Bool} {v : Nat} : ∀ k d, k + d ≤ g.as.length → g.n + 1 + ((g.as.length - k : Nat) : Int) ≤ v + 1 → (marksAt g m0 (k + d))[v]? = (marksAt g m0 k)[v]?
  | k, 0, _, _ => rfl
  | k, d + 1, hk, hv => by
    have ih := marksAt_keep hr (m0 := m0) (v := v) k d (by omega) hv
    have hp := List.getElem?_eq_getElem (by omega : g.as.length - 1 - (k + d) < g.as.length)
    obtain ⟨m1, m2, m3⟩ := gate_less hr hp
    show (marksAt g m0 (k + d + 1))[v]? = _
    rw [marksAt_succ rfl hp, ← ih]
    unfold mark
    split
    · rw [List.getElem?_set_ne (by omega), List.getElem?_set_ne (by omega)]
    · rfl

/-- A gate that is marked has both its parts marked. -/
theorem below_gate {g : Gr} (hr : rightB g = true) (l : Int) {j : Nat} {p : Pr} (h : g.as[j]? = some p) (hm : (belowG g l)[(g.n + 1 + j).toNat]? = some true) : (belowG g l)[(p.1 / 2).toNat]? = some true ∧ (belowG g l)[(p.2 / 2).toNat]? = some true := by
  have hj := (List.getElem?_eq_some_iff.1 h).1
  obtain ⟨n0, _, _, _⟩ := (size_iff g).1 (right_size hr)
  obtain ⟨m1, m2, m3⟩ := gate_less hr h
  have e : (g.as.length - 1 - j) + (j + 1) = g.as.length := by omega
  have hk := marksAt_keep hr (m0 := mark0 g l) (v := (g.n + 1 + j).toNat) (g.as.length - 1 - j) (j + 1) (by omega) (by omega)
  rw [e] at hk
  have hm' : (marksAt g (mark0 g l) (g.as.length - 1 - j))[(g.n + 1 + j).toNat]? = some true := by rw [← hk]; exact hm
  have hs := marksAt_succ (m0 := mark0 g l) (k := g.as.length - 1 - j) (j := j) (by omega) h
  rw [mark_yes hm'] at hs
  have hlen : (marksAt g (mark0 g l) (g.as.length - 1 - j)).length = g.vars.toNat := by rw [marksAt_length, mark0_length]
  have e2 : (g.as.length - 1 - j + 1) + j = g.as.length := by omega
  have hvv : g.vars.toNat = (g.n + 1 + (g.as.length : Int)).toNat := rfl
  have h1 : (marksAt g (mark0 g l) (g.as.length - 1 - j + 1))[(p.1 / 2).toNat]? = some true := by
    rw [hs, List.getElem?_set_ne (by omega), List.getElem?_set_self (by rw [hlen]; omega)]
  have h2 : (marksAt g (mark0 g l) (g.as.length - 1 - j + 1))[(p.2 / 2).toNat]? = some true := by
    rw [hs, List.getElem?_set_self (by rw [List.length_set, hlen]; omega)]
  have a1 := marksAt_mono h1 j
  have a2 := marksAt_mono h2 j
  rw [e2] at a1 a2
  exact ⟨a1, a2⟩

theorem below_self {g : Gr} {l : Int} (hl : litB g l = true) : (belowG g l)[(l / 2).toNat]? = some true := by
  obtain ⟨n0, _, l0, l1⟩ := (litB_iff g l).1 hl
  have h0 : (marksAt g (mark0 g l) 0)[(l / 2).toNat]? = some true := by
    unfold marksAt mark0
    rw [List.getElem?_set_self (by rw [List.length_replicate]; unfold Gr.vars; omega)]
  have := marksAt_mono h0 g.as.length
  rw [Nat.zero_add] at this
  exact this

theorem und_closed {g : Gr} (hr : rightB g = true) (l : Int) {v u : Int} (h : Und g v u) (hm : (belowG g l)[v.toNat]? = some true) : (belowG g l)[u.toNat]? = some true := by
  induction h with
  | self v => exact hm
  | left hp _ ih => exact ih (below_gate hr l hp hm).1
  | right hp _ ih => exact ih (below_gate hr l hp hm).2

/-- Marked is what stands below. -/
theorem below_iff {g : Gr} (hr : rightB g = true) {l : Int} (hl : litB g l = true) (u : Nat) : (belowG g l)[u]? = some true ↔ Und g (l / 2) u := by
  constructor
  · exact marksAt_und hr hl _ (Nat.le_refl _) u
  · intro h
    have := und_closed hr l h (below_self hl)
    rwa [Int.toNat_natCast] at this

theorem und_low {g : Gr} (hr : rightB g = true) {v u : Int} (h : Und g v u) : u ≤ v := by
  induction h with
  | self v => exact Int.le_refl _
  | left hp _ ih => have := gate_less hr hp; omega
  | right hp _ ih => have := gate_less hr hp; omega

theorem und_input {g : Gr} (hr : rightB g = true) {v u : Int} (h : Und g v u) (hv : v ≤ g.n) : u = v := by
  cases h with
  | self v => rfl
  | left hp _ => omega
  | right hp _ => omega

/-- Under an old variable of a graph that goes on stands what stood there. -/
theorem und_ext {g h : Gr} (hx : Ext g h) (hr : rightB g = true) {v u : Int} (hu : Und h v u) : v < g.vars → Und g v u := by
  obtain ⟨hn, qs, hq⟩ := hx
  induction hu with
  | self v => exact fun _ => .self _
  | @left j p u hp _ ih =>
    intro hv
    have hj : j < g.as.length := by unfold Gr.vars at hv; omega
    rw [hq, List.getElem?_append_left hj] at hp
    have := gate_less hr hp
    have hh := ih (by unfold Gr.vars at hv ⊢; omega)
    rw [hn]
    exact .left hp hh
  | @right j p u hp _ ih =>
    intro hv
    have hj : j < g.as.length := by unfold Gr.vars at hv; omega
    rw [hq, List.getElem?_append_left hj] at hp
    have := gate_less hr hp
    have hh := ih (by unfold Gr.vars at hv ⊢; omega)
    rw [hn]
    exact .right hp hh

/-- What stands under what And makes: itself, or something under what it is made of. -/
theorem andHi_und {g : Gr} {a b : Int} (hr : rightB g = true) (ha : litB g a = true) (hb : litB g b = true) (hab : b ≤ a) (he : (andHi g a b).2.2 = 0) {u : Int} (hu : Und (andHi g a b).1 ((andHi g a b).2.1 / 2) u) (h1 : 1 ≤ u) (h2 : u ≤ g.n) : Und g (a / 2) u ∨ Und g (b / 2) u := by
  have ha' := lit_lt ha
  have hb' := lit_lt hb
  have hin : ∀ {h : Gr} {j : Nat} {p : Pr}, Ext g h → rightB h = true → h.as[j]? = some p → p = (a, b) → Und h (h.n + 1 + j) u → Und g (a / 2) u ∨ Und g (b / 2) u := by
    intro h j p hx hrh hp hpe hu
    have hn := hx.1
    generalize e : h.n + 1 + (j : Int) = v at hu
    cases hu with
    | self v => omega
    | @left j' p' u hp' hu' =>
      obtain rfl : j' = j := by omega
      rw [hp] at hp'
      cases hp'
      rw [hpe] at hu'
      exact .inl (und_ext hx hr hu' (by omega))
    | @right j' p' u hp' hu' =>
      obtain rfl : j' = j := by omega
      rw [hp] at hp'
      cases hp'
      rw [hpe] at hu'
      exact .inr (und_ext hx hr hu' (by omega))
  rcases andHi_cases g a b with ⟨ht, h⟩ | ⟨ht, h⟩ | ⟨ht, i, hp, h⟩ | ⟨ht, hp, hv, h⟩ | ⟨ht, hp, hv, h⟩
  · rw [h] at hu
    have := und_low hr hu
    simp only at this
    omega
  · rw [h] at hu
    exact .inl hu
  · rw [h] at hu
    simp only at hu
    rw [show 2 * (g.n + 1 + (i : Int)) / 2 = g.n + 1 + i from by omega] at hu
    exact hin (Ext.refl g) hr (placeOf_some hp) rfl hu
  · rw [h] at he
    cases he
  · rw [h] at hu
    simp only at hu
    rw [show 2 * g.vars / 2 = g.n + 1 + (g.as.length : Int) from by unfold Gr.vars; omega] at hu
    have hg := andHi_grows hr ha hb hab he
    rw [h] at hg
    exact hin (h := ⟨g.n, g.as ++ [(a, b)]⟩) (j := g.as.length) (p := (a, b)) ⟨rfl, [(a, b)], rfl⟩ hg.right (by simp) rfl hu

theorem andG_und {g : Gr} {a b : Int} (he : (andG g a b).2.2 = 0) {u : Int} (hu : Und (andG g a b).1 ((andG g a b).2.1 / 2) u) (h1 : 1 ≤ u) (h2 : u ≤ g.n) : Und g (a / 2) u ∨ Und g (b / 2) u := by
  obtain ⟨hr, ha, hb, h⟩ := andG_zero he
  obtain ⟨k1, k2, k3⟩ := max_min ha hb
  rw [h] at he hu
  have := andHi_und hr k1 k2 k3 he hu h1 h2
  rcases Int.le_total a b with hab | hab
  · rw [Int.max_eq_right hab, Int.min_eq_left hab] at this
    exact this.symm
  · rw [Int.max_eq_left hab, Int.min_eq_right hab] at this
    exact this

theorem turnP_half {x l : Int} : turnP x l / 2 = x / 2 := by
  unfold turnP
  split
  · exact flip_half
  · rfl

/-- An input that stands below a copy stands below what an input below the literal is copied to. -/
theorem copyAt_und {to fr : Gr} {l : Int} {by_ : List Int} (h : copyOk to fr l by_ = true) {u : Int} (h1 : 1 ≤ u) (h2 : u ≤ to.n) : ∀ k, k ≤ fr.as.length → (copyAt to fr l by_ k).2.2 = 0 →
    ∀ (v : Nat) x, (copyAt to fr l by_ k).2.1[v]? = some x → Und (copyAt to fr l by_ k).1 (x / 2) u → ∃ (i : Nat) (y : Int), by_[i]? = some y ∧ Und fr v ((i : Int) + 1) ∧ Und to (y / 2) u
  | 0, _, _, v, x, hv, hu => by
    obtain ⟨r1, r2, r3, r4, r5⟩ := copyOk_iff.1 h
    match v, hv with
    | 0, hv =>
      simp only [copyAt, List.getElem?_cons_zero, Option.some.injEq] at hv
      subst hv
      have := und_low r1 hu
      omega
    | v + 1, hv =>
      simp only [copyAt, List.getElem?_cons_succ] at hv
      exact ⟨v, x, hv, by rw [Int.natCast_succ]; exact .self _, hu⟩
  | k + 1, hk, he, v, x, hv, hu => by
    obtain ⟨r1, r2, r3, r4, r5⟩ := copyOk_iff.1 h
    have hp := List.getElem?_eq_getElem (by omega : k < fr.as.length)
    obtain ⟨m1, m2, m3⟩ := gate_less r2 hp
    have n0 := (right_vars r2).1
    rw [copyAt, hp] at he hv hu
    simp only at he hv hu
    by_cases e0 : (copyAt to fr l by_ k).2.2 = 0
    · have ih := copyAt_und h h1 h2 k (by omega) e0
      have inv := copyAt_inv h k (by omega) e0
      have hlen := inv.len
      have hget : ∀ (q : Int), 0 ≤ q → q / 2 < fr.n + 1 + k → ∃ y, (copyAt to fr l by_ k).2.1[(q / 2).toNat]? = some y ∧ litI (copyAt to fr l by_ k).2.1 q / 2 = y / 2 := fun q q0 q1 => by
        have hq : (q / 2).toNat < (copyAt to fr l by_ k).2.1.length := by omega
        refine ⟨_, List.getElem?_eq_getElem hq, ?_⟩
        unfold litI
        rw [List.getElem?_eq_getElem hq, Option.getD_some, turnP_half]
      rw [if_pos e0] at he hv hu
      split at he
      · rename_i hm
        rw [if_pos hm] at hv hu
        split at he
        · rename_i e1
          rw [if_pos e1] at hv hu
          have hg := andG_grows e1
          simp only at hv hu
          by_cases hvl : v < (copyAt to fr l by_ k).2.1.length
          · rw [List.getElem?_append_left hvl] at hv
            have hx := lit_lt (inv.lit x (List.mem_of_getElem? hv))
            have hx0 := litB_ge (inv.lit x (List.mem_of_getElem? hv))
            exact ih v x hv (und_ext hg.ext inv.right hu (by omega))
          · have hve : v = (copyAt to fr l by_ k).2.1.length := by
              have := (List.getElem?_eq_some_iff.1 hv).1
              rw [List.length_append, List.length_singleton] at this
              omega
            subst hve
            rw [List.getElem?_concat_length, Option.some.injEq] at hv
            subst hv
            rcases andG_und e1 hu h1 (by rw [inv.ext.1]; exact h2) with hu | hu
            · obtain ⟨y, hy1, hy2⟩ := hget (fr.as[k]).1 (by omega) (by omega)
              rw [hy2] at hu
              obtain ⟨i, z, z1, z2, z3⟩ := ih _ y hy1 hu
              refine ⟨i, z, z1, ?_, z3⟩
              rw [show (((copyAt to fr l by_ k).2.1.length : Nat) : Int) = fr.n + 1 + k from by omega]
              rw [show ((((fr.as[k]).1 / 2).toNat : Nat) : Int) = (fr.as[k]).1 / 2 from by omega] at z2
              exact .left hp z2
            · obtain ⟨y, hy1, hy2⟩ := hget (fr.as[k]).2 (by omega) (by omega)
              rw [hy2] at hu
              obtain ⟨i, z, z1, z2, z3⟩ := ih _ y hy1 hu
              refine ⟨i, z, z1, ?_, z3⟩
              rw [show (((copyAt to fr l by_ k).2.1.length : Nat) : Int) = fr.n + 1 + k from by omega]
              rw [show ((((fr.as[k]).2 / 2).toNat : Nat) : Int) = (fr.as[k]).2 / 2 from by omega] at z2
              exact .right hp z2
        · rename_i e1
          exact absurd he e1
      · rename_i hm
        rw [if_neg hm] at hv hu
        simp only at hv hu
        by_cases hvl : v < (copyAt to fr l by_ k).2.1.length
        · rw [List.getElem?_append_left hvl] at hv
          exact ih v x hv hu
        · have hve : v = (copyAt to fr l by_ k).2.1.length := by
            have := (List.getElem?_eq_some_iff.1 hv).1
            rw [List.length_append, List.length_singleton] at this
            omega
          subst hve
          rw [List.getElem?_concat_length, Option.some.injEq] at hv
          subst hv
          have := und_low inv.right hu
          omega
    · rw [if_neg e0] at he
      exact absurd he e0

/-! ### What copies are -/
/-- The values of the literals that stand for inputs. -/
def byVals (to : Gr) (xs : List Bool) (by_ : List Int) : List Bool := by_.map (litV to xs)

theorem copyAt_sem {to fr : Gr} {l : Int} {by_ : List Int} {xs : List Bool} (h : copyOk to fr l by_ = true) (hn : (xs.length : Int) = to.n) : ∀ k, k ≤ fr.as.length → (copyAt to fr l by_ k).2.2 = 0 →
    ∀ (v : Nat) x, (copyAt to fr l by_ k).2.1[v]? = some x → (fr.n < (v : Int) → (belowG fr l)[v]? = some true) → litV (copyAt to fr l by_ k).1 xs x = litV fr (byVals to xs by_) (2 * (v : Int))
  | 0, _, _, v, x, hv, hm => by
    obtain ⟨r1, r2, r3, r4, r5⟩ := copyOk_iff.1 h
    match v, hv with
    | 0, hv =>
      simp only [copyAt, List.getElem?_cons_zero, Option.some.injEq] at hv
      subst hv
      rw [litV_zero]
      exact (litV_zero _ _).symm
    | v + 1, hv =>
      simp only [copyAt, List.getElem?_cons_succ] at hv ⊢
      have : (byVals to xs by_)[v]? = some (litV to xs x) := by unfold byVals; rw [List.getElem?_map, hv]; rfl
      rw [Int.natCast_succ, litV_input this]
  | k + 1, hk, he, v, x, hv, hm => by
    obtain ⟨r1, r2, r3, r4, r5⟩ := copyOk_iff.1 h
    have hp := List.getElem?_eq_getElem (by omega : k < fr.as.length)
    obtain ⟨m1, m2, m3⟩ := gate_less r2 hp
    have n0 := (right_vars r2).1
    have hbl : ((byVals to xs by_).length : Int) = fr.n := by unfold byVals; rw [List.length_map]; exact r4
    rw [copyAt, hp] at he hv ⊢
    simp only at he hv ⊢
    by_cases e0 : (copyAt to fr l by_ k).2.2 = 0
    · have ih := copyAt_sem h hn k (by omega) e0
      have inv := copyAt_inv h k (by omega) e0
      have hlen := inv.len
      have hns : (xs.length : Int) = (copyAt to fr l by_ k).1.n := hn.trans inv.ext.1.symm
      have hget : ∀ (q : Int), 0 ≤ q → q / 2 < fr.n + 1 + k → (belowG fr l)[(q / 2).toNat]? = some true → litV (copyAt to fr l by_ k).1 xs (litI (copyAt to fr l by_ k).2.1 q) = litV fr (byVals to xs by_) q := fun q q0 q1 hqm => by
        have hq : (q / 2).toNat < (copyAt to fr l by_ k).2.1.length := by omega
        have hgq := List.getElem?_eq_getElem hq
        have hih := ih _ _ hgq (fun _ => hqm)
        unfold litI
        rw [hgq, Option.getD_some, turnP_litV (litB_ge (inv.lit _ (List.mem_of_getElem? hgq))), hih, show (2 * (((q / 2).toNat : Nat) : Int)) = 2 * (q / 2) from by omega]
        by_cases hodd : q % 2 = 1
        · have := litV_even (g := fr) (xs := byVals to xs by_) (l := 2 * (q / 2)) (by omega) (by omega)
          rw [show 2 * (q / 2) + 1 = q from by omega] at this
          rw [this, decide_eq_true hodd]
          simp
        · rw [show 2 * (q / 2) = q from by omega, decide_eq_false hodd]
          simp
      rw [if_pos e0] at he hv ⊢
      split at he
      · rename_i hmk
        rw [if_pos hmk] at hv ⊢
        have hmk' : (belowG fr l)[(fr.n + 1 + (k : Int)).toNat]? = some true := by
          cases e : (belowG fr l)[(fr.n + 1 + (k : Int)).toNat]? with
          | none => rw [e] at hmk; cases hmk
          | some b => rw [e] at hmk; cases b <;> simp_all
        obtain ⟨b1, b2⟩ := below_gate r2 l hp hmk'
        split at he
        · rename_i e1
          rw [if_pos e1] at hv ⊢
          have hg := andG_grows e1
          simp only at hv ⊢
          by_cases hvl : v < (copyAt to fr l by_ k).2.1.length
          · rw [List.getElem?_append_left hvl] at hv
            rw [litV_ext hg.ext hns (inv.lit x (List.mem_of_getElem? hv))]
            exact ih v x hv hm
          · have hve : v = (copyAt to fr l by_ k).2.1.length := by
              have := (List.getElem?_eq_some_iff.1 hv).1
              rw [List.length_append, List.length_singleton] at this
              omega
            subst hve
            rw [List.getElem?_concat_length, Option.some.injEq] at hv
            subst hv
            rw [andG_sem hns e1, hget _ (by omega) (by omega) b1, hget _ (by omega) (by omega) b2, show (((copyAt to fr l by_ k).2.1.length : Nat) : Int) = fr.n + 1 + k from by omega, litV_gate r2 hbl hp]
        · rename_i e1
          exact absurd he e1
      · rename_i hmk
        rw [if_neg hmk] at hv ⊢
        simp only at hv ⊢
        by_cases hvl : v < (copyAt to fr l by_ k).2.1.length
        · rw [List.getElem?_append_left hvl] at hv
          exact ih v x hv hm
        · have hve : v = (copyAt to fr l by_ k).2.1.length := by
            have := (List.getElem?_eq_some_iff.1 hv).1
            rw [List.length_append, List.length_singleton] at this
            omega
          have hmv := hm (by omega)
          rw [show v = (fr.n + 1 + (k : Int)).toNat from by omega] at hmv
          rw [hmv] at hmk
          exact absurd rfl hmk
    · rw [if_neg e0] at he
      exact absurd he e0

/-- What comes of a copy that is made. -/
theorem copyG_made {to fr : Gr} {l : Int} {by_ : List Int} (h : copyOk to fr l by_ = true) (he : (copyG to fr l by_).2.2 = 0) : (copyAt to fr l by_ fr.as.length).2.2 = 0 ∧ copyG to fr l by_ = ((copyAt to fr l by_ fr.as.length).1, litI (copyAt to fr l by_ fr.as.length).2.1 l, 0) := by
  unfold copyG at he ⊢
  rw [if_pos h] at he ⊢
  simp only at he ⊢
  split at he
  · rename_i e
    rw [if_pos e]
    exact ⟨e, rfl⟩
  · rename_i e
    exact absurd he e

theorem copyG_ok {to fr : Gr} {l : Int} {by_ : List Int} (he : (copyG to fr l by_).2.2 = 0) : copyOk to fr l by_ = true := by
  cases h : copyOk to fr l by_ with
  | true => rfl
  | false =>
    unfold copyG at he
    rw [h] at he
    cases he

theorem copyG_room {to fr : Gr} {l : Int} {by_ : List Int} (h : copyOk to fr l by_ = true) (hv : to.vars + fr.as.length ≤ 2000) : (copyG to fr l by_).2.2 = 0 := by
  have := copyAt_room h hv _ (Nat.le_refl _)
  unfold copyG
  rw [if_pos h]
  simp only
  rw [if_pos this]

/-- A copy goes on from the graph it is made in. -/
theorem copyG_grows {to fr : Gr} {l : Int} {by_ : List Int} (he : (copyG to fr l by_).2.2 = 0) : Grows to (copyG to fr l by_).1 (copyG to fr l by_).2.1 fr.as.length := by
  have h := copyG_ok he
  obtain ⟨e, e'⟩ := copyG_made h he
  have inv := copyAt_inv h _ (Nat.le_refl _) e
  obtain ⟨x1, qs, x2⟩ := inv.ext
  rw [e']
  refine ⟨inv.right, litI_lit inv.right inv.lit, x1, qs, x2, ?_⟩
  have := inv.more
  rw [x2, List.length_append] at this
  omega

/-- A copy is what the literal is, by what the others are. -/
theorem copyG_sem {to fr : Gr} {l : Int} {by_ : List Int} {xs : List Bool} (hn : (xs.length : Int) = to.n) (he : (copyG to fr l by_).2.2 = 0) : litV (copyG to fr l by_).1 xs (copyG to fr l by_).2.1 = litV fr (byVals to xs by_) l := by
  have h := copyG_ok he
  obtain ⟨e, e'⟩ := copyG_made h he
  obtain ⟨r1, r2, r3, r4, r5⟩ := copyOk_iff.1 h
  have inv := copyAt_inv h _ (Nat.le_refl _) e
  obtain ⟨n0, _, l0, l1⟩ := (litB_iff fr l).1 r3
  have hlen := inv.len
  have hq : (l / 2).toNat < (copyAt to fr l by_ fr.as.length).2.1.length := by omega
  have hgq := List.getElem?_eq_getElem hq
  have hs := copyAt_sem h hn _ (Nat.le_refl _) e _ _ hgq (fun _ => below_self r3)
  rw [e']
  simp only
  unfold litI
  rw [hgq, Option.getD_some, turnP_litV (litB_ge (inv.lit _ (List.mem_of_getElem? hgq))), hs, show (2 * (((l / 2).toNat : Nat) : Int)) = 2 * (l / 2) from by omega]
  by_cases hodd : l % 2 = 1
  · have := litV_even (g := fr) (xs := byVals to xs by_) (l := 2 * (l / 2)) (by omega) (by omega)
    rw [show 2 * (l / 2) + 1 = l from by omega] at this
    rw [this, decide_eq_true hodd]
    simp
  · rw [show 2 * (l / 2) = l from by omega, decide_eq_false hodd]
    simp

/-- An input that stands below a copy. -/
theorem copyG_und {to fr : Gr} {l : Int} {by_ : List Int} (he : (copyG to fr l by_).2.2 = 0) {u : Int} (h1 : 1 ≤ u) (h2 : u ≤ to.n) (hu : Und (copyG to fr l by_).1 ((copyG to fr l by_).2.1 / 2) u) : ∃ (i : Nat) (y : Int), by_[i]? = some y ∧ Und fr (l / 2) ((i : Int) + 1) ∧ Und to (y / 2) u := by
  have h := copyG_ok he
  obtain ⟨e, e'⟩ := copyG_made h he
  obtain ⟨r1, r2, r3, r4, r5⟩ := copyOk_iff.1 h
  have inv := copyAt_inv h _ (Nat.le_refl _) e
  obtain ⟨n0, _, l0, l1⟩ := (litB_iff fr l).1 r3
  have hlen := inv.len
  have hq : (l / 2).toNat < (copyAt to fr l by_ fr.as.length).2.1.length := by omega
  have hgq := List.getElem?_eq_getElem hq
  rw [e'] at hu
  simp only at hu
  unfold litI at hu
  rw [hgq, Option.getD_some, turnP_half] at hu
  obtain ⟨i, y, y1, y2, y3⟩ := copyAt_und h h1 h2 _ (Nat.le_refl _) e _ _ hgq hu
  rw [show (((l / 2).toNat : Nat) : Int) = l / 2 from by omega] at y2
  exact ⟨i, y, y1, y2, y3⟩

/-- What stands below alone matters. -/
theorem litV_und {g : Gr} (hr : rightB g = true) {xs ys : List Bool} (hx : (xs.length : Int) = g.n) (hy : (ys.length : Int) = g.n) : ∀ (v : Nat), (v : Int) < g.vars → (∀ i : Nat, Und g v ((i : Int) + 1) → xs[i]? = ys[i]?) → litV g xs (2 * (v : Int)) = litV g ys (2 * (v : Int)) := by
  intro v
  induction v using Nat.strongRecOn with
  | _ v ih =>
    intro hv hi
    by_cases h0 : v = 0
    · subst h0
      exact (litV_zero _ _).trans (litV_zero _ _).symm
    · by_cases h1 : (v : Int) ≤ g.n
      · have e := hi (v - 1) (by rw [show (((v - 1 : Nat) : Int) + 1) = v from by omega]; exact .self _)
        have hl : v - 1 < xs.length := by omega
        have hgx := List.getElem?_eq_getElem hl
        rw [hgx] at e
        have a := litV_input (g := g) hgx
        have b := litV_input (g := g) e.symm
        rw [show 2 * (((v - 1 : Nat) : Int) + 1) = 2 * v from by omega] at a b
        rw [a, b]
      · obtain ⟨j, hj⟩ : ∃ j : Nat, (v : Int) = g.n + 1 + j := ⟨((v : Int) - g.n - 1).toNat, by omega⟩
        have hjl : j < g.as.length := by unfold Gr.vars at hv; omega
        have hp := List.getElem?_eq_getElem hjl
        obtain ⟨m1, m2, m3⟩ := gate_less hr hp
        have hlit : ∀ q : Int, 0 ≤ q → q / 2 < v → (∀ i : Nat, Und g (q / 2) ((i : Int) + 1) → xs[i]? = ys[i]?) → litV g xs q = litV g ys q := fun q q0 q1 hq => by
          have := ih (q / 2).toNat (by omega) (by omega) (by rw [show (((q / 2).toNat : Nat) : Int) = q / 2 from by omega]; exact hq)
          rw [show (((q / 2).toNat : Nat) : Int) = q / 2 from by omega] at this
          by_cases hodd : q % 2 = 1
          · have a := litV_even (g := g) (xs := xs) (l := 2 * (q / 2)) (by omega) (by omega)
            have b := litV_even (g := g) (xs := ys) (l := 2 * (q / 2)) (by omega) (by omega)
            rw [show 2 * (q / 2) + 1 = q from by omega] at a b
            rw [a, b, this]
          · rw [show 2 * (q / 2) = q from by omega] at this
            exact this
        rw [hj, litV_gate hr hx hp, litV_gate hr hy hp, hlit _ (by omega) (by omega) (fun i hu => hi i (by rw [hj]; exact .left hp hu)), hlit _ (by omega) (by omega) (fun i hu => hi i (by rw [hj]; exact .right hp hu))]

theorem litV_und_lit {g : Gr} (hr : rightB g = true) {xs ys : List Bool} (hx : (xs.length : Int) = g.n) (hy : (ys.length : Int) = g.n) {l : Int} (hl : litB g l = true) (h : ∀ i : Nat, Und g (l / 2) ((i : Int) + 1) → xs[i]? = ys[i]?) : litV g xs l = litV g ys l := by
  have l0 := litB_ge hl
  have l1 := lit_lt hl
  have := litV_und hr hx hy (l / 2).toNat (by omega) (by rw [show (((l / 2).toNat : Nat) : Int) = l / 2 from by omega]; exact h)
  rw [show (((l / 2).toNat : Nat) : Int) = l / 2 from by omega] at this
  by_cases hodd : l % 2 = 1
  · have a := litV_even (g := g) (xs := xs) (l := 2 * (l / 2)) (by omega) (by omega)
    have b := litV_even (g := g) (xs := ys) (l := 2 * (l / 2)) (by omega) (by omega)
    rw [show 2 * (l / 2) + 1 = l from by omega] at a b
    rw [a, b, this]
  · rw [show 2 * (l / 2) = l from by omega] at this
    exact this

/-! ### Support -/
theorem suppAt_iff {g : Gr} {l : Int} : ∀ (k : Nat) (x : Int), x ∈ suppAt g l k ↔ ∃ i : Nat, i < k ∧ x = (i : Int) + 1 ∧ (belowG g l)[i + 1]? = some true
  | 0, x => by simp [suppAt]
  | k + 1, x => by
    rw [suppAt]
    have ih := suppAt_iff (g := g) (l := l) k x
    split
    · rename_i hm
      have hm' : (belowG g l)[k + 1]? = some true := by
        cases e : (belowG g l)[k + 1]? with
        | none => rw [e] at hm; cases hm
        | some b => rw [e] at hm; cases b <;> simp_all
      rw [List.mem_append, ih]
      constructor
      · rintro (⟨i, h1, h2, h3⟩ | h)
        · exact ⟨i, by omega, h2, h3⟩
        · simp only [List.mem_cons, List.not_mem_nil, or_false] at h
          exact ⟨k, by omega, h, hm'⟩
      · rintro ⟨i, h1, h2, h3⟩
        by_cases e : i = k
        · subst e
          exact .inr (by simp [h2])
        · exact .inl ⟨i, by omega, h2, h3⟩
    · rename_i hm
      rw [ih]
      constructor
      · rintro ⟨i, h1, h2, h3⟩
        exact ⟨i, by omega, h2, h3⟩
      · rintro ⟨i, h1, h2, h3⟩
        by_cases e : i = k
        · subst e
          rw [h3] at hm
          exact absurd rfl hm
        · exact ⟨i, by omega, h2, h3⟩
theorem suppAt_sorted {g : Gr} {l : Int} : ∀ k, (suppAt g l k).Pairwise (· < ·)
  | 0 => by simp [suppAt]
  | k + 1 => by
    have ih := suppAt_sorted (g := g) (l := l) k
    rw [suppAt]
    split
    · rw [List.pairwise_append]
      refine ⟨ih, by simp, fun a ha b hb => ?_⟩
      obtain ⟨i, h1, h2, _⟩ := (suppAt_iff k a).1 ha
      simp only [List.mem_cons, List.not_mem_nil, or_false] at hb
      omega
    · exact ih
theorem suppAt_length (g : Gr) (l : Int) : ∀ k, (suppAt g l k).length ≤ k
  | 0 => by simp [suppAt]
  | k + 1 => by
    have := suppAt_length g l k
    rw [suppAt]
    split
    · rw [List.length_append, List.length_singleton]
      omega
    · omega
theorem suppG_iff {g : Gr} {l : Int} (hr : rightB g = true) (hl : litB g l = true) (x : Int) : x ∈ suppG g l ↔ 1 ≤ x ∧ x ≤ g.n ∧ Und g (l / 2) x := by
  have n0 := (right_vars hr).1
  unfold suppG
  rw [hr, hl]
  simp only [Bool.and_self, if_true]
  rw [suppAt_iff]
  constructor
  · rintro ⟨i, h1, rfl, h3⟩
    have := (below_iff hr hl (i + 1)).1 h3
    rw [Int.natCast_succ] at this
    exact ⟨by omega, by omega, this⟩
  · rintro ⟨h1, h2, h3⟩
    refine ⟨(x - 1).toNat, by omega, by omega, (below_iff hr hl _).2 ?_⟩
    rw [show ((((x - 1).toNat + 1 : Nat) : Int)) = x from by omega]
    exact h3
end Go.Proofs.Ytbdhkagcbncefaa
