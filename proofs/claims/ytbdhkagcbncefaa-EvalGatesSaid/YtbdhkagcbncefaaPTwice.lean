/- What is made of literals again is what it was: plain data. -/
import Derived.Test.YtbdhkagcbncefaaPMade
namespace Go.Proofs.Ytbdhkagcbncefaa

theorem placeOf_append {ps qs : List Pr} {p : Pr} {i : Nat} (h : placeOf ps p = some i) : placeOf (ps ++ qs) p = some i := by
  induction ps generalizing i with
  | nil => simp [placeOf] at h
  | cons q ps ih =>
    rw [List.cons_append]
    unfold placeOf at h ⊢
    split at h
    · rename_i e
      rw [if_pos e]
      exact h
    · rename_i e
      rw [if_neg e]
      cases hq : placeOf ps p with
      | none => rw [hq] at h; cases h
      | some j =>
        rw [hq] at h
        rw [ih hq]
        exact h

theorem placeOf_snoc {ps qs : List Pr} {p : Pr} (h : placeOf ps p = none) : placeOf (ps ++ p :: qs) p = some ps.length := by
  induction ps with
  | nil => simp [placeOf]
  | cons q ps ih =>
    rw [List.cons_append]
    unfold placeOf at h ⊢
    split at h
    · cases h
    · rename_i e
      rw [if_neg e]
      rw [Option.map_eq_none_iff] at h
      rw [ih h]
      simp

/-- h goes on where g ends. -/
def Ext (g h : Gr) : Prop := h.n = g.n ∧ ∃ qs : List Pr, h.as = g.as ++ qs

theorem Ext.refl (g : Gr) : Ext g g := ⟨rfl, [], by simp⟩
theorem Ext.trans {g h i : Gr} (h1 : Ext g h) (h2 : Ext h i) : Ext g i := by
  obtain ⟨e1, q1, f1⟩ := h1
  obtain ⟨e2, q2, f2⟩ := h2
  exact ⟨e2.trans e1, q1 ++ q2, by rw [f2, f1, List.append_assoc]⟩
theorem Grows.ext {g h : Gr} {l : Int} {k : Nat} (h1 : Grows g h l k) : Ext g h := by
  obtain ⟨qs, e, _⟩ := h1.more
  exact ⟨h1.n, qs, e⟩
theorem Ext.lit {g h : Gr} (h1 : Ext g h) {l : Int} (hl : litB g l = true) : litB h l = true := by
  obtain ⟨e, q, f⟩ := h1
  obtain ⟨a, b, c, d⟩ := (litB_iff g l).1 hl
  refine (litB_iff h l).2 ⟨by omega, by omega, c, ?_⟩
  rw [f, List.length_append]
  omega

theorem andHi_again {g h : Gr} {a b : Int} (he : (andHi g a b).2.2 = 0) (hx : Ext (andHi g a b).1 h) : andHi h a b = (h, (andHi g a b).2.1, 0) := by
  obtain ⟨e, qs, f⟩ := hx
  rcases andHi_cases g a b with ⟨ht, k⟩ | ⟨ht, k⟩ | ⟨ht, i, hp, k⟩ | ⟨ht, hp, hv, k⟩ | ⟨ht, hp, hv, k⟩
  · rw [k]
    unfold andHi
    rw [ht]
  · rw [k]
    unfold andHi
    rw [ht]
  · rw [k] at e f ⊢
    unfold andHi
    rw [ht]
    simp only
    rw [f, placeOf_append hp]
    simp only
    rw [e]
  · rw [k] at he
    cases he
  · rw [k] at e f ⊢
    unfold andHi
    rw [ht]
    simp only
    simp only at f e
    rw [f, List.append_assoc, List.singleton_append, placeOf_snoc hp]
    simp only
    rw [e]
    rfl

/-- And of the same two, over any graph that goes on from what And made: nothing new, the same literal. -/
theorem andG_again {g h : Gr} {a b : Int} (he : (andG g a b).2.2 = 0) (hr : rightB h = true) (hx : Ext (andG g a b).1 h) : andG h a b = (h, (andG g a b).2.1, 0) ∧ andG h b a = (h, (andG g a b).2.1, 0) := by
  obtain ⟨_, ha, hb, e⟩ := andG_zero he
  have hg := (andG_grows he).ext.trans hx
  have la := hg.lit ha
  have lb := hg.lit hb
  rw [e] at he hx ⊢
  have hh := andHi_again he hx
  constructor
  · unfold andG
    rw [hr, la, lb]
    exact hh
  · unfold andG
    rw [hr, la, lb, Int.max_comm, Int.min_comm]
    exact hh

/-- There is room: And makes something of right literals. -/
theorem andG_ok_of {g : Gr} {a b : Int} (hr : rightB g = true) (ha : litB g a = true) (hb : litB g b = true) (hv : g.vars < 2000) : (andG g a b).2.2 = 0 := by
  unfold andG
  rw [hr, ha, hb]
  simp only [Bool.and_self, if_true]
  rcases andHi_cases g (max a b) (min a b) with ⟨_, k⟩ | ⟨_, k⟩ | ⟨_, i, _, k⟩ | ⟨_, _, hv', k⟩ | ⟨_, _, _, k⟩
  · rw [k]
  · rw [k]
  · rw [k]
  · omega
  · rw [k]

theorem Grows.vars {g h : Gr} {l : Int} {k : Nat} (h1 : Grows g h l k) : h.vars ≤ g.vars + k := by
  obtain ⟨qs, e, hq⟩ := h1.more
  unfold Gr.vars
  rw [h1.n, e, List.length_append]
  omega

theorem orG_eq {g : Gr} {a b : Int} (ha : 0 ≤ a) (hb : 0 ≤ b) (he : (andG g (flip a) (flip b)).2.2 = 0) : orG g a b = ((andG g (flip a) (flip b)).1, flip (andG g (flip a) (flip b)).2.1, 0) := by
  unfold orG
  rw [if_neg (by omega)]
  simp only [he, if_true]

/-- The chosen one of two right literals: what it makes, and that made again it is the same. -/
structure Chosen (g : Gr) (k a b : Int) (h : Gr) (l : Int) : Prop where
  is : iteG g k a b = (h, l, 0)
  grows : Grows g h l 3
  again : iteG h k a b = (h, l, 0)

theorem ite_chosen {g : Gr} {k a b : Int} (hr : rightB g = true) (hk : litB g k = true) (ha : litB g a = true) (hb : litB g b = true) (hv : g.vars < 1990) : ∃ h l, Chosen g k a b h l := by
  have k0 := litB_ge hk
  -- the first gate
  have e1 := andG_ok_of hr hk ha (by omega)
  have g1 := andG_grows e1
  have v1 := g1.vars
  -- the second one
  have e2 := andG_ok_of g1.right (flip_lit (g1.ext.lit hk)) (g1.ext.lit hb) (by omega)
  have g2 := andG_grows e2
  have v2 := g2.vars
  -- the third one
  have l1 := g2.ext.lit g1.lit
  have l2 := g2.lit
  have e3 := andG_ok_of g2.right (flip_lit l1) (flip_lit l2) (by omega)
  have g3 := andG_grows e3
  have x23 := g2.ext.trans g3.ext
  have o3 := orG_eq (litB_ge l1) (litB_ge l2) e3
  have a1 := (andG_again e1 g3.right x23).1
  have a2 := (andG_again e2 g3.right g3.ext).1
  have a3 := (andG_again e3 g3.right (Ext.refl _)).1
  refine ⟨_, _, ?_, ⟨g3.right, flip_lit g3.lit, g3.n.trans (g2.n.trans g1.n), ?_⟩, ?_⟩
  · unfold iteG
    rw [if_neg (by omega)]
    simp only [e1, e2, if_true]
    rw [o3]
  · obtain ⟨q1, f1, m1⟩ := g1.more
    obtain ⟨q2, f2, m2⟩ := g2.more
    obtain ⟨q3, f3, m3⟩ := g3.more
    exact ⟨q1 ++ (q2 ++ q3), by rw [f3, f2, f1]; simp, by simp; omega⟩
  · unfold iteG
    rw [if_neg (by omega)]
    simp only [a1, if_true]
    rw [a2]
    simp only [if_true]
    unfold orG
    rw [if_neg (by have := litB_ge l1; have := litB_ge l2; omega)]
    simp only [a3, if_true]
end Go.Proofs.Ytbdhkagcbncefaa
