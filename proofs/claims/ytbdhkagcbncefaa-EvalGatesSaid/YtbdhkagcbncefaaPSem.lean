/- What literals are, over graphs that grow: plain data. -/
import Derived.Test.YtbdhkagcbncefaaPEval
import Derived.Test.YtbdhkagcbncefaaPTwice
namespace Go.Proofs.Ytbdhkagcbncefaa

theorem valsFrom_append (v : List Bool) (ps qs : List Pr) : valsFrom v (ps ++ qs) = valsFrom (valsFrom v ps) qs := by
  unfold valsFrom
  rw [List.foldl_append]
theorem valsFrom_pre : ∀ (ps : List Pr) (v : List Bool), ∃ t : List Bool, valsFrom v ps = v ++ t
  | [], v => ⟨[], by simp [valsFrom]⟩
  | p :: ps, v => by
    obtain ⟨t, ht⟩ := valsFrom_pre ps (v ++ [bitB v p.1 && bitB v p.2])
    refine ⟨[bitB v p.1 && bitB v p.2] ++ t, ?_⟩
    unfold valsFrom at ht ⊢
    rw [List.foldl_cons, ht, List.append_assoc]

theorem bitB_append {v t : List Bool} {l : Int} (h0 : 0 ≤ l) (h1 : l / 2 < v.length) : bitB (v ++ t) l = bitB v l := by
  unfold bitB
  rw [List.getElem?_append_left (by omega)]

theorem bitB_flip {v : List Bool} {l : Int} (h0 : 0 ≤ l) : bitB v (flip l) = !bitB v l := by
  have e : (flip l / 2).toNat = (l / 2).toNat ∧ (flip l % 2 = 1 ↔ ¬ l % 2 = 1) := by
    unfold flip
    split <;> omega
  unfold bitB
  rw [e.1]
  by_cases h : l % 2 = 1
  · have h' : ¬ flip l % 2 = 1 := by rw [e.2]; simpa using h
    rw [decide_eq_true h, decide_eq_false h']
    cases v[(l / 2).toNat]?.getD false <;> rfl
  · have h' : flip l % 2 = 1 := e.2.2 h
    rw [decide_eq_false h, decide_eq_true h']
    cases v[(l / 2).toNat]?.getD false <;> rfl

/-- What a literal is by inputs. -/
def litV (g : Gr) (xs : List Bool) (l : Int) : Bool := bitB (valsFrom (false :: xs) g.as) l

theorem litV_flip {g : Gr} {xs : List Bool} {l : Int} (h : 0 ≤ l) : litV g xs (flip l) = !litV g xs l := bitB_flip h

theorem vals_len (g : Gr) (xs : List Bool) : (valsFrom (false :: xs) g.as).length = xs.length + 1 + g.as.length := by
  rw [valsFrom_length]
  simp

theorem lit_in {g : Gr} {xs : List Bool} {l : Int} (hn : (xs.length : Int) = g.n) (hl : litB g l = true) : 0 ≤ l ∧ l / 2 < ((valsFrom (false :: xs) g.as).length : Int) := by
  obtain ⟨_, _, h1, h2⟩ := (litB_iff g l).1 hl
  rw [vals_len]
  omega

theorem evalG_is {g : Gr} {xs : List Bool} {l : Int} (hr : rightB g = true) (hn : (xs.length : Int) = g.n) (hl : litB g l = true) : evalG g l xs = litV g xs l := by
  have e : allG g xs = valsFrom (false :: xs) g.as := by rw [allG_is hr hn]; unfold valsAt; rw [List.take_length]
  unfold evalG litV
  rw [e, hl, decide_eq_true (by rw [vals_len]; omega)]
  rfl

theorem litV_ext {g h : Gr} {xs : List Bool} {l : Int} (hx : Ext g h) (hn : (xs.length : Int) = g.n) (hl : litB g l = true) : litV h xs l = litV g xs l := by
  obtain ⟨_, qs, e⟩ := hx
  unfold litV
  rw [e, valsFrom_append]
  obtain ⟨t, ht⟩ := valsFrom_pre qs (valsFrom (false :: xs) g.as)
  rw [ht]
  obtain ⟨h0, h1⟩ := lit_in hn hl
  exact bitB_append h0 h1

/-- The values behind so many gates are the first of all values. -/
theorem valsAt_pre (g : Gr) (xs : List Bool) (k : Nat) : ∃ t : List Bool, valsFrom (false :: xs) g.as = valsAt g xs k ++ t := by
  obtain ⟨t, ht⟩ := valsFrom_pre (g.as.drop k) (valsAt g xs k)
  refine ⟨t, ?_⟩
  rw [← ht]
  unfold valsAt
  rw [← valsFrom_append, List.take_append_drop]

theorem litV_at {g : Gr} {xs : List Bool} {k : Nat} {l : Int} (hk : k ≤ g.as.length) (h0 : 0 ≤ l) (h1 : l / 2 < 1 + (xs.length : Int) + k) : litV g xs l = bitB (valsAt g xs k) l := by
  obtain ⟨t, ht⟩ := valsAt_pre g xs k
  unfold litV
  rw [ht]
  exact bitB_append h0 (by rw [valsAt_length hk]; omega)

theorem litV_gate {g : Gr} {xs : List Bool} {k : Nat} {p : Pr} (hr : rightB g = true) (hn : (xs.length : Int) = g.n) (h : g.as[k]? = some p) : litV g xs (2 * (g.n + 1 + k)) = (litV g xs p.1 && litV g xs p.2) := by
  have hk := (List.getElem?_eq_some_iff.1 h).1
  obtain ⟨_, hall, _⟩ := (right_iff g).1 hr
  obtain ⟨m1, m2, m3⟩ := (of_decide_eq_true (hall k p h) : 2 ≤ p.2 ∧ p.2 / 2 < p.1 / 2 ∧ p.1 / 2 < g.n + 1 + k)
  rw [litV_at (k := k + 1) (by omega) (by omega) (by omega), valsAt_succ h, litV_at (k := k) (l := p.1) (by omega) (by omega) (by omega), litV_at (k := k) (l := p.2) (by omega) (by omega) (by omega)]
  unfold bitB
  have e1 : (2 * (g.n + 1 + (k : Int)) / 2).toNat = (valsAt g xs k).length := by rw [valsAt_length (by omega)]; omega
  have e2 : ¬ (2 * (g.n + 1 + (k : Int)) % 2 = 1) := by omega
  rw [e1, decide_eq_false e2, List.getElem?_concat_length]
  simp

theorem litV_zero (g : Gr) (xs : List Bool) : litV g xs 0 = false := by
  rw [litV_at (k := 0) (Nat.zero_le _) (by omega) (by simp; omega), valsAt_zero]
  rfl
theorem litV_one (g : Gr) (xs : List Bool) : litV g xs 1 = true := by
  have := litV_flip (g := g) (xs := xs) (l := 0) (by omega)
  rw [litV_zero] at this
  exact this
theorem litV_input {g : Gr} {xs : List Bool} {i : Nat} {x : Bool} (h : xs[i]? = some x) : litV g xs (2 * ((i : Int) + 1)) = x := by
  have hi := (List.getElem?_eq_some_iff.1 h).1
  rw [litV_at (k := 0) (Nat.zero_le _) (by omega) (by simp; omega), valsAt_zero]
  unfold bitB
  have e1 : (2 * ((i : Int) + 1) / 2).toNat = i + 1 := by omega
  have e2 : ¬ (2 * ((i : Int) + 1) % 2 = 1) := by omega
  rw [e1, decide_eq_false e2, List.getElem?_cons_succ, h]
  simp

theorem litV_even {g : Gr} {xs : List Bool} {l : Int} (h0 : 0 ≤ l) (h1 : l % 2 = 0) : litV g xs (l + 1) = !litV g xs l := by
  have e : flip l = l + 1 := by unfold flip; rw [if_pos h1]
  rw [← e]
  exact litV_flip h0

theorem trivG_some {g : Gr} {xs : List Bool} {a b l : Int} (hb0 : 0 ≤ b) (hab : b ≤ a) (h : trivG a b = some l) : litV g xs l = (litV g xs a && litV g xs b) := by
  unfold trivG at h
  split at h
  · rename_i h1
    simp at h
    subst h
    rw [litV_zero]
    rcases h1 with rfl | ⟨h1, h2⟩
    · rw [litV_zero, Bool.and_false]
    · have e : a = b + 1 ∧ b % 2 = 0 := by omega
      rw [e.1, litV_even hb0 e.2]
      cases litV g xs b <;> rfl
  · split at h
    · rename_i h1
      simp at h
      subst h
      rcases h1 with rfl | rfl
      · rw [litV_one, Bool.and_true]
      · rw [Bool.and_self]
    · cases h

theorem andHi_sem {g : Gr} {xs : List Bool} {a b : Int} (hr : rightB g = true) (hn : (xs.length : Int) = g.n) (ha : litB g a = true) (hb : litB g b = true) (hab : b ≤ a) (he : (andHi g a b).2.2 = 0) :
    litV (andHi g a b).1 xs (andHi g a b).2.1 = (litV g xs a && litV g xs b) := by
  have hb0 := litB_ge hb
  have hg := andHi_grows hr ha hb hab he
  rcases andHi_cases g a b with ⟨ht, h⟩ | ⟨ht, h⟩ | ⟨ht, i, hp, h⟩ | ⟨ht, hp, hv, h⟩ | ⟨ht, hp, hv, h⟩
  · rw [h]; exact trivG_some hb0 hab ht
  · rw [h]; exact trivG_some hb0 hab ht
  · rw [h]
    exact litV_gate hr hn (placeOf_some hp)
  · rw [h] at he; cases he
  · rw [h] at hg ⊢
    have := litV_gate (xs := xs) (k := g.as.length) (p := (a, b)) hg.right (by simpa using hn) (by simp)
    simp only at this ⊢
    rw [show 2 * g.vars = 2 * (g.n + 1 + (g.as.length : Int)) from rfl, this]
    rw [litV_ext hg.ext hn ha, litV_ext hg.ext hn hb]

theorem andG_sem {g : Gr} {xs : List Bool} {a b : Int} (hn : (xs.length : Int) = g.n) (he : (andG g a b).2.2 = 0) : litV (andG g a b).1 xs (andG g a b).2.1 = (litV g xs a && litV g xs b) := by
  obtain ⟨hr, ha, hb, h⟩ := andG_zero he
  obtain ⟨h1, h2, h3⟩ := max_min ha hb
  rw [h] at he ⊢
  rw [andHi_sem hr hn h1 h2 h3 he]
  rcases Int.le_total a b with h | h
  · rw [Int.max_eq_right h, Int.min_eq_left h, Bool.and_comm]
  · rw [Int.max_eq_left h, Int.min_eq_right h]

/-- One of two right literals, where there is room. -/
theorem orG_sem {g : Gr} {xs : List Bool} {a b : Int} (hr : rightB g = true) (hn : (xs.length : Int) = g.n) (ha : litB g a = true) (hb : litB g b = true) (hv : g.vars < 2000) :
    (orG g a b).2.2 = 0 ∧ Grows g (orG g a b).1 (orG g a b).2.1 1 ∧ litV (orG g a b).1 xs (orG g a b).2.1 = (litV g xs a || litV g xs b) := by
  have he := andG_ok_of hr (flip_lit ha) (flip_lit hb) hv
  have hg := andG_grows he
  rw [orG_eq (litB_ge ha) (litB_ge hb) he]
  refine ⟨rfl, ⟨hg.right, flip_lit hg.lit, hg.n, hg.more⟩, ?_⟩
  simp only
  rw [litV_flip (litB_ge hg.lit), andG_sem hn he, litV_flip (litB_ge ha), litV_flip (litB_ge hb)]
  cases litV g xs a <;> cases litV g xs b <;> rfl

/-- The chosen one of two right literals, where there is room. -/
theorem iteG_sem {g : Gr} {xs : List Bool} {k a b : Int} (hr : rightB g = true) (hn : (xs.length : Int) = g.n) (hk : litB g k = true) (ha : litB g a = true) (hb : litB g b = true) (hv : g.vars < 1990) :
    (iteG g k a b).2.2 = 0 ∧ Grows g (iteG g k a b).1 (iteG g k a b).2.1 3 ∧ litV (iteG g k a b).1 xs (iteG g k a b).2.1 = if litV g xs k then litV g xs a else litV g xs b := by
  have k0 := litB_ge hk
  have e1 := andG_ok_of hr hk ha (by omega)
  have g1 := andG_grows e1
  have v1 := g1.vars
  have n1 : (xs.length : Int) = (andG g k a).1.n := hn.trans g1.n.symm
  have e2 := andG_ok_of g1.right (flip_lit (g1.ext.lit hk)) (g1.ext.lit hb) (by omega)
  have g2 := andG_grows e2
  have v2 := g2.vars
  have n2 : (xs.length : Int) = (andG (andG g k a).1 (flip k) b).1.n := n1.trans g2.n.symm
  obtain ⟨o1, o2, o3⟩ := orG_sem (xs := xs) g2.right n2 (g2.ext.lit g1.lit) g2.lit (by omega)
  have hi : iteG g k a b = orG (andG (andG g k a).1 (flip k) b).1 (andG g k a).2.1 (andG (andG g k a).1 (flip k) b).2.1 := by
    unfold iteG
    rw [if_neg (by omega)]
    simp only [e1, e2, if_true]
  rw [hi]
  obtain ⟨q1, f1, m1⟩ := g1.more
  obtain ⟨q2, f2, m2⟩ := g2.more
  obtain ⟨q3, f3, m3⟩ := o2.more
  refine ⟨o1, ⟨o2.right, o2.lit, o2.n.trans (g2.n.trans g1.n), q1 ++ (q2 ++ q3), by rw [f3, f2, f1]; simp, by simp; omega⟩, ?_⟩
  rw [o3, litV_ext g2.ext n1 g1.lit, andG_sem hn e1, andG_sem n1 e2, litV_flip k0, litV_ext g1.ext hn hk, litV_ext g1.ext hn hb]
  cases litV g xs k <;> simp

/-- The lowest bits of a number. -/
def bitsG (n : Int) (m : Nat) : List Bool := (List.range m).map fun i => decide (n / 2 ^ i % 2 = 1)

theorem bitsG_length (n : Int) (m : Nat) : (bitsG n m).length = m := by simp [bitsG]
theorem bitsG_succ (n : Int) (m : Nat) : bitsG n (m + 1) = bitsG n m ++ [decide (n / 2 ^ m % 2 = 1)] := by simp [bitsG, List.range_succ]
end Go.Proofs.Ytbdhkagcbncefaa
