/- What literals are, by inputs: plain data. Graphs: what And and Or make is not too long: plain data. Graphs by numbers, as plain data: what is right stays right. What is made of literals again is what it was: plain data. Numbers of 16 bits as cells. A graph by numbers: the walk of Made. A box that holds a graph, from world to world. What literals are, over graphs that grow: plain data. Values of three, and what they tell: plain data. Layer 2's laws, plain data. What stands below a literal: plain data. Literals as clauses: plain data. Layer 14's laws, plain data. Copies of literals, what stands below them: plain data. -/
import Derived.Test.YtbkmgblijncjhaaPure
import Derived.Test.YtbkmgblijncjhaaK2
import Derived.Test.YtbkmgblijncjhaaG1
namespace Go.Proofs.Ytbkmgblijncjhaa

/-- A literal, by the variables' values. -/
def bitB (v : List Bool) (l : Int) : Bool := (v[(l / 2).toNat]?.getD false) != decide (l % 2 = 1)

def valsFrom (v : List Bool) (ps : List Pr) : List Bool := ps.foldl (fun v p => v ++ [bitB v p.1 && bitB v p.2]) v

theorem valsFrom_nil (v : List Bool) : valsFrom v [] = v := rfl
theorem valsFrom_snoc (v : List Bool) (ps : List Pr) (p : Pr) : valsFrom v (ps ++ [p]) = valsFrom v ps ++ [bitB (valsFrom v ps) p.1 && bitB (valsFrom v ps) p.2] := by
  unfold valsFrom
  rw [List.foldl_append]
  rfl
theorem valsFrom_length : ∀ (ps : List Pr) (v : List Bool), (valsFrom v ps).length = v.length + ps.length
  | [], v => by simp [valsFrom]
  | p :: ps, v => by
    have := valsFrom_length ps (v ++ [bitB v p.1 && bitB v p.2])
    unfold valsFrom at this ⊢
    rw [List.foldl_cons, this]
    simp
    omega

/-- The values behind so many gates. -/
def valsAt (g : Gr) (xs : List Bool) (k : Nat) : List Bool := valsFrom (false :: xs) (g.as.take k)

theorem valsAt_zero (g : Gr) (xs : List Bool) : valsAt g xs 0 = false :: xs := by simp [valsAt, valsFrom]
theorem valsAt_succ {g : Gr} {xs : List Bool} {k : Nat} {p : Pr} (h : g.as[k]? = some p) : valsAt g xs (k + 1) = valsAt g xs k ++ [bitB (valsAt g xs k) p.1 && bitB (valsAt g xs k) p.2] := by
  unfold valsAt
  rw [List.take_add_one, h, Option.toList_some, valsFrom_snoc]
theorem valsAt_length {g : Gr} {xs : List Bool} {k : Nat} (h : k ≤ g.as.length) : (valsAt g xs k).length = 1 + xs.length + k := by
  unfold valsAt
  rw [valsFrom_length, List.length_take, Nat.min_eq_left h]
  simp
  omega

def allG (g : Gr) (xs : List Bool) : List Bool := if rightB g && decide ((xs.length : Int) = g.n) then valsFrom (false :: xs) g.as else []
def evalG (g : Gr) (l : Int) (xs : List Bool) : Bool := decide (0 < (allG g xs).length) && (litB g l && bitB (allG g xs) l)

theorem allG_is {g : Gr} {xs : List Bool} (hr : rightB g = true) (hn : (xs.length : Int) = g.n) : allG g xs = valsAt g xs g.as.length := by
  unfold allG valsAt
  rw [hr, decide_eq_true hn, List.take_length]
  rfl

/-- A value of three: 0 no, 1 yes, 2 either. -/
def told3 (x : Int) : Int := if x = 0 ∨ x = 1 then x else 2
def turn3 (x : Int) : Int := if x = 2 then 2 else 1 - x
def bit3 (v : List Int) (l : Int) : Int := if l % 2 = 1 then turn3 (v[(l / 2).toNat]?.getD 0) else v[(l / 2).toNat]?.getD 0
def gate3 (a b : Int) : Int := if a = 0 ∨ b = 0 then 0 else if a = 1 ∧ b = 1 then 1 else 2

def vals3From (v : List Int) (ps : List Pr) : List Int := ps.foldl (fun v p => v ++ [gate3 (bit3 v p.1) (bit3 v p.2)]) v
def vals3At (g : Gr) (xs : List Int) (k : Nat) : List Int := vals3From (0 :: xs.map told3) (g.as.take k)
def threeG (g : Gr) (l : Int) (xs : List Int) : Int := if rightB g && (decide ((xs.length : Int) = g.n) && litB g l) then bit3 (vals3At g xs g.as.length) l else 2

theorem vals3From_snoc (v : List Int) (ps : List Pr) (p : Pr) : vals3From v (ps ++ [p]) = vals3From v ps ++ [gate3 (bit3 (vals3From v ps) p.1) (bit3 (vals3From v ps) p.2)] := by
  unfold vals3From
  rw [List.foldl_append]
  rfl
theorem vals3From_length : ∀ (ps : List Pr) (v : List Int), (vals3From v ps).length = v.length + ps.length
  | [], v => by simp [vals3From]
  | p :: ps, v => by
    have := vals3From_length ps (v ++ [gate3 (bit3 v p.1) (bit3 v p.2)])
    unfold vals3From at this ⊢
    rw [List.foldl_cons, this]
    simp
    omega
theorem vals3At_zero (g : Gr) (xs : List Int) : vals3At g xs 0 = 0 :: xs.map told3 := by simp [vals3At, vals3From]
theorem vals3At_succ {g : Gr} {xs : List Int} {k : Nat} {p : Pr} (h : g.as[k]? = some p) : vals3At g xs (k + 1) = vals3At g xs k ++ [gate3 (bit3 (vals3At g xs k) p.1) (bit3 (vals3At g xs k) p.2)] := by
  unfold vals3At
  rw [List.take_add_one, h, Option.toList_some, vals3From_snoc]
theorem vals3At_length {g : Gr} {xs : List Int} {k : Nat} (h : k ≤ g.as.length) : (vals3At g xs k).length = 1 + xs.length + k := by
  unfold vals3At
  rw [vals3From_length, List.length_take, Nat.min_eq_left h]
  simp
  omega

/-- One of three. -/
def Is3 (x : Int) : Prop := x = 0 ∨ x = 1 ∨ x = 2
theorem told3_is (x : Int) : Is3 (told3 x) := by unfold told3 Is3; split <;> omega
theorem gate3_is (a b : Int) : Is3 (gate3 a b) := by unfold gate3 Is3; split <;> (try split) <;> omega
theorem turn3_is {x : Int} (h : Is3 x) : Is3 (turn3 x) := by unfold Is3 at h ⊢; unfold turn3; split <;> omega
theorem bit3_is {v : List Int} (h : ∀ x ∈ v, Is3 x) (l : Int) : Is3 (bit3 v l) := by
  have hx : Is3 (v[(l / 2).toNat]?.getD 0) := by
    cases e : v[(l / 2).toNat]? with
    | none => exact .inl rfl
    | some x => exact h x (List.mem_of_getElem? e)
  unfold bit3
  split
  · exact turn3_is hx
  · exact hx
theorem vals3From_is : ∀ (ps : List Pr) (v : List Int), (∀ x ∈ v, Is3 x) → ∀ x ∈ vals3From v ps, Is3 x
  | [], v, h => h
  | p :: ps, v, h => vals3From_is ps (v ++ [gate3 (bit3 v p.1) (bit3 v p.2)]) fun x hx => by
    rcases List.mem_append.1 hx with hx | hx
    · exact h x hx
    · simp at hx
      rw [hx]
      exact gate3_is _ _
theorem vals3At_is (g : Gr) (xs : List Int) (k : Nat) : ∀ x ∈ vals3At g xs k, Is3 x := vals3From_is _ _ fun x hx => by
  rcases List.mem_cons.1 hx with rfl | hx
  · exact .inl rfl
  · obtain ⟨y, _, rfl⟩ := List.mem_map.1 hx
    exact told3_is y
end Go.Proofs.Ytbkmgblijncjhaa

namespace Go.Proofs.Ytbkmgblijncjhaa

theorem orG_lit (g : Gr) (a b : Int) : 0 ≤ (orG g a b).2.1 ∧ (orG g a b).2.1 ≤ 4002 := by
  unfold orG
  split
  · simp
  · dsimp only
    split
    · have := andG_lit g (flip a) (flip b)
      dsimp only
      generalize (andG g (flip a) (flip b)).2.1 = l at *
      unfold flip
      split <;> omega
    · simp

theorem andHi_len {g : Gr} {a b : Int} (hs : 0 ≤ g.n ∧ g.n ≤ 2000 ∧ g.as.length ≤ 2000 ∧ g.n + 1 + g.as.length ≤ 2000) : (andHi g a b).1.as.length ≤ 2000 := by
  unfold andHi
  cases trivG a b with
  | some l => exact hs.2.2.1
  | none =>
    dsimp only
    cases placeOf g.as (a, b) with
    | some i => exact hs.2.2.1
    | none =>
      dsimp only
      split
      · simp [noG]
      · rename_i h
        unfold Gr.vars at h
        simp
        omega
theorem andG_len (g : Gr) (a b : Int) : (andG g a b).1.as.length ≤ 2000 := by
  unfold andG
  split
  · rename_i h
    rw [Bool.and_eq_true, Bool.and_eq_true, right_iff] at h
    exact andHi_len h.1.1
  · simp [noG]
theorem orG_len (g : Gr) (a b : Int) : (orG g a b).1.as.length ≤ 2000 := by
  unfold orG
  split
  · simp [noG]
  · dsimp only
    split
    · exact andG_len _ _ _
    · simp [noG]
theorem iteG_len (g : Gr) (c a b : Int) : (iteG g c a b).1.as.length ≤ 2000 := by
  unfold iteG
  split
  · simp [noG]
  · dsimp only
    split
    · split
      · exact orG_len _ _ _
      · simp [noG]
    · simp [noG]
end Go.Proofs.Ytbkmgblijncjhaa

namespace Go.Proofs.Ytbkmgblijncjhaa

theorem andG_zero {g : Gr} {a b : Int} (he : (andG g a b).2.2 = 0) : rightB g = true ∧ litB g a = true ∧ litB g b = true ∧ andG g a b = andHi g (max a b) (min a b) := by
  unfold andG at he ⊢
  cases h : (rightB g && (litB g a && litB g b))
  · rw [h] at he
    simp at he
  · rw [if_pos rfl]
    simp only [Bool.and_eq_true] at h
    exact ⟨h.1, h.2.1, h.2.2, rfl⟩

theorem andHi_cases (g : Gr) (a b : Int) :
    (trivG a b = some 0 ∧ andHi g a b = (g, 0, 0)) ∨ (trivG a b = some a ∧ andHi g a b = (g, a, 0)) ∨ (trivG a b = none ∧ ∃ i : Nat, placeOf g.as (a, b) = some i ∧ andHi g a b = (g, 2 * (g.n + 1 + i), 0)) ∨
    (trivG a b = none ∧ placeOf g.as (a, b) = none ∧ g.vars ≥ 2000 ∧ andHi g a b = (noG, 0, 2)) ∨ (trivG a b = none ∧ placeOf g.as (a, b) = none ∧ g.vars < 2000 ∧ andHi g a b = (⟨g.n, g.as ++ [(a, b)]⟩, 2 * g.vars, 0)) := by
  cases ht : trivG a b with
  | some l =>
    have hl : l = 0 ∨ l = a := by
      unfold trivG at ht
      split at ht
      · simp at ht; exact .inl ht.symm
      · split at ht
        · simp at ht; exact .inr ht.symm
        · cases ht
    rcases hl with rfl | rfl
    · exact .inl ⟨rfl, by unfold andHi; rw [ht]⟩
    · exact .inr (.inl ⟨rfl, by unfold andHi; rw [ht]⟩)
  | none =>
    cases hp : placeOf g.as (a, b) with
    | some i => exact .inr (.inr (.inl ⟨rfl, i, rfl, by unfold andHi; rw [ht]; simp only [hp]⟩))
    | none =>
      by_cases hv : g.vars ≥ 2000
      · exact .inr (.inr (.inr (.inl ⟨rfl, rfl, hv, by unfold andHi; rw [ht]; simp only [hp, if_pos hv]⟩)))
      · exact .inr (.inr (.inr (.inr ⟨rfl, rfl, by omega, by unfold andHi; rw [ht]; simp only [hp, if_neg hv]⟩)))

theorem trivG_none {a b : Int} (h : trivG a b = none) (hb : 0 ≤ b) (hab : b ≤ a) : 2 ≤ b ∧ b / 2 < a / 2 := by
  unfold trivG at h
  split at h
  · cases h
  · split at h
    · cases h
    · rename_i h1 h2
      simp only [not_or, not_and, Decidable.not_not] at h1 h2
      obtain ⟨h3, h4⟩ := h1
      obtain ⟨h5, h6⟩ := h2
      refine ⟨by omega, ?_⟩
      by_cases e : a / 2 = b / 2
      · exact absurd (h4 e) h6
      · omega

theorem litB_ge {g : Gr} {l : Int} (h : litB g l = true) : 0 ≤ l := ((litB_iff g l).1 h).2.2.1

theorem right_vars {g : Gr} (h : rightB g = true) : 0 ≤ g.n ∧ g.n ≤ 2000 ∧ g.vars ≤ 2000 ∧ 1 ≤ g.vars := by
  obtain ⟨h1, h2, h3, h4⟩ := (size_iff g).1 (right_size h)
  unfold Gr.vars
  omega

theorem lit_of {g : Gr} (hr : rightB g = true) {l : Int} (h0 : 0 ≤ l) (h1 : l < 2 * g.vars) : litB g l = true := by
  obtain ⟨n0, n1, _, _⟩ := right_vars hr
  refine (litB_iff g l).2 ⟨n0, n1, h0, ?_⟩
  unfold Gr.vars at h1
  omega
theorem lit_lt {g : Gr} {l : Int} (h : litB g l = true) : l < 2 * g.vars := by
  obtain ⟨_, _, h0, h1⟩ := (litB_iff g l).1 h
  unfold Gr.vars
  omega

/-- What And does to a right graph, where it makes something. -/
structure Grows (g h : Gr) (l : Int) (k : Nat) : Prop where
  right : rightB h = true
  lit : litB h l = true
  n : h.n = g.n
  more : ∃ qs : List Pr, h.as = g.as ++ qs ∧ qs.length ≤ k

theorem andHi_grows {g : Gr} {a b : Int} (hr : rightB g = true) (ha : litB g a = true) (hb : litB g b = true) (hab : b ≤ a) (he : (andHi g a b).2.2 = 0) : Grows g (andHi g a b).1 (andHi g a b).2.1 1 := by
  have hb0 := litB_ge hb
  have ha1 := lit_lt ha
  obtain ⟨n0, n1, v1, v2⟩ := right_vars hr
  rcases andHi_cases g a b with ⟨ht, h⟩ | ⟨ht, h⟩ | ⟨ht, i, hp, h⟩ | ⟨ht, hp, hv, h⟩ | ⟨ht, hp, hv, h⟩
  · rw [h]
    exact ⟨hr, lit_of hr (by simp) (by simp; omega), rfl, [], by simp, by simp⟩
  · rw [h]
    exact ⟨hr, ha, rfl, [], by simp, by simp⟩
  · rw [h]
    have hi : i < g.as.length := (List.getElem?_eq_some_iff.1 (placeOf_some hp)).1
    refine ⟨hr, lit_of hr (by simp; omega) ?_, rfl, [], by simp, by simp⟩
    simp only
    unfold Gr.vars
    omega
  · rw [h] at he
    cases he
  · rw [h]
    obtain ⟨t1, t2⟩ := trivG_none ht hb0 hab
    obtain ⟨⟨s1, s2, s3, s4⟩, hall, hnd⟩ := (right_iff g).1 hr
    have hr' : rightB ⟨g.n, g.as ++ [(a, b)]⟩ = true := by
      refine (right_iff _).2 ⟨⟨s1, s2, ?_, ?_⟩, ?_, ?_⟩
      · simp only [List.length_append, List.length_singleton]
        unfold Gr.vars at hv
        omega
      · simp only [List.length_append, List.length_singleton]
        unfold Gr.vars at hv
        omega
      · intro j p hj
        by_cases hjl : j < g.as.length
        · rw [List.getElem?_append_left hjl] at hj
          exact hall j p hj
        · rw [List.getElem?_append_right (by omega)] at hj
          have h0 : j - g.as.length = 0 := by
            rcases Nat.eq_zero_or_pos (j - g.as.length) with h | h
            · exact h
            · rw [List.getElem?_eq_none (by simp; omega)] at hj
              cases hj
          rw [h0] at hj
          simp at hj
          subst hj
          have : j = g.as.length := by omega
          subst this
          refine decide_eq_true (p := 2 ≤ b ∧ b / 2 < a / 2 ∧ a / 2 < g.n + 1 + (g.as.length : Int)) ⟨t1, t2, ?_⟩
          unfold Gr.vars at ha1
          omega
      · refine List.nodup_append.2 ⟨hnd, by simp, fun x hx y hy => ?_⟩
        simp at hy
        subst hy
        rintro rfl
        exact placeOf_none.1 hp hx
    refine ⟨hr', lit_of hr' (by simp; omega) ?_, rfl, [(a, b)], rfl, by simp⟩
    simp [Gr.vars]
    omega

theorem max_min {g : Gr} {a b : Int} (ha : litB g a = true) (hb : litB g b = true) : litB g (max a b) = true ∧ litB g (min a b) = true ∧ min a b ≤ max a b := by
  rcases Int.le_total a b with h | h
  · rw [Int.max_eq_right h, Int.min_eq_left h]; exact ⟨hb, ha, h⟩
  · rw [Int.max_eq_left h, Int.min_eq_right h]; exact ⟨ha, hb, h⟩

theorem andG_grows {g : Gr} {a b : Int} (he : (andG g a b).2.2 = 0) : Grows g (andG g a b).1 (andG g a b).2.1 1 := by
  obtain ⟨hr, ha, hb, h⟩ := andG_zero he
  obtain ⟨h1, h2, h3⟩ := max_min ha hb
  rw [h] at he ⊢
  exact andHi_grows hr h1 h2 h3 he

theorem flip_lit {g : Gr} {l : Int} (h : litB g l = true) : litB g (flip l) = true := by
  obtain ⟨h1, h2, h3, h4⟩ := (litB_iff g l).1 h
  obtain ⟨f1, f2, f3⟩ := flip_range h3
  exact (litB_iff g _).2 ⟨h1, h2, f1, by omega⟩

/-- A literal, turned where the number is one. -/
def turnBy (a t : Int) : Int := if t = 1 then flip a else a

def madeStep (s : Gr × Int) (x : Int) : Gr × Int :=
  let many := 2 * s.1.vars
  let r := andG s.1 (x % many) (x / many % many)
  if r.2.2 = 0 then (r.1, turnBy r.2.1 (x / 7 % 2)) else s

def madeG (n : Int) (xs : List Int) : Gr × Int := (xs.take 40).foldl madeStep (⟨n, []⟩, 1)

structure MInv (n : Int) (k : Nat) (s : Gr × Int) : Prop where
  ok : GOk s.1
  right : rightB s.1 = true
  lit : litB s.1 s.2 = true
  n : s.1.n = n
  len : s.1.as.length ≤ k

theorem MInv.step {n : Int} {k : Nat} {s : Gr × Int} (h : MInv n k s) (x : Int) : MInv n (k + 1) (madeStep s x) := by
  unfold madeStep
  simp only
  split
  · rename_i he
    have hg := andG_grows he
    obtain ⟨qs, h1, h2⟩ := hg.more
    refine ⟨andG_ok h.ok _ _, hg.right, ?_, hg.n.trans h.n, ?_⟩
    · unfold turnBy
      split
      · exact flip_lit hg.lit
      · exact hg.lit
    · simp only
      rw [h1, List.length_append]
      have := h.len
      omega
  · exact ⟨h.ok, h.right, h.lit, h.n, Nat.le_succ_of_le h.len⟩

theorem MInv.begin_ {n : Int} (h0 : 0 ≤ n) (h1 : n ≤ 1900) : MInv n 0 (⟨n, []⟩, 1) := by
  have hr : rightB ⟨n, []⟩ = true := (right_iff _).2 ⟨⟨h0, by simp only; omega, by simp, by simp; omega⟩, by simp, by simp⟩
  exact ⟨⟨(wf_iff n).2 (by omega), by simp, by simp⟩, hr, lit_of hr (by simp) (by simp [Gr.vars]; omega), rfl, by simp⟩

/-- The state behind so many numbers. -/
def madeAt (n : Int) (xs : List Int) (k : Nat) : Gr × Int := (xs.take k).foldl madeStep (⟨n, []⟩, 1)

theorem madeAt_zero (n : Int) (xs : List Int) : madeAt n xs 0 = (⟨n, []⟩, 1) := rfl
theorem madeAt_succ {n : Int} {xs : List Int} {k : Nat} {x : Int} (h : xs[k]? = some x) : madeAt n xs (k + 1) = madeStep (madeAt n xs k) x := by
  unfold madeAt
  rw [List.take_add_one, h]
  simp
theorem madeAt_inv {n : Int} (h0 : 0 ≤ n) (h1 : n ≤ 1900) (xs : List Int) : ∀ k : Nat, MInv n k (madeAt n xs k)
  | 0 => MInv.begin_ h0 h1
  | k + 1 => by
    cases h : xs[k]? with
    | some x => rw [madeAt_succ h]; exact (madeAt_inv h0 h1 xs k).step x
    | none =>
      have e : madeAt n xs (k + 1) = madeAt n xs k := by
        unfold madeAt
        rw [List.take_add_one, h]
        simp
      have := madeAt_inv h0 h1 xs k
      rw [e]
      exact ⟨this.ok, this.right, this.lit, this.n, Nat.le_succ_of_le this.len⟩
theorem madeG_inv {n : Int} (h0 : 0 ≤ n) (h1 : n ≤ 1900) (xs : List Int) : MInv n 40 (madeG n xs) := madeAt_inv h0 h1 xs 40
end Go.Proofs.Ytbkmgblijncjhaa

namespace Go.Proofs.Ytbkmgblijncjhaa

theorem placeOf_append {ps qs : List Pr} {p : Pr} {i : Nat} (h : placeOf ps p = some i) : placeOf (ps ++ qs) p = some i := by
  induction ps generalizing i with
  | nil => simp [placeOf] at h
  | cons q ps ih =>
    rw [List.cons_append]
    unfold placeOf at h ⊢
    split at h
    · rename_i e
      rw [if_pos e]
      exact h
    · rename_i e
      rw [if_neg e]
      cases hq : placeOf ps p with
      | none => rw [hq] at h; cases h
      | some j =>
        rw [hq] at h
        rw [ih hq]
        exact h

theorem placeOf_snoc {ps qs : List Pr} {p : Pr} (h : placeOf ps p = none) : placeOf (ps ++ p :: qs) p = some ps.length := by
  induction ps with
  | nil => simp [placeOf]
  | cons q ps ih =>
    rw [List.cons_append]
    unfold placeOf at h ⊢
    split at h
    · cases h
    · rename_i e
      rw [if_neg e]
      rw [Option.map_eq_none_iff] at h
      rw [ih h]
      simp

/-- h goes on where g ends. -/
def Ext (g h : Gr) : Prop := h.n = g.n ∧ ∃ qs : List Pr, h.as = g.as ++ qs

theorem Ext.refl (g : Gr) : Ext g g := ⟨rfl, [], by simp⟩
theorem Ext.trans {g h i : Gr} (h1 : Ext g h) (h2 : Ext h i) : Ext g i := by
  obtain ⟨e1, q1, f1⟩ := h1
  obtain ⟨e2, q2, f2⟩ := h2
  exact ⟨e2.trans e1, q1 ++ q2, by rw [f2, f1, List.append_assoc]⟩
theorem Grows.ext {g h : Gr} {l : Int} {k : Nat} (h1 : Grows g h l k) : Ext g h := by
  obtain ⟨qs, e, _⟩ := h1.more
  exact ⟨h1.n, qs, e⟩
theorem Ext.lit {g h : Gr} (h1 : Ext g h) {l : Int} (hl : litB g l = true) : litB h l = true := by
  obtain ⟨e, q, f⟩ := h1
  obtain ⟨a, b, c, d⟩ := (litB_iff g l).1 hl
  refine (litB_iff h l).2 ⟨by omega, by omega, c, ?_⟩
  rw [f, List.length_append]
  omega

theorem andHi_again {g h : Gr} {a b : Int} (he : (andHi g a b).2.2 = 0) (hx : Ext (andHi g a b).1 h) : andHi h a b = (h, (andHi g a b).2.1, 0) := by
  obtain ⟨e, qs, f⟩ := hx
  rcases andHi_cases g a b with ⟨ht, k⟩ | ⟨ht, k⟩ | ⟨ht, i, hp, k⟩ | ⟨ht, hp, hv, k⟩ | ⟨ht, hp, hv, k⟩
  · rw [k]
    unfold andHi
    rw [ht]
  · rw [k]
    unfold andHi
    rw [ht]
  · rw [k] at e f ⊢
    unfold andHi
    rw [ht]
    simp only
    rw [f, placeOf_append hp]
    simp only
    rw [e]
  · rw [k] at he
    cases he
  · rw [k] at e f ⊢
    unfold andHi
    rw [ht]
    simp only
    simp only at f e
    rw [f, List.append_assoc, List.singleton_append, placeOf_snoc hp]
    simp only
    rw [e]
    rfl

/-- And of the same two, over any graph that goes on from what And made: nothing new, the same literal. -/
theorem andG_again {g h : Gr} {a b : Int} (he : (andG g a b).2.2 = 0) (hr : rightB h = true) (hx : Ext (andG g a b).1 h) : andG h a b = (h, (andG g a b).2.1, 0) ∧ andG h b a = (h, (andG g a b).2.1, 0) := by
  obtain ⟨_, ha, hb, e⟩ := andG_zero he
  have hg := (andG_grows he).ext.trans hx
  have la := hg.lit ha
  have lb := hg.lit hb
  rw [e] at he hx ⊢
  have hh := andHi_again he hx
  constructor
  · unfold andG
    rw [hr, la, lb]
    exact hh
  · unfold andG
    rw [hr, la, lb, Int.max_comm, Int.min_comm]
    exact hh

/-- There is room: And makes something of right literals. -/
theorem andG_ok_of {g : Gr} {a b : Int} (hr : rightB g = true) (ha : litB g a = true) (hb : litB g b = true) (hv : g.vars < 2000) : (andG g a b).2.2 = 0 := by
  unfold andG
  rw [hr, ha, hb]
  simp only [Bool.and_self, if_true]
  rcases andHi_cases g (max a b) (min a b) with ⟨_, k⟩ | ⟨_, k⟩ | ⟨_, i, _, k⟩ | ⟨_, _, hv', k⟩ | ⟨_, _, _, k⟩
  · rw [k]
  · rw [k]
  · rw [k]
  · omega
  · rw [k]

theorem Grows.vars {g h : Gr} {l : Int} {k : Nat} (h1 : Grows g h l k) : h.vars ≤ g.vars + k := by
  obtain ⟨qs, e, hq⟩ := h1.more
  unfold Gr.vars
  rw [h1.n, e, List.length_append]
  omega

theorem orG_eq {g : Gr} {a b : Int} (ha : 0 ≤ a) (hb : 0 ≤ b) (he : (andG g (flip a) (flip b)).2.2 = 0) : orG g a b = ((andG g (flip a) (flip b)).1, flip (andG g (flip a) (flip b)).2.1, 0) := by
  unfold orG
  rw [if_neg (by omega)]
  simp only [he, if_true]

/-- The chosen one of two right literals: what it makes, and that made again it is the same. -/
structure Chosen (g : Gr) (k a b : Int) (h : Gr) (l : Int) : Prop where
  is : iteG g k a b = (h, l, 0)
  grows : Grows g h l 3
  again : iteG h k a b = (h, l, 0)

theorem ite_chosen {g : Gr} {k a b : Int} (hr : rightB g = true) (hk : litB g k = true) (ha : litB g a = true) (hb : litB g b = true) (hv : g.vars < 1990) : ∃ h l, Chosen g k a b h l := by
  have k0 := litB_ge hk
  -- the first gate
  have e1 := andG_ok_of hr hk ha (by omega)
  have g1 := andG_grows e1
  have v1 := g1.vars
  -- the second one
  have e2 := andG_ok_of g1.right (flip_lit (g1.ext.lit hk)) (g1.ext.lit hb) (by omega)
  have g2 := andG_grows e2
  have v2 := g2.vars
  -- the third one
  have l1 := g2.ext.lit g1.lit
  have l2 := g2.lit
  have e3 := andG_ok_of g2.right (flip_lit l1) (flip_lit l2) (by omega)
  have g3 := andG_grows e3
  have x23 := g2.ext.trans g3.ext
  have o3 := orG_eq (litB_ge l1) (litB_ge l2) e3
  have a1 := (andG_again e1 g3.right x23).1
  have a2 := (andG_again e2 g3.right g3.ext).1
  have a3 := (andG_again e3 g3.right (Ext.refl _)).1
  refine ⟨_, _, ?_, ⟨g3.right, flip_lit g3.lit, g3.n.trans (g2.n.trans g1.n), ?_⟩, ?_⟩
  · unfold iteG
    rw [if_neg (by omega)]
    simp only [e1, e2, if_true]
    rw [o3]
  · obtain ⟨q1, f1, m1⟩ := g1.more
    obtain ⟨q2, f2, m2⟩ := g2.more
    obtain ⟨q3, f3, m3⟩ := g3.more
    exact ⟨q1 ++ (q2 ++ q3), by rw [f3, f2, f1]; simp, by simp; omega⟩
  · unfold iteG
    rw [if_neg (by omega)]
    simp only [a1, if_true]
    rw [a2]
    simp only [if_true]
    unfold orG
    rw [if_neg (by have := litB_ge l1; have := litB_ge l2; omega)]
    simp only [a3, if_true]
end Go.Proofs.Ytbkmgblijncjhaa

namespace Go.Proofs.Ytbkmgblijncjhaa
open Go.RowKit Go.Maps

/-- The numbers of a list, as cells. -/
def u16s (xs : List Int) : List Value := xs.map (.int .u16 ·)
/-- Numbers of 16 bits. -/
def U16 (xs : List Int) : Prop := ∀ x ∈ xs, 0 ≤ x ∧ x ≤ 65535

theorem u16s_at {xs : List Int} {i : Nat} {x : Int} (h : xs[i]? = some x) : (u16s xs)[i]? = some (.int .u16 x) := by
  unfold u16s
  rw [List.getElem?_map, h]
  rfl

end Go.Proofs.Ytbkmgblijncjhaa

namespace Go.Proofs.Ytbkmgblijncjhaa
open Go.RowKit Go.Maps

theorem xor_nought (a : Int) (h0 : 0 ≤ a) (h1 : a ≤ 9223372036854775807) : bits .xor .i64 a 0 = a := by
  have := xor_i64 a.toNat 0 (by omega) (by omega)
  simp at this
  rwa [Int.max_eq_left h0] at this

theorem xor_turn (a t : Int) (h0 : 0 ≤ a) (h1 : a ≤ 9223372036854775807) (ht : t = 0 ∨ t = 1) : bits .xor .i64 a t = turnBy a t := by
  rcases ht with rfl | rfl
  · rw [xor_nought a h0 h1]
    rfl
  · rw [xor_flip a h0 h1]
    rfl

/-- What stands behind so many rounds. -/
structure MSt (w wr : World) (n : Int) (xs : List Int) (k : Nat) (A : Option Addr) (c : Nat) : Prop where
  below : Below w.heap.size w wr
  big : w.heap.size + 2 ≤ wr.heap.size
  cap : (madeAt n xs k).1.as.length ≤ c
  res : Blk wr w.heap.size 41 #[.int .i64 0, .slice none 0 0]
  g : Blk wr (w.heap.size + 1) 41 #[.int .i64 (madeAt n xs k).1.n, .slice A (madeAt n xs k).1.as.length c]
  prs : PrsQ wr (w.heap.size + 2 ≤ ·) A (madeAt n xs k).1.as

theorem MSt.step {w wr wr' : World} {n : Int} {xs : List Int} {k : Nat} {A : Option Addr} {c : Nat} (h : MSt w wr n xs k A c) (hb : Below wr.heap.size wr wr') : MSt w wr' n xs k A c :=
  ⟨below2 h.below h.below.size hb, Nat.le_trans h.big hb.size, h.cap, h.res.below hb h.res.lt, h.g.below hb h.g.lt, h.prs.below hb⟩

/-- A round that makes nothing. -/
theorem MSt.again {w wr : World} {n : Int} {xs : List Int} {k : Nat} {A : Option Addr} {c : Nat} (h : MSt w wr n xs k A c) (e : madeAt n xs (k + 1) = madeAt n xs k) : MSt w wr n xs (k + 1) A c :=
  ⟨h.below, h.big, by rw [e]; exact h.cap, h.res, by rw [e]; exact h.g, by rw [e]; exact h.prs⟩

/-- A round that makes something. -/
theorem MSt.put {w wr : World} {n : Int} {xs : List Int} {k : Nat} {A A' : Option Addr} {c c' : Nat} {g : Gr} (h : MSt w wr n xs k A c) (e : (madeAt n xs (k + 1)).1 = g) (hc : g.as.length ≤ c') (hp : PrsQ wr (w.heap.size + 2 ≤ ·) A' g.as) :
    MSt w ((wr.setCell ⟨w.heap.size + 1, 0, none⟩ (.int .i64 g.n)).setCell ⟨w.heap.size + 1, 1, none⟩ (.slice A' g.as.length c')) n xs (k + 1) A' c' := by
  refine ⟨(h.below.setCell (p := ⟨w.heap.size + 1, 0, none⟩) (by simp) _).setCell (p := ⟨w.heap.size + 1, 1, none⟩) (by simp) _, by simpa [World.setCell] using h.big, by rw [e]; exact hc, ?_, ?_, ?_⟩
  · exact (h.res.far (p := ⟨w.heap.size + 1, 0, none⟩) (by simp) _).far (p := ⟨w.heap.size + 1, 1, none⟩) (by simp) _
  · have := (h.g.set_ 0 (.int .i64 g.n)).set_ 1 (.slice A' g.as.length c')
    rw [e]
    exact this
  · rw [e]
    exact (hp.setCell (fun b hb => by omega) _).setCell (fun b hb => by omega) _

theorem setCell2_size (w : World) (p q : Addr) (x y : Value) : ((w.setCell p x).setCell q y).heap.size = w.heap.size := by simp [World.setCell]

/-- The call hands back the graph and the literal. -/
def RetM (w : World) (r : Gr × Int) (e : Ending) (w' : World) : Prop :=
  ∃ A c, e = .returned (.tuple #[.agg #[.int .i64 r.1.n, .slice A r.1.as.length c], .int .i64 r.2]) ∧ r.1.as.length ≤ c ∧ Prs w' w'.heap.size A r.1.as ∧ Below w.heap.size w w'

theorem MSt.ret {w wr : World} {n : Int} {xs : List Int} {k : Nat} {A : Option Addr} {c : Nat} (h : MSt w wr n xs k A c) (x y : Value) :
    RetM w (madeAt n xs k) (.returned (.tuple #[.agg #[.int .i64 (madeAt n xs k).1.n, .slice A (madeAt n xs k).1.as.length c], .int .i64 (madeAt n xs k).2])) ((wr.setCell ⟨w.heap.size, 0, none⟩ x).setCell ⟨w.heap.size, 1, none⟩ y) :=
  ⟨A, c, rfl, h.cap, ((h.prs.setCell (fun b hb => by omega) x).setCell (fun b hb => by omega) y).prs, (h.below.setCell (p := ⟨w.heap.size, 0, none⟩) (Nat.le_refl _) x).setCell (p := ⟨w.heap.size, 1, none⟩) (Nat.le_refl _) y⟩

set_option maxRecDepth 100000 in
set_option maxHeartbeats 2000000 in
theorem made_any (n : Int) (xs : List Int) (A : Option Addr) (c : Nat) (w : World) (h0 : 0 ≤ n) (h1 : n ≤ 1900) (hx : U16 xs) (hl : xs.length ≤ 8796093022208 * 8) (hp : Vals w w.heap.size A (u16s xs)) :
    Calls Try.prog 15 #[.int .i64 n, .slice A xs.length c] w (RetM w (madeG n xs)) := by
  go_enter Try.func15, Try.ntmps15
  go_wp2_with fail
  go_loopw [7, 8] (fun s i wr => ∃ (k : Nat) (B : Option Addr) (d : Nat), k ≤ 40 ∧ k ≤ xs.length ∧ s = .int .i64 (madeAt n xs k).2 ∧ i = .int .i64 k ∧ MSt w wr n xs k B d) (fun _ i _ => 40 - (intOf i).toNat)
  case atStart =>
    have hs : (w.alloc (.cells #[.int .i64 0, .slice none 0 0] 41)).heap.size = w.heap.size + 1 := by simp
    have hn := Blk.new (w.alloc (.cells #[.int .i64 0, .slice none 0 0] 41)) 41 #[.int .i64 n, .slice none 0 0]
    rw [hs] at hn
    exact ⟨0, none, 0, by omega, by omega, rfl, rfl, ((Below.refl _ _).alloc (Nat.le_refl _) _).alloc (by simp) _, by simp, Nat.le_refl _, (Blk.new w _ _).alloc _, hn, PrsQ.nil⟩
  case round =>
    obtain ⟨k, B, d, hk, hkl, rfl, rfl, hm⟩ := hrel
    have hi := madeAt_inv h0 h1 xs k
    have hn0 : 0 ≤ (madeAt n xs k).1.n := by rw [hi.n]; exact h0
    have hn1 : (madeAt n xs k).1.n ≤ 1900 := by rw [hi.n]; exact h1
    have hll : (madeAt n xs k).1.as.length ≤ 40 := Nat.le_trans hi.len hk
    have HM := Lib.hid hm
    have HP := Lib.hid hp
    have HI := Lib.hid hi
    have HX := Lib.hid hx
    have g0 : wr.cell? ⟨w.heap.size + 1, 0, none⟩ = some (.int .i64 (madeAt n xs k).1.n) := HM.out.g.cell 0
    have g1 : wr.cell? ⟨w.heap.size + 1, 1, none⟩ = some (.slice B (madeAt n xs k).1.as.length d) := HM.out.g.cell 1
    have d0 : wr.cell? ⟨w.heap.size, 0, none⟩ = some (.int .i64 0) := HM.out.res.cell 0
    have d1 : wr.cell? ⟨w.heap.size, 1, none⟩ = some (.slice none 0 0) := HM.out.res.cell 1
    have f0 := HM.out.res.frozen 0
    have f1 := HM.out.res.frozen 1
    clear hm hp hi hx
    by_cases hlt : k < xs.length
    · by_cases h40 : k < 40
      · have h40' : (k : Int) < 40 := by omega
        obtain ⟨x, hxk⟩ : ∃ x, xs[k]? = some x := ⟨_, List.getElem?_eq_getElem hlt⟩
        obtain ⟨x0, x1⟩ := HX.out x (List.mem_of_getElem? hxk)
        have HXK := Lib.hid hxk
        clear hxk
        go_wp2_with fail
        refine (rvars_any _ _ _ _ _ hn0 (by omega) (by omega)).mono ?_
        rintro e w2 ⟨rfl, hb2⟩
        have HM2 := Lib.hid (HM.out.step hb2)
        clear g0 g1 d0 d1 f0 f1 hb2
        have g0 : w2.cell? ⟨w.heap.size + 1, 0, none⟩ = some (.int .i64 (madeAt n xs k).1.n) := HM2.out.g.cell 0
        have g1 : w2.cell? ⟨w.heap.size + 1, 1, none⟩ = some (.slice B (madeAt n xs k).1.as.length d) := HM2.out.g.cell 1
        obtain ⟨b', o', rfl, hlb, l0⟩ := (HP.out.below HM2.out.below) k _ (u16s_at HXK.out)
        have hlt' : (k : Int) < (xs.length : Int) := by omega
        have hmz : ((2 * ((madeAt n xs k).1.n + 1 + ((madeAt n xs k).1.as.length : Int))) == 0) = false := by simp; omega
        have hM0 : 0 < 2 * ((madeAt n xs k).1.n + 1 + ((madeAt n xs k).1.as.length : Int)) := by omega
        have hM1 : 2 * ((madeAt n xs k).1.n + 1 + ((madeAt n xs k).1.as.length : Int)) ≤ 4000 := by omega
        have hxm : (x / (2 * ((madeAt n xs k).1.n + 1 + ((madeAt n xs k).1.as.length : Int)))).tmod (2 * ((madeAt n xs k).1.n + 1 + ((madeAt n xs k).1.as.length : Int))) = x / (2 * ((madeAt n xs k).1.n + 1 + ((madeAt n xs k).1.as.length : Int))) % (2 * ((madeAt n xs k).1.n + 1 + ((madeAt n xs k).1.as.length : Int))) :=
          Int.tmod_eq_emod_of_nonneg (Int.ediv_nonneg x0 (by omega))
        have hb1 := Int.emod_lt_of_pos x hM0
        have hb2 := Int.emod_lt_of_pos (x / (2 * ((madeAt n xs k).1.n + 1 + ((madeAt n xs k).1.as.length : Int)))) hM0
        have HR : Hid (∀ w0 : World, Below w2.heap.size w2 w0 → w2.heap.size ≤ w0.heap.size → Calls Try.prog 32 #[.agg #[.int .i64 (madeAt n xs k).1.n, .slice B (madeAt n xs k).1.as.length d], .int .i64 (x % (2 * ((madeAt n xs k).1.n + 1 + ((madeAt n xs k).1.as.length : Int)))), .int .i64 (x / (2 * ((madeAt n xs k).1.n + 1 + ((madeAt n xs k).1.as.length : Int))) % (2 * ((madeAt n xs k).1.n + 1 + ((madeAt n xs k).1.as.length : Int))))] w0 (RetG w0 (w.heap.size + 2 ≤ ·) (andG (madeAt n xs k).1 (x % (2 * ((madeAt n xs k).1.n + 1 + ((madeAt n xs k).1.as.length : Int)))) (x / (2 * ((madeAt n xs k).1.n + 1 + ((madeAt n xs k).1.as.length : Int))) % (2 * ((madeAt n xs k).1.n + 1 + ((madeAt n xs k).1.as.length : Int))))))) :=
          fun w0 h0 _ => rand_any (madeAt n xs k).1 _ _ B d w0 _ HI.out.ok (by omega) (by omega) HM2.out.cap (HM2.out.step h0).prs
        obtain ⟨r, hr⟩ : ∃ r, r = andG (madeAt n xs k).1 (x % (2 * ((madeAt n xs k).1.n + 1 + ((madeAt n xs k).1.as.length : Int)))) (x / (2 * ((madeAt n xs k).1.n + 1 + ((madeAt n xs k).1.as.length : Int))) % (2 * ((madeAt n xs k).1.n + 1 + ((madeAt n xs k).1.as.length : Int)))) := ⟨_, rfl⟩
        rw [← hr] at HR
        have hrl : 0 ≤ r.2.1 ∧ r.2.1 ≤ 4001 := by rw [hr]; exact andG_lit _ _ _
        have HRE := Lib.hid hr
        clear hr hb1 hb2
        go_wp2_with fail
        go_quiet (fail)
        clear hxm hmz
        go_wp2_with fail
        refine (HR.out _ (below_drewN (Below.refl _ _) _) (Nat.le_refl _)).mono ?_
        rintro e w3 ⟨B3, d3, rfl, hc3, hp3, hb3⟩
        have hb23 : Below w2.heap.size w2 w3 := below2 (below_drewN (Below.refl w2.heap.size w2) _) (Nat.le_refl _) hb3
        have hq3 : PrsQ w3 (w.heap.size + 2 ≤ ·) B3 r.1.as := hp3.imp fun b h _ => by
          rcases h with ⟨h, _⟩ | h
          · exact h
          · exact Nat.le_trans HM2.out.big h
        have HM3 := Lib.hid ((HM2.out.step hb23).step ((Below.refl w3.heap.size w3).alloc (Nat.le_refl _) (.cells #[.int .i64 r.1.n, .slice B3 r.1.as.length d3] 41)))
        have HQ3 := Lib.hid (hq3.alloc (.cells #[.int .i64 r.1.n, .slice B3 r.1.as.length d3] 41))
        have HC3 := Lib.hid hc3
        clear hb3 hp3 hb23 hq3 hc3 g0 g1 l0 HR
        obtain ⟨b4, o4, e4, _, l0⟩ := (HP.out.below HM3.out.below) k _ (u16s_at HXK.out)
        injection e4 with e4
        injection e4 with e4 e5
        subst e4 e5
        by_cases hz : r.2.2 = 0
        · have hz' : (r.2.2 == 0) = true := by simpa using hz
          have HS : Hid (madeAt n xs (k + 1) = (r.1, turnBy r.2.1 (x / 7 % 2))) := by
            show madeAt n xs (k + 1) = _
            rw [madeAt_succ HXK.out]
            unfold madeStep
            simp only
            unfold Gr.vars
            rw [← HRE.out, if_pos hz]
          have HX7 : Hid (bits .xor .i64 r.2.1 (x / 7 % 2) = turnBy r.2.1 (x / 7 % 2)) := xor_turn _ _ hrl.1 (by omega) (by omega)
          have y0 : (w3.alloc (.cells #[.int .i64 r.1.n, .slice B3 r.1.as.length d3] 41)).cell? ⟨w3.heap.size, 0, none⟩ = some (.int .i64 r.1.n) := (Blk.new w3 _ _).cell 0
          have y1 : (w3.alloc (.cells #[.int .i64 r.1.n, .slice B3 r.1.as.length d3] 41)).cell? ⟨w3.heap.size, 1, none⟩ = some (.slice B3 r.1.as.length d3) := (Blk.new w3 _ _).cell 1
          have g0 : (w3.alloc (.cells #[.int .i64 r.1.n, .slice B3 r.1.as.length d3] 41)).cell? ⟨w.heap.size + 1, 0, none⟩ = some (.int .i64 (madeAt n xs k).1.n) := HM3.out.g.cell 0
          have g1 : (w3.alloc (.cells #[.int .i64 r.1.n, .slice B3 r.1.as.length d3] 41)).cell? ⟨w.heap.size + 1, 1, none⟩ = some (.slice B (madeAt n xs k).1.as.length d) := HM3.out.g.cell 1
          have f0 := HM3.out.g.frozen 0
          have f1 := HM3.out.g.frozen 1
          clear hz
          go_wp2_with fail
          go_region
          all_goals go_wp2_with fail
          all_goals go_roundw
          case rel => exact ⟨k + 1, B3, d3, by omega, by omega, by rw [HX7.out, HS.out], by go_num, (HM3.out.put (by rw [HS.out]) HC3.out HQ3.out).step (Below.refl _ _).drew⟩
          case measure => simp [intOf]; omega
        · have hz' : (r.2.2 == 0) = false := by simpa using hz
          have HS : Hid (madeAt n xs (k + 1) = madeAt n xs k) := by
            show madeAt n xs (k + 1) = _
            rw [madeAt_succ HXK.out]
            unfold madeStep
            simp only
            unfold Gr.vars
            rw [← HRE.out, if_neg hz]
          clear hz
          go_wp2_with fail
          go_roundw
          case rel => exact ⟨k + 1, B, d, by omega, by omega, by rw [HS.out], by go_num, HM3.out.again HS.out⟩
          case measure => simp [intOf]; omega
      · have h40' : ¬ ((k : Int) < 40) := by omega
        clear h40
        have HE : Hid (madeG n xs = madeAt n xs k) := by
          obtain rfl : k = 40 := by omega
          rfl
        go_wp2_with fail
        refine bodyPost_ret (v := .tuple #[.agg #[.int .i64 (madeAt n xs k).1.n, .slice B (madeAt n xs k).1.as.length d], .int .i64 (madeAt n xs k).2]) (by simp [results, Try.results15, go_sem, d0, d1]) rfl ?_
        rw [HE.out]
        exact HM.out.ret _ _
    · have hlt' : ¬ ((k : Int) < (xs.length : Int)) := by omega
      have HE : Hid (madeG n xs = madeAt n xs k) := by
        obtain rfl : k = xs.length := by omega
        show madeG n xs = _
        unfold madeG madeAt
        rw [List.take_of_length_le (Nat.le_refl _), List.take_of_length_le hk]
      go_wp2_with fail
      refine bodyPost_ret (v := .tuple #[.agg #[.int .i64 (madeAt n xs k).1.n, .slice B (madeAt n xs k).1.as.length d], .int .i64 (madeAt n xs k).2]) (by simp [results, Try.results15, go_sem, d0, d1]) rfl ?_
      rw [HE.out]
      exact HM.out.ret _ _

end Go.Proofs.Ytbkmgblijncjhaa

namespace Go.Proofs.Ytbkmgblijncjhaa
open Go.RowKit Go.Maps

/-- A remainder, where neither is below nought. -/
theorem rem_run {P : Program} (x y : Int) (hx : 0 ≤ x) (hy : 0 < y) (_hl : y ≤ 9223372036854775807) : ∀ w : World, (Op.intDiv .rem .i64 x y).run P w = .ok (.int .i64 (x % y)) w := fun w => by
  have h3 : y ≠ 0 := by omega
  simp [Op.intDiv, go_sem, h3, Int.tmod_eq_emod_of_nonneg hx]

/-- Block b holds the graph. -/
structure GBox (w : World) (b : Nat) (g : Gr) (B : Option Addr) (d : Nat) : Prop where
  blk : Blk w b 41 #[.int .i64 g.n, .slice B g.as.length d]
  cap : g.as.length ≤ d
  prs : Prs w w.heap.size B g.as

section
variable {w w' : World} {b : Nat} {g : Gr} {B : Option Addr} {d : Nat}
theorem GBox.step (h : GBox w b g B d) (hb : Below w.heap.size w w') : GBox w' b g B d := ⟨h.blk.below hb h.blk.lt, h.cap, h.prs.after hb⟩
theorem GBox.alloc (h : GBox w b g B d) (o : Obj) : GBox (w.alloc o) b g B d := h.step ((Below.refl _ _).alloc (Nat.le_refl _) o)
theorem GBox.c0 (h : GBox w b g B d) : w.cell? ⟨b, 0, none⟩ = some (.int .i64 g.n) := h.blk.cell 0
theorem GBox.c1 (h : GBox w b g B d) : w.cell? ⟨b, 1, none⟩ = some (.slice B g.as.length d) := h.blk.cell 1
theorem GBox.new (hc : g.as.length ≤ d) (hp : Prs w w.heap.size B g.as) : GBox (w.alloc (.cells #[.int .i64 g.n, .slice B g.as.length d] 41)) w.heap.size g B d :=
  ⟨Blk.new _ _ _, hc, hp.after ((Below.refl _ _).alloc (Nat.le_refl _) _)⟩
theorem below_alloc {v : World} (h : Below v.heap.size v w) (o : Obj) : Below v.heap.size v (w.alloc o) := below2 h h.size ((Below.refl _ _).alloc (Nat.le_refl _) o)
end
end Go.Proofs.Ytbkmgblijncjhaa

namespace Go.Proofs.Ytbkmgblijncjhaa

theorem valsFrom_append (v : List Bool) (ps qs : List Pr) : valsFrom v (ps ++ qs) = valsFrom (valsFrom v ps) qs := by
  unfold valsFrom
  rw [List.foldl_append]
theorem valsFrom_pre : ∀ (ps : List Pr) (v : List Bool), ∃ t : List Bool, valsFrom v ps = v ++ t
  | [], v => ⟨[], by simp [valsFrom]⟩
  | p :: ps, v => by
    obtain ⟨t, ht⟩ := valsFrom_pre ps (v ++ [bitB v p.1 && bitB v p.2])
    refine ⟨[bitB v p.1 && bitB v p.2] ++ t, ?_⟩
    unfold valsFrom at ht ⊢
    rw [List.foldl_cons, ht, List.append_assoc]

theorem bitB_append {v t : List Bool} {l : Int} (h0 : 0 ≤ l) (h1 : l / 2 < v.length) : bitB (v ++ t) l = bitB v l := by
  unfold bitB
  rw [List.getElem?_append_left (by omega)]

theorem bitB_flip {v : List Bool} {l : Int} (h0 : 0 ≤ l) : bitB v (flip l) = !bitB v l := by
  have e : (flip l / 2).toNat = (l / 2).toNat ∧ (flip l % 2 = 1 ↔ ¬ l % 2 = 1) := by
    unfold flip
    split <;> omega
  unfold bitB
  rw [e.1]
  by_cases h : l % 2 = 1
  · have h' : ¬ flip l % 2 = 1 := by rw [e.2]; simpa using h
    rw [decide_eq_true h, decide_eq_false h']
    cases v[(l / 2).toNat]?.getD false <;> rfl
  · have h' : flip l % 2 = 1 := e.2.2 h
    rw [decide_eq_false h, decide_eq_true h']
    cases v[(l / 2).toNat]?.getD false <;> rfl

/-- What a literal is by inputs. -/
def litV (g : Gr) (xs : List Bool) (l : Int) : Bool := bitB (valsFrom (false :: xs) g.as) l

theorem litV_flip {g : Gr} {xs : List Bool} {l : Int} (h : 0 ≤ l) : litV g xs (flip l) = !litV g xs l := bitB_flip h

theorem vals_len (g : Gr) (xs : List Bool) : (valsFrom (false :: xs) g.as).length = xs.length + 1 + g.as.length := by
  rw [valsFrom_length]
  simp

theorem lit_in {g : Gr} {xs : List Bool} {l : Int} (hn : (xs.length : Int) = g.n) (hl : litB g l = true) : 0 ≤ l ∧ l / 2 < ((valsFrom (false :: xs) g.as).length : Int) := by
  obtain ⟨_, _, h1, h2⟩ := (litB_iff g l).1 hl
  rw [vals_len]
  omega

theorem evalG_is {g : Gr} {xs : List Bool} {l : Int} (hr : rightB g = true) (hn : (xs.length : Int) = g.n) (hl : litB g l = true) : evalG g l xs = litV g xs l := by
  have e : allG g xs = valsFrom (false :: xs) g.as := by rw [allG_is hr hn]; unfold valsAt; rw [List.take_length]
  unfold evalG litV
  rw [e, hl, decide_eq_true (by rw [vals_len]; omega)]
  rfl

theorem litV_ext {g h : Gr} {xs : List Bool} {l : Int} (hx : Ext g h) (hn : (xs.length : Int) = g.n) (hl : litB g l = true) : litV h xs l = litV g xs l := by
  obtain ⟨_, qs, e⟩ := hx
  unfold litV
  rw [e, valsFrom_append]
  obtain ⟨t, ht⟩ := valsFrom_pre qs (valsFrom (false :: xs) g.as)
  rw [ht]
  obtain ⟨h0, h1⟩ := lit_in hn hl
  exact bitB_append h0 h1

/-- The values behind so many gates are the first of all values. -/
theorem valsAt_pre (g : Gr) (xs : List Bool) (k : Nat) : ∃ t : List Bool, valsFrom (false :: xs) g.as = valsAt g xs k ++ t := by
  obtain ⟨t, ht⟩ := valsFrom_pre (g.as.drop k) (valsAt g xs k)
  refine ⟨t, ?_⟩
  rw [← ht]
  unfold valsAt
  rw [← valsFrom_append, List.take_append_drop]

theorem litV_at {g : Gr} {xs : List Bool} {k : Nat} {l : Int} (hk : k ≤ g.as.length) (h0 : 0 ≤ l) (h1 : l / 2 < 1 + (xs.length : Int) + k) : litV g xs l = bitB (valsAt g xs k) l := by
  obtain ⟨t, ht⟩ := valsAt_pre g xs k
  unfold litV
  rw [ht]
  exact bitB_append h0 (by rw [valsAt_length hk]; omega)

theorem litV_gate {g : Gr} {xs : List Bool} {k : Nat} {p : Pr} (hr : rightB g = true) (hn : (xs.length : Int) = g.n) (h : g.as[k]? = some p) : litV g xs (2 * (g.n + 1 + k)) = (litV g xs p.1 && litV g xs p.2) := by
  have hk := (List.getElem?_eq_some_iff.1 h).1
  obtain ⟨_, hall, _⟩ := (right_iff g).1 hr
  obtain ⟨m1, m2, m3⟩ := (of_decide_eq_true (hall k p h) : 2 ≤ p.2 ∧ p.2 / 2 < p.1 / 2 ∧ p.1 / 2 < g.n + 1 + k)
  rw [litV_at (k := k + 1) (by omega) (by omega) (by omega), valsAt_succ h, litV_at (k := k) (l := p.1) (by omega) (by omega) (by omega), litV_at (k := k) (l := p.2) (by omega) (by omega) (by omega)]
  unfold bitB
  have e1 : (2 * (g.n + 1 + (k : Int)) / 2).toNat = (valsAt g xs k).length := by rw [valsAt_length (by omega)]; omega
  have e2 : ¬ (2 * (g.n + 1 + (k : Int)) % 2 = 1) := by omega
  rw [e1, decide_eq_false e2, List.getElem?_concat_length]
  simp

theorem litV_zero (g : Gr) (xs : List Bool) : litV g xs 0 = false := by
  rw [litV_at (k := 0) (Nat.zero_le _) (by omega) (by simp; omega), valsAt_zero]
  rfl
theorem litV_one (g : Gr) (xs : List Bool) : litV g xs 1 = true := by
  have := litV_flip (g := g) (xs := xs) (l := 0) (by omega)
  rw [litV_zero] at this
  exact this
theorem litV_input {g : Gr} {xs : List Bool} {i : Nat} {x : Bool} (h : xs[i]? = some x) : litV g xs (2 * ((i : Int) + 1)) = x := by
  have hi := (List.getElem?_eq_some_iff.1 h).1
  rw [litV_at (k := 0) (Nat.zero_le _) (by omega) (by simp; omega), valsAt_zero]
  unfold bitB
  have e1 : (2 * ((i : Int) + 1) / 2).toNat = i + 1 := by omega
  have e2 : ¬ (2 * ((i : Int) + 1) % 2 = 1) := by omega
  rw [e1, decide_eq_false e2, List.getElem?_cons_succ, h]
  simp

theorem litV_even {g : Gr} {xs : List Bool} {l : Int} (h0 : 0 ≤ l) (h1 : l % 2 = 0) : litV g xs (l + 1) = !litV g xs l := by
  have e : flip l = l + 1 := by unfold flip; rw [if_pos h1]
  rw [← e]
  exact litV_flip h0

theorem trivG_some {g : Gr} {xs : List Bool} {a b l : Int} (hb0 : 0 ≤ b) (hab : b ≤ a) (h : trivG a b = some l) : litV g xs l = (litV g xs a && litV g xs b) := by
  unfold trivG at h
  split at h
  · rename_i h1
    simp at h
    subst h
    rw [litV_zero]
    rcases h1 with rfl | ⟨h1, h2⟩
    · rw [litV_zero, Bool.and_false]
    · have e : a = b + 1 ∧ b % 2 = 0 := by omega
      rw [e.1, litV_even hb0 e.2]
      cases litV g xs b <;> rfl
  · split at h
    · rename_i h1
      simp at h
      subst h
      rcases h1 with rfl | rfl
      · rw [litV_one, Bool.and_true]
      · rw [Bool.and_self]
    · cases h

theorem andHi_sem {g : Gr} {xs : List Bool} {a b : Int} (hr : rightB g = true) (hn : (xs.length : Int) = g.n) (ha : litB g a = true) (hb : litB g b = true) (hab : b ≤ a) (he : (andHi g a b).2.2 = 0) :
    litV (andHi g a b).1 xs (andHi g a b).2.1 = (litV g xs a && litV g xs b) := by
  have hb0 := litB_ge hb
  have hg := andHi_grows hr ha hb hab he
  rcases andHi_cases g a b with ⟨ht, h⟩ | ⟨ht, h⟩ | ⟨ht, i, hp, h⟩ | ⟨ht, hp, hv, h⟩ | ⟨ht, hp, hv, h⟩
  · rw [h]; exact trivG_some hb0 hab ht
  · rw [h]; exact trivG_some hb0 hab ht
  · rw [h]
    exact litV_gate hr hn (placeOf_some hp)
  · rw [h] at he; cases he
  · rw [h] at hg ⊢
    have := litV_gate (xs := xs) (k := g.as.length) (p := (a, b)) hg.right (by simpa using hn) (by simp)
    simp only at this ⊢
    rw [show 2 * g.vars = 2 * (g.n + 1 + (g.as.length : Int)) from rfl, this]
    rw [litV_ext hg.ext hn ha, litV_ext hg.ext hn hb]

theorem andG_sem {g : Gr} {xs : List Bool} {a b : Int} (hn : (xs.length : Int) = g.n) (he : (andG g a b).2.2 = 0) : litV (andG g a b).1 xs (andG g a b).2.1 = (litV g xs a && litV g xs b) := by
  obtain ⟨hr, ha, hb, h⟩ := andG_zero he
  obtain ⟨h1, h2, h3⟩ := max_min ha hb
  rw [h] at he ⊢
  rw [andHi_sem hr hn h1 h2 h3 he]
  rcases Int.le_total a b with h | h
  · rw [Int.max_eq_right h, Int.min_eq_left h, Bool.and_comm]
  · rw [Int.max_eq_left h, Int.min_eq_right h]

/-- One of two right literals, where there is room. -/
theorem orG_sem {g : Gr} {xs : List Bool} {a b : Int} (hr : rightB g = true) (hn : (xs.length : Int) = g.n) (ha : litB g a = true) (hb : litB g b = true) (hv : g.vars < 2000) :
    (orG g a b).2.2 = 0 ∧ Grows g (orG g a b).1 (orG g a b).2.1 1 ∧ litV (orG g a b).1 xs (orG g a b).2.1 = (litV g xs a || litV g xs b) := by
  have he := andG_ok_of hr (flip_lit ha) (flip_lit hb) hv
  have hg := andG_grows he
  rw [orG_eq (litB_ge ha) (litB_ge hb) he]
  refine ⟨rfl, ⟨hg.right, flip_lit hg.lit, hg.n, hg.more⟩, ?_⟩
  simp only
  rw [litV_flip (litB_ge hg.lit), andG_sem hn he, litV_flip (litB_ge ha), litV_flip (litB_ge hb)]
  cases litV g xs a <;> cases litV g xs b <;> rfl

/-- The chosen one of two right literals, where there is room. -/
theorem iteG_sem {g : Gr} {xs : List Bool} {k a b : Int} (hr : rightB g = true) (hn : (xs.length : Int) = g.n) (hk : litB g k = true) (ha : litB g a = true) (hb : litB g b = true) (hv : g.vars < 1990) :
    (iteG g k a b).2.2 = 0 ∧ Grows g (iteG g k a b).1 (iteG g k a b).2.1 3 ∧ litV (iteG g k a b).1 xs (iteG g k a b).2.1 = if litV g xs k then litV g xs a else litV g xs b := by
  have k0 := litB_ge hk
  have e1 := andG_ok_of hr hk ha (by omega)
  have g1 := andG_grows e1
  have v1 := g1.vars
  have n1 : (xs.length : Int) = (andG g k a).1.n := hn.trans g1.n.symm
  have e2 := andG_ok_of g1.right (flip_lit (g1.ext.lit hk)) (g1.ext.lit hb) (by omega)
  have g2 := andG_grows e2
  have v2 := g2.vars
  have n2 : (xs.length : Int) = (andG (andG g k a).1 (flip k) b).1.n := n1.trans g2.n.symm
  obtain ⟨o1, o2, o3⟩ := orG_sem (xs := xs) g2.right n2 (g2.ext.lit g1.lit) g2.lit (by omega)
  have hi : iteG g k a b = orG (andG (andG g k a).1 (flip k) b).1 (andG g k a).2.1 (andG (andG g k a).1 (flip k) b).2.1 := by
    unfold iteG
    rw [if_neg (by omega)]
    simp only [e1, e2, if_true]
  rw [hi]
  obtain ⟨q1, f1, m1⟩ := g1.more
  obtain ⟨q2, f2, m2⟩ := g2.more
  obtain ⟨q3, f3, m3⟩ := o2.more
  refine ⟨o1, ⟨o2.right, o2.lit, o2.n.trans (g2.n.trans g1.n), q1 ++ (q2 ++ q3), by rw [f3, f2, f1]; simp, by simp; omega⟩, ?_⟩
  rw [o3, litV_ext g2.ext n1 g1.lit, andG_sem hn e1, andG_sem n1 e2, litV_flip k0, litV_ext g1.ext hn hk, litV_ext g1.ext hn hb]
  cases litV g xs k <;> simp

end Go.Proofs.Ytbkmgblijncjhaa

set_option linter.unusedVariables false
set_option linter.unusedSimpArgs false
namespace Go.Proofs.Ytbkmgblijncjhaa

/-- What is told of a value: it, or either. -/
def Tells (t : Int) (b : Bool) : Prop := t = 2 ∨ t = if b then 1 else 0
/-- y tells no more than x. -/
def Less3 (x y : Int) : Prop := y = 2 ∨ y = x

/-- Two lists, place by place. -/
def Each {α β : Type} (R : α → β → Prop) : List α → List β → Prop
  | [], [] => True
  | x :: xs, y :: ys => R x y ∧ Each R xs ys
  | _, _ => False

section
variable {α β : Type} {R : α → β → Prop}
theorem Each.length : ∀ {xs : List α} {ys : List β}, Each R xs ys → xs.length = ys.length
  | [], [], _ => rfl
  | _ :: _, _ :: _, h => by simp [h.2.length]
  | [], _ :: _, h => h.elim
  | _ :: _, [], h => h.elim
theorem Each.snoc : ∀ {xs : List α} {ys : List β} {x : α} {y : β}, Each R xs ys → R x y → Each R (xs ++ [x]) (ys ++ [y])
  | [], [], _, _, _, h => ⟨h, trivial⟩
  | _ :: _, _ :: _, _, _, h, h' => ⟨h.1, h.2.snoc h'⟩
  | [], _ :: _, _, _, h, _ => h.elim
  | _ :: _, [], _, _, h, _ => h.elim
theorem Each.at_ : ∀ {xs : List α} {ys : List β} {i : Nat} {x : α} {y : β}, Each R xs ys → xs[i]? = some x → ys[i]? = some y → R x y
  | [], [], i, x, y, _, h, _ => by simp at h
  | x :: xs, y :: ys, 0, a, b, h, h1, h2 => by simp at h1 h2; subst h1; subst h2; exact h.1
  | x :: xs, y :: ys, i + 1, a, b, h, h1, h2 => h.2.at_ (i := i) (by simpa using h1) (by simpa using h2)
  | [], _ :: _, _, _, _, h, _, _ => h.elim
  | _ :: _, [], _, _, _, h, _, _ => h.elim
theorem Each.get {xs : List α} {ys : List β} (h : Each R xs ys) (i : Nat) (d : α) (e : β) (hd : R d e) : R (xs[i]?.getD d) (ys[i]?.getD e) := by
  have hl := h.length
  by_cases hi : i < xs.length
  · have h1 := List.getElem?_eq_getElem hi
    have h2 := List.getElem?_eq_getElem (hl ▸ hi)
    rw [h1, h2]
    exact h.at_ h1 h2
  · rw [List.getElem?_eq_none (by omega), List.getElem?_eq_none (by omega)]
    exact hd
end

theorem tells_turn {t : Int} {b : Bool} (h : Tells t b) : Tells (turn3 t) (!b) := by
  unfold Tells turn3 at *
  cases b <;> rcases h with rfl | rfl <;> simp
theorem tells_gate {s t : Int} {a b : Bool} (h : Tells s a) (h' : Tells t b) : Tells (gate3 s t) (a && b) := by
  unfold Tells gate3 at *
  cases a <;> cases b <;> rcases h with rfl | rfl <;> rcases h' with rfl | rfl <;> simp
theorem less_turn {x y : Int} (h : Less3 x y) : Less3 (turn3 x) (turn3 y) := by
  unfold Less3 at *
  rcases h with rfl | rfl
  · exact .inl rfl
  · exact .inr rfl
theorem less_gate {x y s t : Int} (hx : Is3 x) (hs : Is3 s) (h : Less3 x y) (h' : Less3 s t) : Less3 (gate3 x s) (gate3 y t) := by
  unfold Less3 Is3 gate3 at *
  rcases hx with rfl | rfl | rfl <;> rcases hs with rfl | rfl | rfl <;> rcases h with rfl | rfl <;> rcases h' with rfl | rfl <;> simp

theorem tells_bit {v : List Int} {u : List Bool} (h : Each Tells v u) (l : Int) : Tells (bit3 v l) (bitB u l) := by
  have hg := h.get (l / 2).toNat 0 false (.inr rfl)
  unfold bit3 bitB
  by_cases hl : l % 2 = 1
  · rw [if_pos hl, decide_eq_true hl]
    have := tells_turn hg
    cases e : u[(l / 2).toNat]?.getD false <;> rw [e] at this <;> exact this
  · rw [if_neg hl, decide_eq_false hl]
    cases e : u[(l / 2).toNat]?.getD false <;> rw [e] at hg <;> exact hg
theorem less_bit {v u : List Int} (h : Each Less3 v u) (l : Int) : Less3 (bit3 v l) (bit3 u l) := by
  have hg := h.get (l / 2).toNat 0 0 (.inr rfl)
  unfold bit3
  by_cases hl : l % 2 = 1
  · rw [if_pos hl, if_pos hl]; exact less_turn hg
  · rw [if_neg hl, if_neg hl]; exact hg

theorem tells_from : ∀ (ps : List Pr) (v : List Int) (u : List Bool), Each Tells v u → Each Tells (vals3From v ps) (valsFrom u ps)
  | [], _, _, h => h
  | p :: ps, v, u, h => tells_from ps _ _ (h.snoc (tells_gate (tells_bit h p.1) (tells_bit h p.2)))
theorem less_from : ∀ (ps : List Pr) (v u : List Int), (∀ x ∈ v, Is3 x) → Each Less3 v u → Each Less3 (vals3From v ps) (vals3From u ps)
  | [], _, _, _, h => h
  | p :: ps, v, u, hv, h => less_from ps _ _ (fun x hx => by
      rcases List.mem_append.1 hx with hx | hx
      · exact hv x hx
      · simp at hx
        rw [hx]
        exact gate3_is _ _) (h.snoc (less_gate (bit3_is hv _) (bit3_is hv _) (less_bit h p.1) (less_bit h p.2)))

theorem each_map {α β γ δ : Type} {R : γ → δ → Prop} (f : α → γ) (g : β → δ) : ∀ {xs : List α} {ys : List β}, Each (fun x y => R (f x) (g y)) xs ys → Each R (xs.map f) (ys.map g)
  | [], [], _ => trivial
  | _ :: _, _ :: _, h => ⟨h.1, each_map f g h.2⟩
  | [], _ :: _, h => h.elim
  | _ :: _, [], h => h.elim

/-- What is told of inputs tells of a literal. -/
theorem threeG_tells {g : Gr} {l : Int} {xs : List Int} {u : List Bool} (hr : rightB g = true) (hn : (u.length : Int) = g.n) (hl : litB g l = true) (h : Each (fun x y => Tells (told3 x) y) xs u) : Tells (threeG g l xs) (evalG g l u) := by
  have hx := h.length
  have e : threeG g l xs = bit3 (vals3At g xs g.as.length) l := by
    unfold threeG
    rw [hr, hl, decide_eq_true (by omega : (xs.length : Int) = g.n)]
    rfl
  rw [e, evalG_is hr hn hl]
  unfold litV vals3At
  rw [List.take_length]
  have hm := each_map (R := Tells) told3 (fun b : Bool => b) h
  rw [List.map_id'] at hm
  have h0 : Each Tells (0 :: xs.map told3) (false :: u) := ⟨.inr rfl, hm⟩
  exact tells_bit (tells_from g.as _ _ h0) l
theorem threeG_less {g : Gr} {l : Int} {xs ys : List Int} (h : Each (fun x y => Less3 (told3 x) (told3 y)) xs ys) : Less3 (threeG g l xs) (threeG g l ys) := by
  have hx := h.length
  unfold threeG
  rw [hx]
  split
  · unfold vals3At
    rw [List.take_length]
    have h0 : Each Less3 (0 :: xs.map told3) (0 :: ys.map told3) := ⟨.inr rfl, each_map (R := Less3) told3 told3 h⟩
    refine less_bit (less_from g.as _ _ (fun x hx => ?_) h0) l
    rcases List.mem_cons.1 hx with rfl | hx
    · exact .inl rfl
    · obtain ⟨y, _, rfl⟩ := List.mem_map.1 hx
      exact told3_is y
  · exact .inr rfl
end Go.Proofs.Ytbkmgblijncjhaa

set_option linter.unusedVariables false
set_option linter.unusedSimpArgs false
namespace Go.Proofs.Ytbkmgblijncjhaa

theorem allG_length_le (g : Gr) (xs : List Bool) : (allG g xs).length ≤ 1 + xs.length + g.as.length := by
  unfold allG
  split
  · rw [valsFrom_length]; simp; omega
  · simp

/-- A truth value as one of three. -/
def zT (b : Bool) : Int := if b then 1 else 0
theorem zT_is (b : Bool) : zT b = 0 ∨ zT b = 1 := by cases b <;> simp [zT]
theorem zT_i64 (b : Bool) : 0 ≤ zT b ∧ zT b ≤ 1 := by cases b <;> simp [zT]

/-- t is just what b says. -/
def Exact3 (t : Int) (b : Bool) : Prop := t = zT b
theorem exact_turn {t : Int} {b : Bool} (h : Exact3 t b) : Exact3 (turn3 t) (!b) := by
  unfold Exact3 at *
  subst h
  cases b <;> rfl
theorem exact_gate {s t : Int} {a b : Bool} (h : Exact3 s a) (h' : Exact3 t b) : Exact3 (gate3 s t) (a && b) := by
  unfold Exact3 at *
  subst h
  subst h'
  cases a <;> cases b <;> rfl
theorem exact_bit {v : List Int} {u : List Bool} (h : Each Exact3 v u) (l : Int) : Exact3 (bit3 v l) (bitB u l) := by
  have hg := h.get (l / 2).toNat 0 false rfl
  unfold bit3 bitB
  by_cases hl : l % 2 = 1
  · rw [if_pos hl, decide_eq_true hl]
    have := exact_turn hg
    cases e : u[(l / 2).toNat]?.getD false <;> rw [e] at this <;> exact this
  · rw [if_neg hl, decide_eq_false hl]
    cases e : u[(l / 2).toNat]?.getD false <;> rw [e] at hg <;> exact hg
theorem exact_from : ∀ (ps : List Pr) (v : List Int) (u : List Bool), Each Exact3 v u → Each Exact3 (vals3From v ps) (valsFrom u ps)
  | [], _, _, h => h
  | p :: ps, v, u, h => exact_from ps _ _ (h.snoc (exact_gate (exact_bit h p.1) (exact_bit h p.2)))
theorem threeG_exact {g : Gr} {l : Int} {u : List Bool} (hr : rightB g = true) (hn : (u.length : Int) = g.n) (hl : litB g l = true) : threeG g l (u.map zT) = zT (evalG g l u) := by
  have e : threeG g l (u.map zT) = bit3 (vals3At g (u.map zT) g.as.length) l := by
    unfold threeG
    rw [hr, hl, decide_eq_true (by rw [List.length_map]; exact hn)]
    rfl
  rw [e, evalG_is hr hn hl]
  unfold litV vals3At
  rw [List.take_length]
  have hm : ∀ us : List Bool, Each Exact3 ((us.map zT).map told3) us := by
    intro us
    induction us with
    | nil => trivial
    | cons b us ih => exact ⟨by cases b <;> rfl, ih⟩
  have h0 : Each Exact3 (0 :: (u.map zT).map told3) (false :: u) := ⟨rfl, hm u⟩
  exact exact_bit (exact_from g.as _ _ h0) l

/-- A value, or either, where it is free. -/
def orFree (x : Int) (f : Bool) : Int := if f then 2 else x
def freed (xs : List Int) (fs : List Bool) : List Int := List.zipWith orFree xs fs

theorem freed_length (xs : List Int) (fs : List Bool) (h : fs.length = xs.length) : (freed xs fs).length = xs.length := by simp [freed, h]
theorem freed_snoc {xs : List Int} {fs : List Bool} {x : Int} {f : Bool} (h : xs.length = fs.length) : freed (xs ++ [x]) (fs ++ [f]) = freed xs fs ++ [orFree x f] := by
  unfold freed
  rw [List.zipWith_append h]
  rfl
theorem freed_tells : ∀ (us fs : List Bool), fs.length = us.length → Each (fun x y => Tells (told3 x) y) (freed (us.map zT) fs) us
  | [], fs, h => by simp at h; subst h; trivial
  | u :: us, [], h => by simp at h
  | u :: us, f :: fs, h => by
    refine ⟨?_, freed_tells us fs (by simpa using h)⟩
    cases f <;> cases u <;> simp [orFree, zT, told3, Tells]
theorem freed_less : ∀ (xs : List Int) (fs : List Bool), fs.length = xs.length → (∀ x ∈ xs, Is3 x) → Each (fun x y => Less3 (told3 x) (told3 y)) xs (freed xs fs)
  | [], fs, h, _ => by simp at h; subst h; trivial
  | x :: xs, [], h, _ => by simp at h
  | x :: xs, f :: fs, h, h3 => by
    refine ⟨?_, freed_less xs fs (by simpa using h) (fun y hy => h3 y (List.mem_cons_of_mem _ hy))⟩
    have hx := h3 x (by simp)
    unfold Is3 at hx
    cases f <;> rcases hx with rfl | rfl | rfl <;> simp [orFree, told3, Less3]

/-- A number's digits of two bits, each by a remainder. -/
def digG (t m : Int) (n : Nat) : List Int := (List.range n).map fun i => t / 2 ^ (2 * i) % m
theorem digG_length (t m : Int) (n : Nat) : (digG t m n).length = n := by simp [digG]
theorem digG_succ (t m : Int) (n : Nat) : digG t m (n + 1) = digG t m n ++ [t / 2 ^ (2 * n) % m] := by simp [digG, List.range_succ]
theorem digG_range {t m : Int} (hm : 0 < m) (n : Nat) : ∀ x ∈ digG t m n, 0 ≤ x ∧ x < m := by
  intro x hx
  obtain ⟨i, _, rfl⟩ := List.mem_map.1 hx
  exact ⟨Int.emod_nonneg _ (by omega), Int.emod_lt_of_pos _ hm⟩
theorem digG_is3 (t : Int) (n : Nat) : ∀ x ∈ digG t 3 n, Is3 x := by
  intro x hx
  have := digG_range (by omega) n x hx
  unfold Is3
  omega

/-! ### What all variables are -/
theorem allG_at {g : Gr} {xs : List Bool} (hr : rightB g = true) (hn : (xs.length : Int) = g.n) {i : Nat} {x : Bool} (h : (allG g xs)[i]? = some x) : litV g xs (2 * (i : Int)) = x := by
  have e : allG g xs = valsFrom (false :: xs) g.as := by rw [allG_is hr hn]; unfold valsAt; rw [List.take_length]
  rw [e] at h
  unfold litV bitB
  have e1 : (2 * (i : Int) / 2).toNat = i := by omega
  have e2 : ¬ (2 * (i : Int) % 2 = 1) := by omega
  rw [e1, decide_eq_false e2, h]
  simp
theorem allG_len {g : Gr} {xs : List Bool} (hr : rightB g = true) (hn : (xs.length : Int) = g.n) : ((allG g xs).length : Int) = g.n + 1 + g.as.length := by
  rw [allG_is hr hn, valsAt_length (Nat.le_refl _)]
  omega
theorem allG_first {g : Gr} {xs : List Bool} (hr : rightB g = true) (hn : (xs.length : Int) = g.n) : (allG g xs)[0]? = some false := by
  have hl := allG_len hr hn
  have h0 : (0 : Nat) < (allG g xs).length := by
    obtain ⟨a, _⟩ := right_vars hr
    omega
  have h := List.getElem?_eq_getElem h0
  have := allG_at hr hn h
  rw [h, ← this]
  exact congrArg some (litV_zero g xs)
theorem allG_lit {g : Gr} {xs : List Bool} (hr : rightB g = true) (hn : (xs.length : Int) = g.n) {i : Nat} (h : i < (allG g xs).length) : litB g (2 * (i : Int)) = true ∧ litB g (2 * (i : Int) + 1) = true := by
  have hl := allG_len hr hn
  exact ⟨lit_of hr (by omega) (by unfold Gr.vars; omega), lit_of hr (by omega) (by unfold Gr.vars; omega)⟩
/-- Each variable, by both its literals. -/
theorem allG_both {g : Gr} {xs : List Bool} (hr : rightB g = true) (hn : (xs.length : Int) = g.n) {i : Nat} {x : Bool} (h : (allG g xs)[i]? = some x) : evalG g (2 * (i : Int)) xs = x ∧ evalG g (2 * (i : Int) + 1) xs = !x := by
  obtain ⟨l1, l2⟩ := allG_lit hr hn (List.getElem?_eq_some_iff.1 h).1
  rw [evalG_is hr hn l1, evalG_is hr hn l2, litV_even (by omega) (by omega), allG_at hr hn h]
  exact ⟨rfl, rfl⟩
theorem allG_input {g : Gr} {xs : List Bool} (hr : rightB g = true) (hn : (xs.length : Int) = g.n) {i : Nat} {x y : Bool} (h : (allG g xs)[i + 1]? = some x) (hy : xs[i]? = some y) : x = y := by
  rw [← allG_at hr hn h, ← litV_input (g := g) hy]
  congr 1
theorem allG_gate {g : Gr} {xs : List Bool} (hr : rightB g = true) (hn : (xs.length : Int) = g.n) {i k : Nat} {x : Bool} {p : Pr} (h : (allG g xs)[i]? = some x) (hk : g.as[k]? = some p) (hi : (i : Int) = g.n + 1 + k) :
    x = (evalG g p.1 xs && evalG g p.2 xs) ∧ litB g p.1 = true ∧ litB g p.2 = true := by
  obtain ⟨_, hall, _⟩ := (right_iff g).1 hr
  obtain ⟨m1, m2, m3⟩ := (of_decide_eq_true (hall k p hk) : 2 ≤ p.2 ∧ p.2 / 2 < p.1 / 2 ∧ p.1 / 2 < g.n + 1 + k)
  have hkl := (List.getElem?_eq_some_iff.1 hk).1
  have l1 := lit_of hr (l := p.1) (by omega) (by unfold Gr.vars; omega)
  have l2 := lit_of hr (l := p.2) (by omega) (by unfold Gr.vars; omega)
  refine ⟨?_, l1, l2⟩
  rw [evalG_is hr hn l1, evalG_is hr hn l2, ← litV_gate hr hn hk, ← allG_at hr hn h, hi]

/-! ### What is made of literals -/
theorem Grows.len {g h : Gr} {l : Int} {k : Nat} (hg : Grows g h l k) {xs : List Bool} (hn : (xs.length : Int) = g.n) : (xs.length : Int) = h.n := hn.trans hg.n.symm
theorem evalG_grown {g h : Gr} {l m : Int} {k : Nat} {xs : List Bool} (hr : rightB g = true) (hg : Grows g h l k) (hn : (xs.length : Int) = g.n) (hm : litB g m = true) : evalG h m xs = evalG g m xs := by
  rw [evalG_is hg.right (hg.len hn) (hg.ext.lit hm), evalG_is hr hn hm, litV_ext hg.ext hn hm]
theorem evalG_and {g : Gr} {xs : List Bool} {a b : Int} (hn : (xs.length : Int) = g.n) (he : (andG g a b).2.2 = 0) : evalG (andG g a b).1 (andG g a b).2.1 xs = (evalG g a xs && evalG g b xs) := by
  obtain ⟨hr, ha, hb, _⟩ := andG_zero he
  have hg := andG_grows he
  rw [evalG_is hg.right (hg.len hn) hg.lit, evalG_is hr hn ha, evalG_is hr hn hb, andG_sem hn he]
theorem evalG_or {g : Gr} {xs : List Bool} {a b : Int} (hr : rightB g = true) (hn : (xs.length : Int) = g.n) (ha : litB g a = true) (hb : litB g b = true) (hv : g.vars < 2000) :
    (orG g a b).2.2 = 0 ∧ Grows g (orG g a b).1 (orG g a b).2.1 1 ∧ evalG (orG g a b).1 (orG g a b).2.1 xs = (evalG g a xs || evalG g b xs) := by
  obtain ⟨h1, h2, h3⟩ := orG_sem hr hn ha hb hv
  refine ⟨h1, h2, ?_⟩
  rw [evalG_is h2.right (h2.len hn) h2.lit, evalG_is hr hn ha, evalG_is hr hn hb, h3]
theorem evalG_ite {g : Gr} {xs : List Bool} {k a b : Int} (hr : rightB g = true) (hn : (xs.length : Int) = g.n) (hk : litB g k = true) (ha : litB g a = true) (hb : litB g b = true) (hv : g.vars < 1990) :
    (iteG g k a b).2.2 = 0 ∧ Grows g (iteG g k a b).1 (iteG g k a b).2.1 3 ∧ evalG (iteG g k a b).1 (iteG g k a b).2.1 xs = if evalG g k xs then evalG g a xs else evalG g b xs := by
  obtain ⟨h1, h2, h3⟩ := iteG_sem hr hn hk ha hb hv
  refine ⟨h1, h2, ?_⟩
  rw [evalG_is h2.right (h2.len hn) h2.lit, evalG_is hr hn hk, evalG_is hr hn ha, evalG_is hr hn hb, h3]
end Go.Proofs.Ytbkmgblijncjhaa

namespace Go.Proofs.Ytbkmgblijncjhaa

/-- A gate that is marked marks what it is made of. -/
def mark (n : Int) (m : List Bool) (i : Nat) (p : Pr) : List Bool := if m[(n + 1 + i).toNat]?.getD false then (m.set (p.1 / 2).toNat true).set (p.2 / 2).toNat true else m

theorem mark_length (n : Int) (m : List Bool) (i : Nat) (p : Pr) : (mark n m i p).length = m.length := by
  unfold mark
  split <;> simp

theorem mark_yes {n : Int} {m : List Bool} {i : Nat} {p : Pr} (h : m[(n + 1 + i).toNat]? = some true) : mark n m i p = (m.set (p.1 / 2).toNat true).set (p.2 / 2).toNat true := by
  unfold mark
  rw [h]
  rfl
theorem mark_no {n : Int} {m : List Bool} {i : Nat} {p : Pr} (h : m[(n + 1 + i).toNat]? = some false) : mark n m i p = m := by
  unfold mark
  rw [h]
  rfl

/-- The marks behind so many gates, the last one first. -/
def marksAt (g : Gr) (m0 : List Bool) : Nat → List Bool
  | 0 => m0
  | k + 1 => match g.as[g.as.length - 1 - k]? with
    | some p => mark g.n (marksAt g m0 k) (g.as.length - 1 - k) p
    | none => marksAt g m0 k

theorem marksAt_succ {g : Gr} {m0 : List Bool} {k j : Nat} {p : Pr} (hj : g.as.length - 1 - k = j) (h : g.as[j]? = some p) : marksAt g m0 (k + 1) = mark g.n (marksAt g m0 k) j p := by
  rw [marksAt, hj, h]
theorem marksAt_length (g : Gr) (m0 : List Bool) : ∀ k, (marksAt g m0 k).length = m0.length
  | 0 => rfl
  | k + 1 => by
    rw [marksAt]
    split
    · rw [mark_length, marksAt_length g m0 k]
    · exact marksAt_length g m0 k

def mark0 (g : Gr) (l : Int) : List Bool := (List.replicate g.vars.toNat false).set (l / 2).toNat true
theorem mark0_length (g : Gr) (l : Int) : (mark0 g l).length = g.vars.toNat := by simp [mark0]

/-- Which variables stand below a literal. -/
def belowG (g : Gr) (l : Int) : List Bool := marksAt g (mark0 g l) g.as.length
theorem belowG_length (g : Gr) (l : Int) : (belowG g l).length = g.vars.toNat := by unfold belowG; rw [marksAt_length, mark0_length]

/-- A gate with its place. -/
abbrev Placed (g : Gr) := { x : Nat × Pr // g.as[x.1]? = some x.2 }
def marksOf {g : Gr} (m0 : List Bool) (pre : List (Placed g)) : List Bool := pre.foldl (fun m x => mark g.n m x.1.1 x.1.2) m0
theorem marksOf_snoc {g : Gr} (m0 : List Bool) (pre : List (Placed g)) (x : Placed g) : marksOf m0 (pre ++ [x]) = mark g.n (marksOf m0 pre) x.1.1 x.1.2 := by simp [marksOf]
theorem marksOf_length {g : Gr} (m0 : List Bool) (pre : List (Placed g)) : (marksOf m0 pre).length = m0.length := by
  unfold marksOf
  induction pre generalizing m0 with
  | nil => rfl
  | cons x pre ih => rw [List.foldl_cons, ih, mark_length]

theorem list_of' {α : Type} {Q : Nat → α → Prop} : ∀ n : Nat, (∀ i, i < n → ∃ x, Q i x) → ∃ l : List α, l.length = n ∧ ∀ i x, l[i]? = some x → Q i x
  | 0, _ => ⟨[], rfl, fun i x h => by simp at h⟩
  | n + 1, h => by
    obtain ⟨l, hl, hq⟩ := list_of' n fun i hi => h i (by omega)
    obtain ⟨x, hx⟩ := h n (by omega)
    refine ⟨l ++ [x], by simp [hl], fun i y hy => ?_⟩
    by_cases hi : i < n
    · rw [List.getElem?_append_left (by omega)] at hy
      exact hq i y hy
    · by_cases e : i = n
      · subst e
        rw [List.getElem?_append_right (by omega)] at hy
        simp [hl] at hy
        subst hy
        exact hx
      · rw [List.getElem?_append_right (by omega)] at hy
        have : i - l.length = (i - l.length - 1) + 1 := by omega
        rw [this] at hy
        simp at hy

/-- The gates, the last one first. -/
theorem placed_all (g : Gr) : ∃ xs : List (Placed g), xs.length = g.as.length ∧ ∀ k x, xs[k]? = some x → x.1.1 = g.as.length - 1 - k := by
  refine list_of' g.as.length fun i hi => ?_
  have hlt : g.as.length - 1 - i < g.as.length := by omega
  exact ⟨⟨(g.as.length - 1 - i, g.as[g.as.length - 1 - i]), List.getElem?_eq_getElem hlt⟩, rfl⟩
theorem marksOf_take {g : Gr} {m0 : List Bool} {xs : List (Placed g)} (hx : ∀ k x, xs[k]? = some x → x.1.1 = g.as.length - 1 - k) : ∀ k, k ≤ xs.length → marksOf m0 (xs.take k) = marksAt g m0 k
  | 0, _ => rfl
  | k + 1, hk => by
    have h : xs[k]? = some xs[k] := List.getElem?_eq_getElem (by omega)
    rw [List.take_add_one, h, Option.toList_some, marksOf_snoc, marksOf_take hx k (by omega)]
    have hp := xs[k].2
    rw [hx k _ h] at hp ⊢
    exact (marksAt_succ rfl hp).symm
end Go.Proofs.Ytbkmgblijncjhaa

namespace Go.Proofs.Ytbkmgblijncjhaa

/-- A graph's literal as one of clauses. -/
def litC (l : Int) : Int := if l % 2 = 1 then -(l / 2 + 1) else l / 2 + 1

/-- The clauses of a gate. -/
def gateC (n : Int) (i : Nat) (p : Pr) : List (List Int) :=
  [[-(n + 1 + i + 1), litC p.1], [-(n + 1 + i + 1), litC p.2], [n + 1 + i + 1, -litC p.1, -litC p.2]]

/-- The clauses of so many gates, of those that are marked. -/
def clausesAt (g : Gr) (l : Int) : Nat → List (List Int)
  | 0 => [[-1]]
  | k + 1 => match g.as[k]? with
    | some p => if (belowG g l)[(g.n + 1 + k).toNat]?.getD false then clausesAt g l k ++ gateC g.n k p else clausesAt g l k
    | none => clausesAt g l k

theorem clausesAt_yes {g : Gr} {l : Int} {k : Nat} {p : Pr} (h : g.as[k]? = some p) (hm : (belowG g l)[(g.n + 1 + k).toNat]? = some true) : clausesAt g l (k + 1) = clausesAt g l k ++ gateC g.n k p := by
  rw [clausesAt, h, hm]
  rfl
theorem clausesAt_no {g : Gr} {l : Int} {k : Nat} {p : Pr} (h : g.as[k]? = some p) (hm : (belowG g l)[(g.n + 1 + k).toNat]? = some false) : clausesAt g l (k + 1) = clausesAt g l k := by
  rw [clausesAt, h, hm]
  rfl

theorem clausesAt_length (g : Gr) (l : Int) : ∀ k, (clausesAt g l k).length ≤ 1 + 3 * k
  | 0 => Nat.le_refl _
  | k + 1 => by
    have := clausesAt_length g l k
    rw [clausesAt]
    split
    · split
      · simp only [List.length_append, gateC, List.length_cons, List.length_nil]
        omega
      · omega
    · omega

/-- What cnf.Of answers: variables, clauses, the error. -/
def cnfG (g : Gr) (l : Int) : Int × List (List Int) × Int :=
  if rightB g && litB g l then (g.vars, clausesAt g l g.as.length, 0) else (0, [], 1)

theorem cnfG_yes {g : Gr} {l : Int} (h : rightB g = true) (h' : litB g l = true) : cnfG g l = (g.vars, clausesAt g l g.as.length, 0) := by
  unfold cnfG
  rw [h, h']
  rfl
theorem cnfG_no1 {g : Gr} {l : Int} (h : rightB g = false) : cnfG g l = (0, [], 1) := by
  unfold cnfG
  rw [h]
  rfl
theorem cnfG_no2 {g : Gr} {l : Int} (h : litB g l = false) : cnfG g l = (0, [], 1) := by
  unfold cnfG
  rw [h, Bool.and_false]
  rfl

end Go.Proofs.Ytbkmgblijncjhaa

set_option linter.unusedVariables false
set_option linter.unusedSimpArgs false
namespace Go.Proofs.Ytbkmgblijncjhaa

/-- How many of so many gates are marked. -/
def gatesAt (g : Gr) (l : Int) : Nat → Nat
  | 0 => 0
  | k + 1 => if (belowG g l)[(g.n + 1 + k).toNat]?.getD false then gatesAt g l k + 1 else gatesAt g l k
/-- How many gates stand below a literal. -/
def gatesG (g : Gr) (l : Int) : Nat := if rightB g && litB g l then gatesAt g l g.as.length else 0

theorem gatesAt_le (g : Gr) (l : Int) : ∀ k, gatesAt g l k ≤ k
  | 0 => Nat.le_refl _
  | k + 1 => by
    have := gatesAt_le g l k
    rw [gatesAt]
    split <;> omega
theorem gatesG_le (g : Gr) (l : Int) : gatesG g l ≤ g.as.length := by
  unfold gatesG
  split
  · exact gatesAt_le g l _
  · omega
theorem gatesAt_yes {g : Gr} {l : Int} {k : Nat} (hm : (belowG g l)[(g.n + 1 + k).toNat]? = some true) : gatesAt g l (k + 1) = gatesAt g l k + 1 := by
  rw [gatesAt, hm]
  rfl
theorem gatesAt_no {g : Gr} {l : Int} {k : Nat} (hm : (belowG g l)[(g.n + 1 + k).toNat]? = some false) : gatesAt g l (k + 1) = gatesAt g l k := by
  rw [gatesAt, hm]
  rfl

theorem clausesAt_many (g : Gr) (l : Int) : ∀ k, k ≤ g.as.length → (clausesAt g l k).length = 1 + 3 * gatesAt g l k
  | 0, _ => rfl
  | k + 1, hk => by
    have ih := clausesAt_many g l k (by omega)
    rw [clausesAt, gatesAt, List.getElem?_eq_getElem (by omega : k < g.as.length)]
    simp only
    split
    · simp only [List.length_append, gateC, List.length_cons, List.length_nil, ih]
      omega
    · exact ih

theorem mark0_half {g : Gr} {l m : Int} (h : l / 2 = m / 2) : mark0 g l = mark0 g m := by
  unfold mark0
  rw [h]
theorem belowG_half {g : Gr} {l m : Int} (h : l / 2 = m / 2) : belowG g l = belowG g m := by
  unfold belowG
  rw [mark0_half h]
theorem clausesAt_half {g : Gr} {l m : Int} (h : l / 2 = m / 2) : ∀ k, clausesAt g l k = clausesAt g m k
  | 0 => rfl
  | k + 1 => by
    rw [clausesAt, clausesAt, belowG_half h, clausesAt_half h k]
theorem flip_half {l : Int} : flip l / 2 = l / 2 := by
  unfold flip
  split <;> omega

/-- All clauses that a graph's literal makes are of numbers that may be. -/
theorem litC_in {l v : Int} (h0 : 0 ≤ l) (h1 : l / 2 < v) : litC l ≠ 0 ∧ litC l ≤ v ∧ -v ≤ litC l := by
  unfold litC
  split <;> omega
theorem clausesAt_in {g : Gr} (hr : rightB g = true) (l : Int) : ∀ k, k ≤ g.as.length → ∀ c ∈ clausesAt g l k, ∀ x ∈ c, x ≠ 0 ∧ x ≤ g.vars ∧ -g.vars ≤ x
  | 0, _ => fun c hc x hx => by
    obtain ⟨⟨h1, h2, h3, h4⟩, _⟩ := (right_iff g).1 hr
    simp only [clausesAt, List.mem_cons, List.not_mem_nil, or_false] at hc
    subst hc
    simp only [List.mem_cons, List.not_mem_nil, or_false] at hx
    subst hx
    unfold Gr.vars
    omega
  | k + 1, hk => fun c hc x hx => by
    have ih := clausesAt_in hr l k (by omega)
    obtain ⟨⟨h1, h2, h3, h4⟩, hall, _⟩ := (right_iff g).1 hr
    have hp := List.getElem?_eq_getElem (by omega : k < g.as.length)
    obtain ⟨m1, m2, m3⟩ := (of_decide_eq_true (hall k _ hp) : 2 ≤ (g.as[k]).2 ∧ (g.as[k]).2 / 2 < (g.as[k]).1 / 2 ∧ (g.as[k]).1 / 2 < g.n + 1 + k)
    rw [clausesAt, hp] at hc
    simp only at hc
    have hv : g.vars = g.n + 1 + g.as.length := rfl
    obtain ⟨a1, a2, a3⟩ := litC_in (l := (g.as[k]).1) (v := g.vars) (by omega) (by omega)
    obtain ⟨b1, b2, b3⟩ := litC_in (l := (g.as[k]).2) (v := g.vars) (by omega) (by omega)
    split at hc
    · rcases List.mem_append.1 hc with hc | hc
      · exact ih c hc x hx
      · simp only [gateC, List.mem_cons, List.not_mem_nil, or_false] at hc
        rcases hc with rfl | rfl | rfl <;> simp only [List.mem_cons, List.not_mem_nil, or_false] at hx
        · rcases hx with rfl | rfl <;> omega
        · rcases hx with rfl | rfl <;> omega
        · rcases hx with rfl | rfl | rfl <;> omega
    · exact ih c hc x hx
theorem rightC_of {g : Gr} (hr : rightB g = true) (l : Int) : rightC g.vars (clausesAt g l g.as.length) = true := by
  obtain ⟨⟨h1, h2, h3, h4⟩, _⟩ := (right_iff g).1 hr
  have := clausesAt_length g l g.as.length
  exact rightC_iff.2 ⟨by unfold Gr.vars; omega, by unfold Gr.vars; omega, by omega, clausesAt_in hr l _ (Nat.le_refl _)⟩

/-- A literal's clause number is so just if the literal is. -/
theorem soX_lit (m : List Bool) {l : Int} (h0 : 0 ≤ l) : soX m (litC l) = bitB m l ∧ soX m (-litC l) = !bitB m l := by
  unfold soX bitB litC
  by_cases h : l % 2 = 1
  · rw [if_pos h, decide_eq_true h, if_neg (by omega), if_pos (by omega), if_pos (by omega), show (-(-(l / 2 + 1)) - 1).toNat = (l / 2).toNat from by omega]
    cases m[(l / 2).toNat]?.getD false <;> exact ⟨rfl, rfl⟩
  · rw [if_neg h, decide_eq_false h, if_pos (by omega), if_neg (by omega), if_pos (by omega), show (l / 2 + 1 - 1).toNat = (l / 2).toNat from by omega, show (-(-(l / 2 + 1)) - 1).toNat = (l / 2).toNat from by omega]
    cases m[(l / 2).toNat]?.getD false <;> exact ⟨rfl, rfl⟩

/-- A variable's clause number. -/
theorem soX_var (m : List Bool) {v : Int} (h0 : 0 ≤ v) : soX m (v + 1) = (m[v.toNat]?.getD false) ∧ soX m (-(v + 1)) = !(m[v.toNat]?.getD false) := by
  unfold soX
  rw [if_pos (by omega), if_neg (by omega), if_pos (by omega), show (v + 1 - 1).toNat = v.toNat from by omega, show (-(-(v + 1)) - 1).toNat = v.toNat from by omega]
  exact ⟨rfl, rfl⟩

/-- A gate's clauses are so just if its variable is what its literals are. -/
theorem gateC_so (m : List Bool) {n : Int} {k : Nat} {p : Pr} (hn : 0 ≤ n) (h1 : 0 ≤ p.1) (h2 : 0 ≤ p.2) :
    (gateC n k p).any (fun l => !l.any (soX m)) = ((m[(n + 1 + k).toNat]?.getD false) != (bitB m p.1 && bitB m p.2)) := by
  obtain ⟨a1, a2⟩ := soX_var m (v := n + 1 + k) (by omega)
  obtain ⟨b1, b2⟩ := soX_lit m h1
  obtain ⟨c1, c2⟩ := soX_lit m h2
  simp only [gateC, List.any_cons, List.any_nil, a1, a2, b1, b2, c1, c2, Bool.or_false]
  cases m[(n + 1 + k).toNat]?.getD false <;> cases bitB m p.1 <;> cases bitB m p.2 <;> rfl

theorem bitB_of_litV {g : Gr} {xs : List Bool} {l : Int} : bitB (valsFrom (false :: xs) g.as) l = litV g xs l := rfl

/-- What variables are makes all clauses so. -/
theorem clausesAt_so {g : Gr} {xs : List Bool} (hr : rightB g = true) (hn : (xs.length : Int) = g.n) (l : Int) : ∀ k, k ≤ g.as.length → (clausesAt g l k).any (fun c => !c.any (soX (allG g xs))) = false
  | 0, _ => by
    have e : allG g xs = valsFrom (false :: xs) g.as := by rw [allG_is hr hn]; unfold valsAt; rw [List.take_length]
    obtain ⟨t, ht⟩ := valsFrom_pre g.as (false :: xs)
    rw [e, ht]
    have := (soX_var ((false :: xs) ++ t) (v := 0) (by omega)).2
    simp only [clausesAt, List.any_cons, List.any_nil, Bool.or_false]
    rw [show (-1 : Int) = -(0 + 1) from rfl, this]
    rfl
  | k + 1, hk => by
    have ih := clausesAt_so hr hn l k (by omega)
    have e : allG g xs = valsFrom (false :: xs) g.as := by rw [allG_is hr hn]; unfold valsAt; rw [List.take_length]
    obtain ⟨⟨h1, h2, h3, h4⟩, hall, _⟩ := (right_iff g).1 hr
    have hp := List.getElem?_eq_getElem (by omega : k < g.as.length)
    obtain ⟨m1, m2, m3⟩ := (of_decide_eq_true (hall k _ hp) : 2 ≤ (g.as[k]).2 ∧ (g.as[k]).2 / 2 < (g.as[k]).1 / 2 ∧ (g.as[k]).1 / 2 < g.n + 1 + k)
    rw [clausesAt, hp]
    simp only
    split
    · rw [List.any_append, ih, Bool.false_or, gateC_so _ h1 (by omega) (by omega), e, bitB_of_litV, bitB_of_litV, ← litV_gate hr hn hp]
      unfold litV bitB
      have e1 : 2 * (g.n + 1 + (k : Int)) / 2 = g.n + 1 + k := by omega
      have e2 : ¬ (2 * (g.n + 1 + (k : Int)) % 2 = 1) := by omega
      rw [e1, decide_eq_false e2]
      simp
    · exact ih
theorem soC_model {g : Gr} {xs : List Bool} (hr : rightB g = true) (hn : (xs.length : Int) = g.n) (l : Int) : soC g.vars (clausesAt g l g.as.length) (allG g xs) = true := by
  unfold soC
  rw [rightC_of hr l, clausesAt_so hr hn l _ (Nat.le_refl _)]
  have : ((allG g xs).length : Int) = g.vars := by
    rw [allG_is hr hn, valsAt_length (Nat.le_refl _)]
    unfold Gr.vars
    omega
  rw [decide_eq_true this]
  rfl

/-- Clauses that begin with such a number, of three. -/
def begins (k : Int) (c : List Int) : Bool := decide (c.length = 3) && (c[0]?.getD 0 == k)

/-- A clause of three is a gate's, all of whose clauses are there. -/
theorem clausesAt_three {g : Gr} {l : Int} {c : List Int} (h3 : c.length = 3) : ∀ k, k ≤ g.as.length → c ∈ clausesAt g l k → ∃ j p, j < k ∧ g.as[j]? = some p ∧ c[0]? = some (g.n + 1 + j + 1) ∧ ∀ d ∈ gateC g.n j p, d ∈ clausesAt g l k
  | 0, _, hc => by
    simp only [clausesAt, List.mem_cons, List.not_mem_nil, or_false] at hc
    subst hc
    cases h3
  | k + 1, hk, hc => by
    obtain ⟨p, hp⟩ : ∃ p, g.as[k]? = some p := ⟨_, List.getElem?_eq_getElem (by omega)⟩
    rw [clausesAt, hp] at hc ⊢
    simp only at hc ⊢
    split at hc
    · rename_i hm
      rw [if_pos hm]
      rcases List.mem_append.1 hc with hc | hc
      · obtain ⟨j, q, a1, a2, a3, a4⟩ := clausesAt_three h3 k (by omega) hc
        exact ⟨j, q, by omega, a2, a3, fun d hd => List.mem_append_left _ (a4 d hd)⟩
      · refine ⟨k, p, by omega, hp, ?_, fun d hd => List.mem_append_right _ hd⟩
        simp only [gateC, List.mem_cons, List.not_mem_nil, or_false] at hc
        rcases hc with rfl | rfl | rfl
        · cases h3
        · cases h3
        · rfl
    · rename_i hm
      rw [if_neg hm]
      obtain ⟨j, q, a1, a2, a3, a4⟩ := clausesAt_three h3 k (by omega) hc
      exact ⟨j, q, by omega, a2, a3, a4⟩

theorem bitB_set {v : List Bool} {k : Nat} {b : Bool} {l : Int} (h0 : 0 ≤ l) (h : l / 2 < (k : Int)) : bitB (v.set k b) l = bitB v l := by
  unfold bitB
  rw [List.getElem?_set_ne (by omega)]

theorem any_of_part {α : Type} {f : α → Bool} {xs ys : List α} (h : ∀ x ∈ xs, x ∈ ys) (hx : xs.any f = true) : ys.any f = true := by
  obtain ⟨x, h1, h2⟩ := List.any_eq_true.1 hx
  exact List.any_eq_true.2 ⟨x, h x h1, h2⟩

/-- With a gate below the literal turned not all clauses are so. -/
theorem soC_turned {g : Gr} {xs : List Bool} (hr : rightB g = true) (hn : (xs.length : Int) = g.n) (l : Int) {k : Nat} {b : Bool} (hk : (allG g xs)[k]? = some b) (h : (k = 0 ∨ (clausesAt g l g.as.length).any (begins ((k : Int) + 1)) = true)) :
    soC g.vars (clausesAt g l g.as.length) ((allG g xs).set k (!b)) = false := by
  have e : allG g xs = valsFrom (false :: xs) g.as := by rw [allG_is hr hn]; unfold valsAt; rw [List.take_length]
  have hkl : k < (allG g xs).length := (List.getElem?_eq_some_iff.1 hk).1
  have hself : ((allG g xs).set k (!b))[k]? = some (!b) := by rw [List.getElem?_set_self hkl]
  obtain ⟨⟨h1, h2, h3, h4⟩, hall, _⟩ := (right_iff g).1 hr
  have hbad : (clausesAt g l g.as.length).any (fun c => !c.any (soX ((allG g xs).set k (!b)))) = true := by
    rcases h with rfl | h
    · have hb : b = false := by
        rw [e] at hk
        obtain ⟨t, ht⟩ := valsFrom_pre g.as (false :: xs)
        rw [ht] at hk
        simpa using hk.symm
      subst hb
      refine any_of_part (xs := [[-1]]) (fun c hc => ?_) ?_
      · simp only [List.mem_cons, List.not_mem_nil, or_false] at hc
        subst hc
        have : ∀ n, [-1] ∈ clausesAt g l n := by
          intro n
          induction n with
          | zero => simp [clausesAt]
          | succ n ih =>
            rw [clausesAt]
            split
            · split
              · exact List.mem_append_left _ ih
              · exact ih
            · exact ih
        exact this _
      · have := (soX_var ((allG g xs).set 0 (!false)) (v := 0) (by omega)).2
        simp only [List.any_cons, List.any_nil, Bool.or_false]
        rw [show (-1 : Int) = -(0 + 1) from rfl, this, show (0 : Int).toNat = 0 from rfl, hself]
        rfl
    · obtain ⟨c, hc, hb⟩ := List.any_eq_true.1 h
      unfold begins at hb
      rw [Bool.and_eq_true, decide_eq_true_eq, beq_iff_eq] at hb
      obtain ⟨j, p, hj, hp, hc0, hsub⟩ := clausesAt_three hb.1 _ (Nat.le_refl _) hc
      rw [hc0, Option.getD_some] at hb
      have hkj : (k : Int) = g.n + 1 + j := by omega
      obtain ⟨m1, m2, m3⟩ := (of_decide_eq_true (hall j _ hp) : 2 ≤ p.2 ∧ p.2 / 2 < p.1 / 2 ∧ p.1 / 2 < g.n + 1 + j)
      refine any_of_part hsub ?_
      rw [gateC_so _ h1 (by omega) (by omega), ← hkj, Int.toNat_natCast, hself, bitB_set (by omega) (by omega), bitB_set (by omega) (by omega), e, bitB_of_litV, bitB_of_litV, ← litV_gate hr hn hp, ← hkj]
      have : litV g xs (2 * (k : Int)) = b := by
        unfold litV bitB
        have e1 : (2 * (k : Int) / 2).toNat = k := by omega
        have e2 : ¬ (2 * (k : Int) % 2 = 1) := by omega
        rw [e1, decide_eq_false e2, ← e, hk]
        simp
      rw [this]
      cases b <;> rfl
  unfold soC
  rw [hbad]
  simp
theorem clausesAt_small (g : Gr) (l : Int) : ∀ k, ∀ c ∈ clausesAt g l k, c.length ≤ 3
  | 0 => fun c hc => by
    simp [clausesAt] at hc
    subst hc
    simp
  | k + 1 => fun c hc => by
    rw [clausesAt] at hc
    split at hc
    · split at hc
      · rcases List.mem_append.1 hc with h | h
        · exact clausesAt_small g l k c h
        · simp only [gateC, List.mem_cons, List.not_mem_nil, or_false] at h
          rcases h with rfl | rfl | rfl <;> simp
      · exact clausesAt_small g l k c hc
    · exact clausesAt_small g l k c hc
theorem cnfG_small (g : Gr) (l : Int) : ∀ c ∈ (cnfG g l).2.1, c.length ≤ 3 := by
  unfold cnfG
  split
  · exact clausesAt_small g l _
  · intro c hc
    cases hc
theorem cnfG_len (g : Gr) (l : Int) : (cnfG g l).2.1.length ≤ 1 + 3 * g.as.length := by
  unfold cnfG
  split
  · exact clausesAt_length g l _
  · simp
theorem cnfG_vars (g : Gr) (l : Int) (h : 0 ≤ g.n) : 0 ≤ (cnfG g l).1 ∧ (cnfG g l).1 ≤ g.n + 1 + g.as.length := by
  unfold cnfG
  split
  · simp only [Gr.vars]
    omega
  · simp only
    omega
end Go.Proofs.Ytbkmgblijncjhaa

set_option linter.unusedVariables false
set_option linter.unusedSimpArgs false
namespace Go.Proofs.Ytbkmgblijncjhaa

/-- A literal, turned where the other number is odd. -/
def turnP (x l : Int) : Int := if l % 2 = 1 then flip x else x
def litI (is : List Int) (l : Int) : Int := turnP (is[(l / 2).toNat]?.getD 0) l

/-- A copy behind so many gates: the graph, the literals, the error. -/
def copyAt (to fr : Gr) (l : Int) (by_ : List Int) : Nat → Gr × List Int × Int
  | 0 => (to, 0 :: by_, 0)
  | k + 1 =>
    let s := copyAt to fr l by_ k
    match fr.as[k]? with
    | none => s
    | some p =>
      if s.2.2 = 0 then
        if (belowG fr l)[(fr.n + 1 + k).toNat]?.getD false then
          let r := andG s.1 (litI s.2.1 p.1) (litI s.2.1 p.2)
          if r.2.2 = 0 then (r.1, s.2.1 ++ [r.2.1], 0) else (noG, [], r.2.2)
        else (s.1, s.2.1 ++ [0], 0)
      else s

def copyOk (to fr : Gr) (l : Int) (by_ : List Int) : Bool := rightB to && (rightB fr && (litB fr l && (decide ((by_.length : Int) = fr.n) && by_.all (litB to))))
def copyG (to fr : Gr) (l : Int) (by_ : List Int) : Gr × Int × Int :=
  if copyOk to fr l by_ then
    let s := copyAt to fr l by_ fr.as.length
    if s.2.2 = 0 then (s.1, litI s.2.1 l, 0) else (noG, 0, s.2.2)
  else (noG, 0, 1)

/-- Inputs themselves, but for one. -/
def fixBy (n : Nat) (input : Int) (v : Bool) : List Int := (List.range n).map fun (i : Nat) => if (i : Int) + 1 = input then (if v then 1 else 0) else 2 * ((i : Int) + 1)
def fixG (g : Gr) (l input : Int) (v : Bool) : Gr × Int × Int :=
  if input < 1 ∨ g.n < input ∨ 2000 < g.n then (noG, 0, 1) else copyG g g l (fixBy g.n.toNat input v)

/-- The inputs below a literal, of so many. -/
def suppAt (g : Gr) (l : Int) : Nat → List Int
  | 0 => []
  | k + 1 => if (belowG g l)[k + 1]?.getD false then suppAt g l k ++ [(k : Int) + 1] else suppAt g l k
def suppG (g : Gr) (l : Int) : List Int := if rightB g && litB g l then suppAt g l g.n.toNat else []

/-! ### Copies -/
theorem turnP_zero (x : Int) {l : Int} (h : l % 2 = 0) : turnP x l = x := by unfold turnP; rw [if_neg (by omega)]
theorem turnP_lit {g : Gr} {x : Int} (l : Int) (h : litB g x = true) : litB g (turnP x l) = true := by
  unfold turnP
  split
  · exact flip_lit h
  · exact h
theorem turnP_litV {g : Gr} {xs : List Bool} {x l : Int} (h : 0 ≤ x) : litV g xs (turnP x l) = (litV g xs x != decide (l % 2 = 1)) := by
  unfold turnP
  split
  · rename_i e
    rw [litV_flip h, decide_eq_true e]
    simp
  · rename_i e
    rw [decide_eq_false e]
    simp

/-- Copies that are right so far. -/
structure CInv (to fr : Gr) (k : Nat) (s : Gr × List Int × Int) : Prop where
  right : rightB s.1 = true
  ext : Ext to s.1
  len : s.2.1.length = fr.n.toNat + 1 + k
  lit : ∀ x ∈ s.2.1, litB s.1 x = true
  more : s.1.as.length ≤ to.as.length + k

theorem copyOk_iff {to fr : Gr} {l : Int} {by_ : List Int} : copyOk to fr l by_ = true ↔ rightB to = true ∧ rightB fr = true ∧ litB fr l = true ∧ (by_.length : Int) = fr.n ∧ ∀ x ∈ by_, litB to x = true := by
  unfold copyOk
  simp only [Bool.and_eq_true, decide_eq_true_eq, List.all_eq_true]

theorem zero_lit {g : Gr} (h : rightB g = true) : litB g 0 = true := by
  have := right_vars h
  exact lit_of h (by omega) (by omega)

theorem litI_lit {g : Gr} {is : List Int} {l : Int} (hr : rightB g = true) (h : ∀ x ∈ is, litB g x = true) : litB g (litI is l) = true := by
  unfold litI
  refine turnP_lit l ?_
  cases e : is[(l / 2).toNat]? with
  | none => exact zero_lit hr
  | some x => exact h x (List.mem_of_getElem? e)

theorem copyAt_inv {to fr : Gr} {l : Int} {by_ : List Int} (h : copyOk to fr l by_ = true) : ∀ k, k ≤ fr.as.length → (copyAt to fr l by_ k).2.2 = 0 → CInv to fr k (copyAt to fr l by_ k)
  | 0, _, _ => by
    obtain ⟨h1, h2, h3, h4, h5⟩ := copyOk_iff.1 h
    refine ⟨h1, Ext.refl _, ?_, ?_, Nat.le_refl _⟩
    · simp only [copyAt, List.length_cons]
      omega
    · intro x hx
      rcases List.mem_cons.1 hx with rfl | hx
      · exact zero_lit h1
      · exact h5 x hx
  | k + 1, hk, he => by
    have hp := List.getElem?_eq_getElem (by omega : k < fr.as.length)
    rw [copyAt, hp] at he ⊢
    simp only at he ⊢
    by_cases e0 : (copyAt to fr l by_ k).2.2 = 0
    · have ih := copyAt_inv h k (by omega) e0
      rw [if_pos e0] at he ⊢
      split at he
      · rename_i hm
        rw [if_pos hm]
        split at he
        · rename_i e1
          rw [if_pos e1]
          have hg := andG_grows e1
          obtain ⟨qs, q1, q2⟩ := hg.more
          refine ⟨hg.right, ih.ext.trans hg.ext, ?_, ?_, ?_⟩
          · simp only [List.length_append, List.length_singleton, ih.len]
            omega
          · intro x hx
            rcases List.mem_append.1 hx with hx | hx
            · exact hg.ext.lit (ih.lit x hx)
            · simp only [List.mem_cons, List.not_mem_nil, or_false] at hx
              subst hx
              exact hg.lit
          · simp only [q1, List.length_append]
            have := ih.more
            omega
        · rename_i e1
          exact absurd he e1
      · rename_i hm
        rw [if_neg hm]
        refine ⟨ih.right, ih.ext, ?_, ?_, ?_⟩
        · simp only [List.length_append, List.length_singleton, ih.len]
          omega
        · intro x hx
          rcases List.mem_append.1 hx with hx | hx
          · exact ih.lit x hx
          · simp only [List.mem_cons, List.not_mem_nil, or_false] at hx
            subst hx
            exact zero_lit ih.right
        · have := ih.more
          simp only
          omega
    · rw [if_neg e0] at he
      exact absurd he e0

/-- There is room for a copy. -/
theorem copyAt_room {to fr : Gr} {l : Int} {by_ : List Int} (h : copyOk to fr l by_ = true) (hv : to.vars + fr.as.length ≤ 2000) : ∀ k, k ≤ fr.as.length → (copyAt to fr l by_ k).2.2 = 0
  | 0, _ => rfl
  | k + 1, hk => by
    have hp := List.getElem?_eq_getElem (by omega : k < fr.as.length)
    have e0 := copyAt_room h hv k (by omega)
    have ih := copyAt_inv h k (by omega) e0
    rw [copyAt, hp]
    simp only
    rw [if_pos e0]
    split
    · have e1 : (andG (copyAt to fr l by_ k).1 (litI (copyAt to fr l by_ k).2.1 (fr.as[k]).1) (litI (copyAt to fr l by_ k).2.1 (fr.as[k]).2)).2.2 = 0 := by
        refine andG_ok_of ih.right (litI_lit ih.right ih.lit) (litI_lit ih.right ih.lit) ?_
        have h1 := ih.more
        have h2 := ih.ext.1
        unfold Gr.vars at hv ⊢
        omega
      rw [if_pos e1]
    · rfl

/-! ### What stands below, as a relation -/
/-- Variable u stands under variable v, or is it. -/
inductive Und (g : Gr) : Int → Int → Prop
  | self (v : Int) : Und g v v
  | left {j : Nat} {p : Pr} {u : Int} : g.as[j]? = some p → Und g (p.1 / 2) u → Und g (g.n + 1 + j) u
  | right {j : Nat} {p : Pr} {u : Int} : g.as[j]? = some p → Und g (p.2 / 2) u → Und g (g.n + 1 + j) u

theorem Und.trans {g : Gr} {a b c : Int} (h : Und g a b) (h' : Und g b c) : Und g a c := by
  induction h with
  | self v => exact h'
  | left hp _ ih => exact .left hp (ih h')
  | right hp _ ih => exact .right hp (ih h')

theorem gate_less {g : Gr} (hr : rightB g = true) {j : Nat} {p : Pr} (h : g.as[j]? = some p) : 2 ≤ p.2 ∧ p.2 / 2 < p.1 / 2 ∧ p.1 / 2 < g.n + 1 + j := by
  obtain ⟨_, hall, _⟩ := (right_iff g).1 hr
  exact (of_decide_eq_true (hall j p h) : 2 ≤ p.2 ∧ p.2 / 2 < p.1 / 2 ∧ p.1 / 2 < g.n + 1 + j)

theorem mark_mono {n : Int} {m : List Bool} {i : Nat} {p : Pr} {u : Nat} (h : m[u]? = some true) : (mark n m i p)[u]? = some true := by
  have hu := (List.getElem?_eq_some_iff.1 h).1
  have hset : ∀ (m : List Bool) (a : Nat), m[u]? = some true → (m.set a true)[u]? = some true := fun m a h => by
    have hu := (List.getElem?_eq_some_iff.1 h).1
    by_cases e : a = u
    · subst e
      rw [List.getElem?_set_self hu]
    · rw [List.getElem?_set_ne e, h]
  unfold mark
  split
  · exact hset _ _ (hset _ _ h)
  · exact h

theorem marksAt_mono {g : Gr} {m0 : List Bool} {k u : Nat} (h : (marksAt g m0 k)[u]? = some true) : ∀ j, (marksAt g m0 (k + j))[u]? = some true
  | 0 => h
  | j + 1 => by
    have ih := marksAt_mono h j
    show (marksAt g m0 (k + j + 1))[u]? = _
    rw [marksAt]
    split
    · exact mark_mono ih
    · exact ih

/-- What is marked stands below. -/
theorem marksAt_und {g : Gr} (hr : rightB g = true) {l : Int} (hl : litB g l = true) : ∀ k, k ≤ g.as.length → ∀ u : Nat, (marksAt g (mark0 g l) k)[u]? = some true → Und g (l / 2) u
  | 0, _, u, h => by
    have l0 := litB_ge hl
    unfold marksAt mark0 at h
    by_cases e : (l / 2).toNat = u
    · have e' : l / 2 = (u : Int) := by omega
      rw [e']
      exact .self _
    · rw [List.getElem?_set_ne e, List.getElem?_replicate] at h
      split at h <;> cases h
  | k + 1, hk, u, h => by
    have ih := marksAt_und hr hl k (by omega)
    have hp := List.getElem?_eq_getElem (by omega : g.as.length - 1 - k < g.as.length)
    obtain ⟨n0, _, _, _⟩ := (size_iff g).1 (right_size hr)
    obtain ⟨m1, m2, m3⟩ := gate_less hr hp
    rw [marksAt_succ rfl hp] at h
    unfold mark at h
    split at h
    · rename_i hm
      have hm' : (marksAt g (mark0 g l) k)[(g.n + 1 + (g.as.length - 1 - k : Nat)).toNat]? = some true := by
        cases e : (marksAt g (mark0 g l) k)[(g.n + 1 + (g.as.length - 1 - k : Nat)).toNat]? with
        | none => rw [e] at hm; cases hm
        | some b => rw [e] at hm; cases b <;> simp_all
      have h0 := ih _ hm'
      rw [show (((g.n + 1 + (g.as.length - 1 - k : Nat)).toNat : Nat) : Int) = g.n + 1 + (g.as.length - 1 - k : Nat) from by omega] at h0
      by_cases e2 : ((g.as[g.as.length - 1 - k]).2 / 2).toNat = u
      · have e' : (g.as[g.as.length - 1 - k]).2 / 2 = (u : Int) := by omega
        exact h0.trans (.right hp (by rw [e']; exact .self _))
      · rw [List.getElem?_set_ne e2] at h
        by_cases e1 : ((g.as[g.as.length - 1 - k]).1 / 2).toNat = u
        · have e' : (g.as[g.as.length - 1 - k]).1 / 2 = (u : Int) := by omega
          exact h0.trans (.left hp (by rw [e']; exact .self _))
        · rw [List.getElem?_set_ne e1] at h
          exact ih u h
    · exact ih u h

/-- A variable that no gate to come marks stays as it is. -/
theorem marksAt_keep {g : Gr} (hr : rightB g = true) {m0 : List Bool} {v : Nat} : ∀ k d, k + d ≤ g.as.length → g.n + 1 + ((g.as.length - k : Nat) : Int) ≤ v + 1 → (marksAt g m0 (k + d))[v]? = (marksAt g m0 k)[v]?
  | k, 0, _, _ => rfl
  | k, d + 1, hk, hv => by
    have ih := marksAt_keep hr (m0 := m0) (v := v) k d (by omega) hv
    have hp := List.getElem?_eq_getElem (by omega : g.as.length - 1 - (k + d) < g.as.length)
    obtain ⟨m1, m2, m3⟩ := gate_less hr hp
    show (marksAt g m0 (k + d + 1))[v]? = _
    rw [marksAt_succ rfl hp, ← ih]
    unfold mark
    split
    · rw [List.getElem?_set_ne (by omega), List.getElem?_set_ne (by omega)]
    · rfl

/-- A gate that is marked has both its parts marked. -/
theorem below_gate {g : Gr} (hr : rightB g = true) (l : Int) {j : Nat} {p : Pr} (h : g.as[j]? = some p) (hm : (belowG g l)[(g.n + 1 + j).toNat]? = some true) : (belowG g l)[(p.1 / 2).toNat]? = some true ∧ (belowG g l)[(p.2 / 2).toNat]? = some true := by
  have hj := (List.getElem?_eq_some_iff.1 h).1
  obtain ⟨n0, _, _, _⟩ := (size_iff g).1 (right_size hr)
  obtain ⟨m1, m2, m3⟩ := gate_less hr h
  have e : (g.as.length - 1 - j) + (j + 1) = g.as.length := by omega
  have hk := marksAt_keep hr (m0 := mark0 g l) (v := (g.n + 1 + j).toNat) (g.as.length - 1 - j) (j + 1) (by omega) (by omega)
  rw [e] at hk
  have hm' : (marksAt g (mark0 g l) (g.as.length - 1 - j))[(g.n + 1 + j).toNat]? = some true := by rw [← hk]; exact hm
  have hs := marksAt_succ (m0 := mark0 g l) (k := g.as.length - 1 - j) (j := j) (by omega) h
  rw [mark_yes hm'] at hs
  have hlen : (marksAt g (mark0 g l) (g.as.length - 1 - j)).length = g.vars.toNat := by rw [marksAt_length, mark0_length]
  have e2 : (g.as.length - 1 - j + 1) + j = g.as.length := by omega
  have hvv : g.vars.toNat = (g.n + 1 + (g.as.length : Int)).toNat := rfl
  have h1 : (marksAt g (mark0 g l) (g.as.length - 1 - j + 1))[(p.1 / 2).toNat]? = some true := by
    rw [hs, List.getElem?_set_ne (by omega), List.getElem?_set_self (by rw [hlen]; omega)]
  have h2 : (marksAt g (mark0 g l) (g.as.length - 1 - j + 1))[(p.2 / 2).toNat]? = some true := by
    rw [hs, List.getElem?_set_self (by rw [List.length_set, hlen]; omega)]
  have a1 := marksAt_mono h1 j
  have a2 := marksAt_mono h2 j
  rw [e2] at a1 a2
  exact ⟨a1, a2⟩

theorem below_self {g : Gr} {l : Int} (hl : litB g l = true) : (belowG g l)[(l / 2).toNat]? = some true := by
  obtain ⟨n0, _, l0, l1⟩ := (litB_iff g l).1 hl
  have h0 : (marksAt g (mark0 g l) 0)[(l / 2).toNat]? = some true := by
    unfold marksAt mark0
    rw [List.getElem?_set_self (by rw [List.length_replicate]; unfold Gr.vars; omega)]
  have := marksAt_mono h0 g.as.length
  rw [Nat.zero_add] at this
  exact this

theorem und_closed {g : Gr} (hr : rightB g = true) (l : Int) {v u : Int} (h : Und g v u) (hm : (belowG g l)[v.toNat]? = some true) : (belowG g l)[u.toNat]? = some true := by
  induction h with
  | self v => exact hm
  | left hp _ ih => exact ih (below_gate hr l hp hm).1
  | right hp _ ih => exact ih (below_gate hr l hp hm).2

/-- Marked is what stands below. -/
theorem below_iff {g : Gr} (hr : rightB g = true) {l : Int} (hl : litB g l = true) (u : Nat) : (belowG g l)[u]? = some true ↔ Und g (l / 2) u := by
  constructor
  · exact marksAt_und hr hl _ (Nat.le_refl _) u
  · intro h
    have := und_closed hr l h (below_self hl)
    rwa [Int.toNat_natCast] at this

theorem und_low {g : Gr} (hr : rightB g = true) {v u : Int} (h : Und g v u) : u ≤ v := by
  induction h with
  | self v => exact Int.le_refl _
  | left hp _ ih => have := gate_less hr hp; omega
  | right hp _ ih => have := gate_less hr hp; omega

theorem und_input {g : Gr} (hr : rightB g = true) {v u : Int} (h : Und g v u) (hv : v ≤ g.n) : u = v := by
  cases h with
  | self v => rfl
  | left hp _ => omega
  | right hp _ => omega

/-- Under an old variable of a graph that goes on stands what stood there. -/
theorem und_ext {g h : Gr} (hx : Ext g h) (hr : rightB g = true) {v u : Int} (hu : Und h v u) : v < g.vars → Und g v u := by
  obtain ⟨hn, qs, hq⟩ := hx
  induction hu with
  | self v => exact fun _ => .self _
  | @left j p u hp _ ih =>
    intro hv
    have hj : j < g.as.length := by unfold Gr.vars at hv; omega
    rw [hq, List.getElem?_append_left hj] at hp
    have := gate_less hr hp
    have hh := ih (by unfold Gr.vars at hv ⊢; omega)
    rw [hn]
    exact .left hp hh
  | @right j p u hp _ ih =>
    intro hv
    have hj : j < g.as.length := by unfold Gr.vars at hv; omega
    rw [hq, List.getElem?_append_left hj] at hp
    have := gate_less hr hp
    have hh := ih (by unfold Gr.vars at hv ⊢; omega)
    rw [hn]
    exact .right hp hh

/-- What stands under what And makes: itself, or something under what it is made of. -/
theorem andHi_und {g : Gr} {a b : Int} (hr : rightB g = true) (ha : litB g a = true) (hb : litB g b = true) (hab : b ≤ a) (he : (andHi g a b).2.2 = 0) {u : Int} (hu : Und (andHi g a b).1 ((andHi g a b).2.1 / 2) u) (h1 : 1 ≤ u) (h2 : u ≤ g.n) : Und g (a / 2) u ∨ Und g (b / 2) u := by
  have ha' := lit_lt ha
  have hb' := lit_lt hb
  have hin : ∀ {h : Gr} {j : Nat} {p : Pr}, Ext g h → rightB h = true → h.as[j]? = some p → p = (a, b) → Und h (h.n + 1 + j) u → Und g (a / 2) u ∨ Und g (b / 2) u := by
    intro h j p hx hrh hp hpe hu
    have hn := hx.1
    generalize e : h.n + 1 + (j : Int) = v at hu
    cases hu with
    | self v => omega
    | @left j' p' u hp' hu' =>
      obtain rfl : j' = j := by omega
      rw [hp] at hp'
      cases hp'
      rw [hpe] at hu'
      exact .inl (und_ext hx hr hu' (by omega))
    | @right j' p' u hp' hu' =>
      obtain rfl : j' = j := by omega
      rw [hp] at hp'
      cases hp'
      rw [hpe] at hu'
      exact .inr (und_ext hx hr hu' (by omega))
  rcases andHi_cases g a b with ⟨ht, h⟩ | ⟨ht, h⟩ | ⟨ht, i, hp, h⟩ | ⟨ht, hp, hv, h⟩ | ⟨ht, hp, hv, h⟩
  · rw [h] at hu
    have := und_low hr hu
    simp only at this
    omega
  · rw [h] at hu
    exact .inl hu
  · rw [h] at hu
    simp only at hu
    rw [show 2 * (g.n + 1 + (i : Int)) / 2 = g.n + 1 + i from by omega] at hu
    exact hin (Ext.refl g) hr (placeOf_some hp) rfl hu
  · rw [h] at he
    cases he
  · rw [h] at hu
    simp only at hu
    rw [show 2 * g.vars / 2 = g.n + 1 + (g.as.length : Int) from by unfold Gr.vars; omega] at hu
    have hg := andHi_grows hr ha hb hab he
    rw [h] at hg
    exact hin (h := ⟨g.n, g.as ++ [(a, b)]⟩) (j := g.as.length) (p := (a, b)) ⟨rfl, [(a, b)], rfl⟩ hg.right (by simp) rfl hu

theorem andG_und {g : Gr} {a b : Int} (he : (andG g a b).2.2 = 0) {u : Int} (hu : Und (andG g a b).1 ((andG g a b).2.1 / 2) u) (h1 : 1 ≤ u) (h2 : u ≤ g.n) : Und g (a / 2) u ∨ Und g (b / 2) u := by
  obtain ⟨hr, ha, hb, h⟩ := andG_zero he
  obtain ⟨k1, k2, k3⟩ := max_min ha hb
  rw [h] at he hu
  have := andHi_und hr k1 k2 k3 he hu h1 h2
  rcases Int.le_total a b with hab | hab
  · rw [Int.max_eq_right hab, Int.min_eq_left hab] at this
    exact this.symm
  · rw [Int.max_eq_left hab, Int.min_eq_right hab] at this
    exact this

theorem turnP_half {x l : Int} : turnP x l / 2 = x / 2 := by
  unfold turnP
  split
  · exact flip_half
  · rfl

/-- An input that stands below a copy stands below what an input below the literal is copied to. -/
theorem copyAt_und {to fr : Gr} {l : Int} {by_ : List Int} (h : copyOk to fr l by_ = true) {u : Int} (h1 : 1 ≤ u) (h2 : u ≤ to.n) : ∀ k, k ≤ fr.as.length → (copyAt to fr l by_ k).2.2 = 0 →
    ∀ (v : Nat) x, (copyAt to fr l by_ k).2.1[v]? = some x → Und (copyAt to fr l by_ k).1 (x / 2) u → ∃ (i : Nat) (y : Int), by_[i]? = some y ∧ Und fr v ((i : Int) + 1) ∧ Und to (y / 2) u
  | 0, _, _, v, x, hv, hu => by
    obtain ⟨r1, r2, r3, r4, r5⟩ := copyOk_iff.1 h
    match v, hv with
    | 0, hv =>
      simp only [copyAt, List.getElem?_cons_zero, Option.some.injEq] at hv
      subst hv
      have := und_low r1 hu
      omega
    | v + 1, hv =>
      simp only [copyAt, List.getElem?_cons_succ] at hv
      exact ⟨v, x, hv, by rw [Int.natCast_succ]; exact .self _, hu⟩
  | k + 1, hk, he, v, x, hv, hu => by
    obtain ⟨r1, r2, r3, r4, r5⟩ := copyOk_iff.1 h
    have hp := List.getElem?_eq_getElem (by omega : k < fr.as.length)
    obtain ⟨m1, m2, m3⟩ := gate_less r2 hp
    have n0 := (right_vars r2).1
    rw [copyAt, hp] at he hv hu
    simp only at he hv hu
    by_cases e0 : (copyAt to fr l by_ k).2.2 = 0
    · have ih := copyAt_und h h1 h2 k (by omega) e0
      have inv := copyAt_inv h k (by omega) e0
      have hlen := inv.len
      have hget : ∀ (q : Int), 0 ≤ q → q / 2 < fr.n + 1 + k → ∃ y, (copyAt to fr l by_ k).2.1[(q / 2).toNat]? = some y ∧ litI (copyAt to fr l by_ k).2.1 q / 2 = y / 2 := fun q q0 q1 => by
        have hq : (q / 2).toNat < (copyAt to fr l by_ k).2.1.length := by omega
        refine ⟨_, List.getElem?_eq_getElem hq, ?_⟩
        unfold litI
        rw [List.getElem?_eq_getElem hq, Option.getD_some, turnP_half]
      rw [if_pos e0] at he hv hu
      split at he
      · rename_i hm
        rw [if_pos hm] at hv hu
        split at he
        · rename_i e1
          rw [if_pos e1] at hv hu
          have hg := andG_grows e1
          simp only at hv hu
          by_cases hvl : v < (copyAt to fr l by_ k).2.1.length
          · rw [List.getElem?_append_left hvl] at hv
            have hx := lit_lt (inv.lit x (List.mem_of_getElem? hv))
            have hx0 := litB_ge (inv.lit x (List.mem_of_getElem? hv))
            exact ih v x hv (und_ext hg.ext inv.right hu (by omega))
          · have hve : v = (copyAt to fr l by_ k).2.1.length := by
              have := (List.getElem?_eq_some_iff.1 hv).1
              rw [List.length_append, List.length_singleton] at this
              omega
            subst hve
            rw [List.getElem?_concat_length, Option.some.injEq] at hv
            subst hv
            rcases andG_und e1 hu h1 (by rw [inv.ext.1]; exact h2) with hu | hu
            · obtain ⟨y, hy1, hy2⟩ := hget (fr.as[k]).1 (by omega) (by omega)
              rw [hy2] at hu
              obtain ⟨i, z, z1, z2, z3⟩ := ih _ y hy1 hu
              refine ⟨i, z, z1, ?_, z3⟩
              rw [show (((copyAt to fr l by_ k).2.1.length : Nat) : Int) = fr.n + 1 + k from by omega]
              rw [show ((((fr.as[k]).1 / 2).toNat : Nat) : Int) = (fr.as[k]).1 / 2 from by omega] at z2
              exact .left hp z2
            · obtain ⟨y, hy1, hy2⟩ := hget (fr.as[k]).2 (by omega) (by omega)
              rw [hy2] at hu
              obtain ⟨i, z, z1, z2, z3⟩ := ih _ y hy1 hu
              refine ⟨i, z, z1, ?_, z3⟩
              rw [show (((copyAt to fr l by_ k).2.1.length : Nat) : Int) = fr.n + 1 + k from by omega]
              rw [show ((((fr.as[k]).2 / 2).toNat : Nat) : Int) = (fr.as[k]).2 / 2 from by omega] at z2
              exact .right hp z2
        · rename_i e1
          exact absurd he e1
      · rename_i hm
        rw [if_neg hm] at hv hu
        simp only at hv hu
        by_cases hvl : v < (copyAt to fr l by_ k).2.1.length
        · rw [List.getElem?_append_left hvl] at hv
          exact ih v x hv hu
        · have hve : v = (copyAt to fr l by_ k).2.1.length := by
            have := (List.getElem?_eq_some_iff.1 hv).1
            rw [List.length_append, List.length_singleton] at this
            omega
          subst hve
          rw [List.getElem?_concat_length, Option.some.injEq] at hv
          subst hv
          have := und_low inv.right hu
          omega
    · rw [if_neg e0] at he
      exact absurd he e0

/-! ### What copies are -/
/-- The values of the literals that stand for inputs. -/
def byVals (to : Gr) (xs : List Bool) (by_ : List Int) : List Bool := by_.map (litV to xs)

theorem copyAt_sem {to fr : Gr} {l : Int} {by_ : List Int} {xs : List Bool} (h : copyOk to fr l by_ = true) (hn : (xs.length : Int) = to.n) : ∀ k, k ≤ fr.as.length → (copyAt to fr l by_ k).2.2 = 0 →
    ∀ (v : Nat) x, (copyAt to fr l by_ k).2.1[v]? = some x → (fr.n < (v : Int) → (belowG fr l)[v]? = some true) → litV (copyAt to fr l by_ k).1 xs x = litV fr (byVals to xs by_) (2 * (v : Int))
  | 0, _, _, v, x, hv, hm => by
    obtain ⟨r1, r2, r3, r4, r5⟩ := copyOk_iff.1 h
    match v, hv with
    | 0, hv =>
      simp only [copyAt, List.getElem?_cons_zero, Option.some.injEq] at hv
      subst hv
      rw [litV_zero]
      exact (litV_zero _ _).symm
    | v + 1, hv =>
      simp only [copyAt, List.getElem?_cons_succ] at hv ⊢
      have : (byVals to xs by_)[v]? = some (litV to xs x) := by unfold byVals; rw [List.getElem?_map, hv]; rfl
      rw [Int.natCast_succ, litV_input this]
  | k + 1, hk, he, v, x, hv, hm => by
    obtain ⟨r1, r2, r3, r4, r5⟩ := copyOk_iff.1 h
    have hp := List.getElem?_eq_getElem (by omega : k < fr.as.length)
    obtain ⟨m1, m2, m3⟩ := gate_less r2 hp
    have n0 := (right_vars r2).1
    have hbl : ((byVals to xs by_).length : Int) = fr.n := by unfold byVals; rw [List.length_map]; exact r4
    rw [copyAt, hp] at he hv ⊢
    simp only at he hv ⊢
    by_cases e0 : (copyAt to fr l by_ k).2.2 = 0
    · have ih := copyAt_sem h hn k (by omega) e0
      have inv := copyAt_inv h k (by omega) e0
      have hlen := inv.len
      have hns : (xs.length : Int) = (copyAt to fr l by_ k).1.n := hn.trans inv.ext.1.symm
      have hget : ∀ (q : Int), 0 ≤ q → q / 2 < fr.n + 1 + k → (belowG fr l)[(q / 2).toNat]? = some true → litV (copyAt to fr l by_ k).1 xs (litI (copyAt to fr l by_ k).2.1 q) = litV fr (byVals to xs by_) q := fun q q0 q1 hqm => by
        have hq : (q / 2).toNat < (copyAt to fr l by_ k).2.1.length := by omega
        have hgq := List.getElem?_eq_getElem hq
        have hih := ih _ _ hgq (fun _ => hqm)
        unfold litI
        rw [hgq, Option.getD_some, turnP_litV (litB_ge (inv.lit _ (List.mem_of_getElem? hgq))), hih, show (2 * (((q / 2).toNat : Nat) : Int)) = 2 * (q / 2) from by omega]
        by_cases hodd : q % 2 = 1
        · have := litV_even (g := fr) (xs := byVals to xs by_) (l := 2 * (q / 2)) (by omega) (by omega)
          rw [show 2 * (q / 2) + 1 = q from by omega] at this
          rw [this, decide_eq_true hodd]
          simp
        · rw [show 2 * (q / 2) = q from by omega, decide_eq_false hodd]
          simp
      rw [if_pos e0] at he hv ⊢
      split at he
      · rename_i hmk
        rw [if_pos hmk] at hv ⊢
        have hmk' : (belowG fr l)[(fr.n + 1 + (k : Int)).toNat]? = some true := by
          cases e : (belowG fr l)[(fr.n + 1 + (k : Int)).toNat]? with
          | none => rw [e] at hmk; cases hmk
          | some b => rw [e] at hmk; cases b <;> simp_all
        obtain ⟨b1, b2⟩ := below_gate r2 l hp hmk'
        split at he
        · rename_i e1
          rw [if_pos e1] at hv ⊢
          have hg := andG_grows e1
          simp only at hv ⊢
          by_cases hvl : v < (copyAt to fr l by_ k).2.1.length
          · rw [List.getElem?_append_left hvl] at hv
            rw [litV_ext hg.ext hns (inv.lit x (List.mem_of_getElem? hv))]
            exact ih v x hv hm
          · have hve : v = (copyAt to fr l by_ k).2.1.length := by
              have := (List.getElem?_eq_some_iff.1 hv).1
              rw [List.length_append, List.length_singleton] at this
              omega
            subst hve
            rw [List.getElem?_concat_length, Option.some.injEq] at hv
            subst hv
            rw [andG_sem hns e1, hget _ (by omega) (by omega) b1, hget _ (by omega) (by omega) b2, show (((copyAt to fr l by_ k).2.1.length : Nat) : Int) = fr.n + 1 + k from by omega, litV_gate r2 hbl hp]
        · rename_i e1
          exact absurd he e1
      · rename_i hmk
        rw [if_neg hmk] at hv ⊢
        simp only at hv ⊢
        by_cases hvl : v < (copyAt to fr l by_ k).2.1.length
        · rw [List.getElem?_append_left hvl] at hv
          exact ih v x hv hm
        · have hve : v = (copyAt to fr l by_ k).2.1.length := by
            have := (List.getElem?_eq_some_iff.1 hv).1
            rw [List.length_append, List.length_singleton] at this
            omega
          have hmv := hm (by omega)
          rw [show v = (fr.n + 1 + (k : Int)).toNat from by omega] at hmv
          rw [hmv] at hmk
          exact absurd rfl hmk
    · rw [if_neg e0] at he
      exact absurd he e0

/-- What comes of a copy that is made. -/
theorem copyG_made {to fr : Gr} {l : Int} {by_ : List Int} (h : copyOk to fr l by_ = true) (he : (copyG to fr l by_).2.2 = 0) : (copyAt to fr l by_ fr.as.length).2.2 = 0 ∧ copyG to fr l by_ = ((copyAt to fr l by_ fr.as.length).1, litI (copyAt to fr l by_ fr.as.length).2.1 l, 0) := by
  unfold copyG at he ⊢
  rw [if_pos h] at he ⊢
  simp only at he ⊢
  split at he
  · rename_i e
    rw [if_pos e]
    exact ⟨e, rfl⟩
  · rename_i e
    exact absurd he e

theorem copyG_ok {to fr : Gr} {l : Int} {by_ : List Int} (he : (copyG to fr l by_).2.2 = 0) : copyOk to fr l by_ = true := by
  cases h : copyOk to fr l by_ with
  | true => rfl
  | false =>
    unfold copyG at he
    rw [h] at he
    cases he

theorem copyG_room {to fr : Gr} {l : Int} {by_ : List Int} (h : copyOk to fr l by_ = true) (hv : to.vars + fr.as.length ≤ 2000) : (copyG to fr l by_).2.2 = 0 := by
  have := copyAt_room h hv _ (Nat.le_refl _)
  unfold copyG
  rw [if_pos h]
  simp only
  rw [if_pos this]

/-- A copy goes on from the graph it is made in. -/
theorem copyG_grows {to fr : Gr} {l : Int} {by_ : List Int} (he : (copyG to fr l by_).2.2 = 0) : Grows to (copyG to fr l by_).1 (copyG to fr l by_).2.1 fr.as.length := by
  have h := copyG_ok he
  obtain ⟨e, e'⟩ := copyG_made h he
  have inv := copyAt_inv h _ (Nat.le_refl _) e
  obtain ⟨x1, qs, x2⟩ := inv.ext
  rw [e']
  refine ⟨inv.right, litI_lit inv.right inv.lit, x1, qs, x2, ?_⟩
  have := inv.more
  rw [x2, List.length_append] at this
  omega

/-- A copy is what the literal is, by what the others are. -/
theorem copyG_sem {to fr : Gr} {l : Int} {by_ : List Int} {xs : List Bool} (hn : (xs.length : Int) = to.n) (he : (copyG to fr l by_).2.2 = 0) : litV (copyG to fr l by_).1 xs (copyG to fr l by_).2.1 = litV fr (byVals to xs by_) l := by
  have h := copyG_ok he
  obtain ⟨e, e'⟩ := copyG_made h he
  obtain ⟨r1, r2, r3, r4, r5⟩ := copyOk_iff.1 h
  have inv := copyAt_inv h _ (Nat.le_refl _) e
  obtain ⟨n0, _, l0, l1⟩ := (litB_iff fr l).1 r3
  have hlen := inv.len
  have hq : (l / 2).toNat < (copyAt to fr l by_ fr.as.length).2.1.length := by omega
  have hgq := List.getElem?_eq_getElem hq
  have hs := copyAt_sem h hn _ (Nat.le_refl _) e _ _ hgq (fun _ => below_self r3)
  rw [e']
  simp only
  unfold litI
  rw [hgq, Option.getD_some, turnP_litV (litB_ge (inv.lit _ (List.mem_of_getElem? hgq))), hs, show (2 * (((l / 2).toNat : Nat) : Int)) = 2 * (l / 2) from by omega]
  by_cases hodd : l % 2 = 1
  · have := litV_even (g := fr) (xs := byVals to xs by_) (l := 2 * (l / 2)) (by omega) (by omega)
    rw [show 2 * (l / 2) + 1 = l from by omega] at this
    rw [this, decide_eq_true hodd]
    simp
  · rw [show 2 * (l / 2) = l from by omega, decide_eq_false hodd]
    simp

/-- An input that stands below a copy. -/
theorem copyG_und {to fr : Gr} {l : Int} {by_ : List Int} (he : (copyG to fr l by_).2.2 = 0) {u : Int} (h1 : 1 ≤ u) (h2 : u ≤ to.n) (hu : Und (copyG to fr l by_).1 ((copyG to fr l by_).2.1 / 2) u) : ∃ (i : Nat) (y : Int), by_[i]? = some y ∧ Und fr (l / 2) ((i : Int) + 1) ∧ Und to (y / 2) u := by
  have h := copyG_ok he
  obtain ⟨e, e'⟩ := copyG_made h he
  obtain ⟨r1, r2, r3, r4, r5⟩ := copyOk_iff.1 h
  have inv := copyAt_inv h _ (Nat.le_refl _) e
  obtain ⟨n0, _, l0, l1⟩ := (litB_iff fr l).1 r3
  have hlen := inv.len
  have hq : (l / 2).toNat < (copyAt to fr l by_ fr.as.length).2.1.length := by omega
  have hgq := List.getElem?_eq_getElem hq
  rw [e'] at hu
  simp only at hu
  unfold litI at hu
  rw [hgq, Option.getD_some, turnP_half] at hu
  obtain ⟨i, y, y1, y2, y3⟩ := copyAt_und h h1 h2 _ (Nat.le_refl _) e _ _ hgq hu
  rw [show (((l / 2).toNat : Nat) : Int) = l / 2 from by omega] at y2
  exact ⟨i, y, y1, y2, y3⟩

/-- What stands below alone matters. -/
theorem litV_und {g : Gr} (hr : rightB g = true) {xs ys : List Bool} (hx : (xs.length : Int) = g.n) (hy : (ys.length : Int) = g.n) : ∀ (v : Nat), (v : Int) < g.vars → (∀ i : Nat, Und g v ((i : Int) + 1) → xs[i]? = ys[i]?) → litV g xs (2 * (v : Int)) = litV g ys (2 * (v : Int)) := by
  intro v
  induction v using Nat.strongRecOn with
  | _ v ih =>
    intro hv hi
    by_cases h0 : v = 0
    · subst h0
      exact (litV_zero _ _).trans (litV_zero _ _).symm
    · by_cases h1 : (v : Int) ≤ g.n
      · have e := hi (v - 1) (by rw [show (((v - 1 : Nat) : Int) + 1) = v from by omega]; exact .self _)
        have hl : v - 1 < xs.length := by omega
        have hgx := List.getElem?_eq_getElem hl
        rw [hgx] at e
        have a := litV_input (g := g) hgx
        have b := litV_input (g := g) e.symm
        rw [show 2 * (((v - 1 : Nat) : Int) + 1) = 2 * v from by omega] at a b
        rw [a, b]
      · obtain ⟨j, hj⟩ : ∃ j : Nat, (v : Int) = g.n + 1 + j := ⟨((v : Int) - g.n - 1).toNat, by omega⟩
        have hjl : j < g.as.length := by unfold Gr.vars at hv; omega
        have hp := List.getElem?_eq_getElem hjl
        obtain ⟨m1, m2, m3⟩ := gate_less hr hp
        have hlit : ∀ q : Int, 0 ≤ q → q / 2 < v → (∀ i : Nat, Und g (q / 2) ((i : Int) + 1) → xs[i]? = ys[i]?) → litV g xs q = litV g ys q := fun q q0 q1 hq => by
          have := ih (q / 2).toNat (by omega) (by omega) (by rw [show (((q / 2).toNat : Nat) : Int) = q / 2 from by omega]; exact hq)
          rw [show (((q / 2).toNat : Nat) : Int) = q / 2 from by omega] at this
          by_cases hodd : q % 2 = 1
          · have a := litV_even (g := g) (xs := xs) (l := 2 * (q / 2)) (by omega) (by omega)
            have b := litV_even (g := g) (xs := ys) (l := 2 * (q / 2)) (by omega) (by omega)
            rw [show 2 * (q / 2) + 1 = q from by omega] at a b
            rw [a, b, this]
          · rw [show 2 * (q / 2) = q from by omega] at this
            exact this
        rw [hj, litV_gate hr hx hp, litV_gate hr hy hp, hlit _ (by omega) (by omega) (fun i hu => hi i (by rw [hj]; exact .left hp hu)), hlit _ (by omega) (by omega) (fun i hu => hi i (by rw [hj]; exact .right hp hu))]

theorem litV_und_lit {g : Gr} (hr : rightB g = true) {xs ys : List Bool} (hx : (xs.length : Int) = g.n) (hy : (ys.length : Int) = g.n) {l : Int} (hl : litB g l = true) (h : ∀ i : Nat, Und g (l / 2) ((i : Int) + 1) → xs[i]? = ys[i]?) : litV g xs l = litV g ys l := by
  have l0 := litB_ge hl
  have l1 := lit_lt hl
  have := litV_und hr hx hy (l / 2).toNat (by omega) (by rw [show (((l / 2).toNat : Nat) : Int) = l / 2 from by omega]; exact h)
  rw [show (((l / 2).toNat : Nat) : Int) = l / 2 from by omega] at this
  by_cases hodd : l % 2 = 1
  · have a := litV_even (g := g) (xs := xs) (l := 2 * (l / 2)) (by omega) (by omega)
    have b := litV_even (g := g) (xs := ys) (l := 2 * (l / 2)) (by omega) (by omega)
    rw [show 2 * (l / 2) + 1 = l from by omega] at a b
    rw [a, b, this]
  · rw [show 2 * (l / 2) = l from by omega] at this
    exact this

/-! ### Support -/
theorem suppAt_iff {g : Gr} {l : Int} : ∀ (k : Nat) (x : Int), x ∈ suppAt g l k ↔ ∃ i : Nat, i < k ∧ x = (i : Int) + 1 ∧ (belowG g l)[i + 1]? = some true
  | 0, x => by simp [suppAt]
  | k + 1, x => by
    rw [suppAt]
    have ih := suppAt_iff (g := g) (l := l) k x
    split
    · rename_i hm
      have hm' : (belowG g l)[k + 1]? = some true := by
        cases e : (belowG g l)[k + 1]? with
        | none => rw [e] at hm; cases hm
        | some b => rw [e] at hm; cases b <;> simp_all
      rw [List.mem_append, ih]
      constructor
      · rintro (⟨i, h1, h2, h3⟩ | h)
        · exact ⟨i, by omega, h2, h3⟩
        · simp only [List.mem_cons, List.not_mem_nil, or_false] at h
          exact ⟨k, by omega, h, hm'⟩
      · rintro ⟨i, h1, h2, h3⟩
        by_cases e : i = k
        · subst e
          exact .inr (by simp [h2])
        · exact .inl ⟨i, by omega, h2, h3⟩
    · rename_i hm
      rw [ih]
      constructor
      · rintro ⟨i, h1, h2, h3⟩
        exact ⟨i, by omega, h2, h3⟩
      · rintro ⟨i, h1, h2, h3⟩
        by_cases e : i = k
        · subst e
          rw [h3] at hm
          exact absurd rfl hm
        · exact ⟨i, by omega, h2, h3⟩
theorem suppAt_sorted {g : Gr} {l : Int} : ∀ k, (suppAt g l k).Pairwise (· < ·)
  | 0 => by simp [suppAt]
  | k + 1 => by
    have ih := suppAt_sorted (g := g) (l := l) k
    rw [suppAt]
    split
    · rw [List.pairwise_append]
      refine ⟨ih, by simp, fun a ha b hb => ?_⟩
      obtain ⟨i, h1, h2, _⟩ := (suppAt_iff k a).1 ha
      simp only [List.mem_cons, List.not_mem_nil, or_false] at hb
      omega
    · exact ih
theorem suppAt_length (g : Gr) (l : Int) : ∀ k, (suppAt g l k).length ≤ k
  | 0 => by simp [suppAt]
  | k + 1 => by
    have := suppAt_length g l k
    rw [suppAt]
    split
    · rw [List.length_append, List.length_singleton]
      omega
    · omega
theorem suppG_iff {g : Gr} {l : Int} (hr : rightB g = true) (hl : litB g l = true) (x : Int) : x ∈ suppG g l ↔ 1 ≤ x ∧ x ≤ g.n ∧ Und g (l / 2) x := by
  have n0 := (right_vars hr).1
  unfold suppG
  rw [hr, hl]
  simp only [Bool.and_self, if_true]
  rw [suppAt_iff]
  constructor
  · rintro ⟨i, h1, rfl, h3⟩
    have := (below_iff hr hl (i + 1)).1 h3
    rw [Int.natCast_succ] at this
    exact ⟨by omega, by omega, this⟩
  · rintro ⟨h1, h2, h3⟩
    refine ⟨(x - 1).toNat, by omega, by omega, (below_iff hr hl _).2 ?_⟩
    rw [show ((((x - 1).toNat + 1 : Nat) : Int)) = x from by omega]
    exact h3
end Go.Proofs.Ytbkmgblijncjhaa
