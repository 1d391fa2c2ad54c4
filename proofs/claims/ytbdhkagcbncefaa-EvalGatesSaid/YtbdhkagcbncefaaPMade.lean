/- Graphs by numbers, as plain data: what is right stays right. -/
import Derived.Test.YtbdhkagcbncefaaLaw1
namespace Go.Proofs.Ytbdhkagcbncefaa

theorem andG_zero {g : Gr} {a b : Int} (he : (andG g a b).2.2 = 0) : rightB g = true ∧ litB g a = true ∧ litB g b = true ∧ andG g a b = andHi g (max a b) (min a b) := by
  unfold andG at he ⊢
  cases h : (rightB g && (litB g a && litB g b))
  · rw [h] at he
    simp at he
  · rw [if_pos rfl]
    simp only [Bool.and_eq_true] at h
    exact ⟨h.1, h.2.1, h.2.2, rfl⟩

theorem andHi_cases (g : Gr) (a b : Int) :
    (trivG a b = some 0 ∧ andHi g a b = (g, 0, 0)) ∨ (trivG a b = some a ∧ andHi g a b = (g, a, 0)) ∨ (trivG a b = none ∧ ∃ i : Nat, placeOf g.as (a, b) = some i ∧ andHi g a b = (g, 2 * (g.n + 1 + i), 0)) ∨
    (trivG a b = none ∧ placeOf g.as (a, b) = none ∧ g.vars ≥ 2000 ∧ andHi g a b = (noG, 0, 2)) ∨ (trivG a b = none ∧ placeOf g.as (a, b) = none ∧ g.vars < 2000 ∧ andHi g a b = (⟨g.n, g.as ++ [(a, b)]⟩, 2 * g.vars, 0)) := by
  cases ht : trivG a b with
  | some l =>
    have hl : l = 0 ∨ l = a := by
      unfold trivG at ht
      split at ht
      · simp at ht; exact .inl ht.symm
      · split at ht
        · simp at ht; exact .inr ht.symm
        · cases ht
    rcases hl with rfl | rfl
    · exact .inl ⟨rfl, by unfold andHi; rw [ht]⟩
    · exact .inr (.inl ⟨rfl, by unfold andHi; rw [ht]⟩)
  | none =>
    cases hp : placeOf g.as (a, b) with
    | some i => exact .inr (.inr (.inl ⟨rfl, i, rfl, by unfold andHi; rw [ht]; simp only [hp]⟩))
    | none =>
      by_cases hv : g.vars ≥ 2000
      · exact .inr (.inr (.inr (.inl ⟨rfl, rfl, hv, by unfold andHi; rw [ht]; simp only [hp, if_pos hv]⟩)))
      · exact .inr (.inr (.inr (.inr ⟨rfl, rfl, by omega, by unfold andHi; rw [ht]; simp only [hp, if_neg hv]⟩)))

theorem trivG_none {a b : Int} (h : trivG a b = none) (hb : 0 ≤ b) (hab : b ≤ a) : 2 ≤ b ∧ b / 2 < a / 2 := by
  unfold trivG at h
  split at h
  · cases h
  · split at h
    · cases h
    · rename_i h1 h2
      simp only [not_or, not_and, Decidable.not_not] at h1 h2
      obtain ⟨h3, h4⟩ := h1
      obtain ⟨h5, h6⟩ := h2
      refine ⟨by omega, ?_⟩
      by_cases e : a / 2 = b / 2
      · exact absurd (h4 e) h6
      · omega

theorem litB_ge {g : Gr} {l : Int} (h : litB g l = true) : 0 ≤ l := ((litB_iff g l).1 h).2.2.1

theorem right_vars {g : Gr} (h : rightB g = true) : 0 ≤ g.n ∧ g.n ≤ 2000 ∧ g.vars ≤ 2000 ∧ 1 ≤ g.vars := by
  obtain ⟨h1, h2, h3, h4⟩ := (size_iff g).1 (right_size h)
  unfold Gr.vars
  omega

theorem lit_of {g : Gr} (hr : rightB g = true) {l : Int} (h0 : 0 ≤ l) (h1 : l < 2 * g.vars) : litB g l = true := by
  obtain ⟨n0, n1, _, _⟩ := right_vars hr
  refine (litB_iff g l).2 ⟨n0, n1, h0, ?_⟩
  unfold Gr.vars at h1
  omega
theorem lit_lt {g : Gr} {l : Int} (h : litB g l = true) : l < 2 * g.vars := by
  obtain ⟨_, _, h0, h1⟩ := (litB_iff g l).1 h
  unfold Gr.vars
  omega

/-- What And does to a right graph, where it makes something. -/
structure Grows (g h : Gr) (l : Int) (k : Nat) : Prop where
  right : rightB h = true
  lit : litB h l = true
  n : h.n = g.n
  more : ∃ qs : List Pr, h.as = g.as ++ qs ∧ qs.length ≤ k

theorem andHi_grows {g : Gr} {a b : Int} (hr : rightB g = true) (ha : litB g a = true) (hb : litB g b = true) (hab : b ≤ a) (he : (andHi g a b).2.2 = 0) : Grows g (andHi g a b).1 (andHi g a b).2.1 1 := by
  have hb0 := litB_ge hb
  have ha1 := lit_lt ha
  obtain ⟨n0, n1, v1, v2⟩ := right_vars hr
  rcases andHi_cases g a b with ⟨ht, h⟩ | ⟨ht, h⟩ | ⟨ht, i, hp, h⟩ | ⟨ht, hp, hv, h⟩ | ⟨ht, hp, hv, h⟩
  · rw [h]
    exact ⟨hr, lit_of hr (by simp) (by simp; omega), rfl, [], by simp, by simp⟩
  · rw [h]
    exact ⟨hr, ha, rfl, [], by simp, by simp⟩
  · rw [h]
    have hi : i < g.as.length := (List.getElem?_eq_some_iff.1 (placeOf_some hp)).1
    refine ⟨hr, lit_of hr (by simp; omega) ?_, rfl, [], by simp, by simp⟩
    simp only
    unfold Gr.vars
    omega
  · rw [h] at he
    cases he
  · rw [h]
    obtain ⟨t1, t2⟩ := trivG_none ht hb0 hab
    obtain ⟨⟨s1, s2, s3, s4⟩, hall, hnd⟩ := (right_iff g).1 hr
    have hr' : rightB ⟨g.n, g.as ++ [(a, b)]⟩ = true := by
      refine (right_iff _).2 ⟨⟨s1, s2, ?_, ?_⟩, ?_, ?_⟩
      · simp only [List.length_append, List.length_singleton]
        unfold Gr.vars at hv
        omega
      · simp only [List.length_append, List.length_singleton]
        unfold Gr.vars at hv
        omega
      · intro j p hj
        by_cases hjl : j < g.as.length
        · rw [List.getElem?_append_left hjl] at hj
          exact hall j p hj
        · rw [List.getElem?_append_right (by omega)] at hj
          have h0 : j - g.as.length = 0 := by
            rcases Nat.eq_zero_or_pos (j - g.as.length) with h | h
            · exact h
            · rw [List.getElem?_eq_none (by simp; omega)] at hj
              cases hj
          rw [h0] at hj
          simp at hj
          subst hj
          have : j = g.as.length := by omega
          subst this
          refine decide_eq_true (p := 2 ≤ b ∧ b / 2 < a / 2 ∧ a / 2 < g.n + 1 + (g.as.length : Int)) ⟨t1, t2, ?_⟩
          unfold Gr.vars at ha1
          omega
      · refine List.nodup_append.2 ⟨hnd, by simp, fun x hx y hy => ?_⟩
        simp at hy
        subst hy
        rintro rfl
        exact placeOf_none.1 hp hx
    refine ⟨hr', lit_of hr' (by simp; omega) ?_, rfl, [(a, b)], rfl, by simp⟩
    simp [Gr.vars]
    omega

theorem max_min {g : Gr} {a b : Int} (ha : litB g a = true) (hb : litB g b = true) : litB g (max a b) = true ∧ litB g (min a b) = true ∧ min a b ≤ max a b := by
  rcases Int.le_total a b with h | h
  · rw [Int.max_eq_right h, Int.min_eq_left h]; exact ⟨hb, ha, h⟩
  · rw [Int.max_eq_left h, Int.min_eq_right h]; exact ⟨ha, hb, h⟩

theorem andG_grows {g : Gr} {a b : Int} (he : (andG g a b).2.2 = 0) : Grows g (andG g a b).1 (andG g a b).2.1 1 := by
  obtain ⟨hr, ha, hb, h⟩ := andG_zero he
  obtain ⟨h1, h2, h3⟩ := max_min ha hb
  rw [h] at he ⊢
  exact andHi_grows hr h1 h2 h3 he

theorem flip_lit {g : Gr} {l : Int} (h : litB g l = true) : litB g (flip l) = true := by
  obtain ⟨h1, h2, h3, h4⟩ := (litB_iff g l).1 h
  obtain ⟨f1, f2, f3⟩ := flip_range h3
  exact (litB_iff g _).2 ⟨h1, h2, f1, by omega⟩

/-- A literal, turned where the number is one. -/
def turnBy (a t : Int) : Int := if t = 1 then flip a else a

def madeStep (s : Gr × Int) (x : Int) : Gr × Int :=
  let many := 2 * s.1.vars
  let r := andG s.1 (x % many) (x / many % many)
  if r.2.2 = 0 then (r.1, turnBy r.2.1 (x / 7 % 2)) else s

def madeG (n : Int) (xs : List Int) : Gr × Int := (xs.take 40).foldl madeStep (⟨n, []⟩, 1)

structure MInv (n : Int) (k : Nat) (s : Gr × Int) : Prop where
  ok : GOk s.1
  right : rightB s.1 = true
  lit : litB s.1 s.2 = true
  n : s.1.n = n
  len : s.1.as.length ≤ k

theorem MInv.step {n : Int} {k : Nat} {s : Gr × Int} (h : MInv n k s) (x : Int) : MInv n (k + 1) (madeStep s x) := by
  unfold madeStep
  simp only
  split
  · rename_i he
    have hg := andG_grows he
    obtain ⟨qs, h1, h2⟩ := hg.more
    refine ⟨andG_ok h.ok _ _, hg.right, ?_, hg.n.trans h.n, ?_⟩
    · unfold turnBy
      split
      · exact flip_lit hg.lit
      · exact hg.lit
    · simp only
      rw [h1, List.length_append]
      have := h.len
      omega
  · exact ⟨h.ok, h.right, h.lit, h.n, Nat.le_succ_of_le h.len⟩

theorem MInv.begin_ {n : Int} (h0 : 0 ≤ n) (h1 : n ≤ 1900) : MInv n 0 (⟨n, []⟩, 1) := by
  have hr : rightB ⟨n, []⟩ = true := (right_iff _).2 ⟨⟨h0, by simp only; omega, by simp, by simp; omega⟩, by simp, by simp⟩
  exact ⟨⟨(wf_iff n).2 (by omega), by simp, by simp⟩, hr, lit_of hr (by simp) (by simp [Gr.vars]; omega), rfl, by simp⟩

/-- The state behind so many numbers. -/
def madeAt (n : Int) (xs : List Int) (k : Nat) : Gr × Int := (xs.take k).foldl madeStep (⟨n, []⟩, 1)

theorem madeAt_zero (n : Int) (xs : List Int) : madeAt n xs 0 = (⟨n, []⟩, 1) := rfl
theorem madeAt_succ {n : Int} {xs : List Int} {k : Nat} {x : Int} (h : xs[k]? = some x) : madeAt n xs (k + 1) = madeStep (madeAt n xs k) x := by
  unfold madeAt
  rw [List.take_add_one, h]
  simp
theorem madeAt_inv {n : Int} (h0 : 0 ≤ n) (h1 : n ≤ 1900) (xs : List Int) : ∀ k : Nat, MInv n k (madeAt n xs k)
  | 0 => MInv.begin_ h0 h1
  | k + 1 => by
    cases h : xs[k]? with
    | some x => rw [madeAt_succ h]; exact (madeAt_inv h0 h1 xs k).step x
    | none =>
      have e : madeAt n xs (k + 1) = madeAt n xs k := by
        unfold madeAt
        rw [List.take_add_one, h]
        simp
      have := madeAt_inv h0 h1 xs k
      rw [e]
      exact ⟨this.ok, this.right, this.lit, this.n, Nat.le_succ_of_le this.len⟩
theorem madeG_inv {n : Int} (h0 : 0 ≤ n) (h1 : n ≤ 1900) (xs : List Int) : MInv n 40 (madeG n xs) := madeAt_inv h0 h1 xs 40
end Go.Proofs.Ytbdhkagcbncefaa
