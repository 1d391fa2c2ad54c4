/- Graphs of and-gates as plain data: whether one may be, what is made of literals. No Go and no memory here. -/
namespace Go.Proofs.Ytbkmgblijncjhaa

abbrev Pr := Int × Int

structure Gr where
  n : Int
  as : List Pr

def Gr.vars (g : Gr) : Int := g.n + 1 + g.as.length

/-- May a gate be that of variable v? -/
def mayB (a b v : Int) : Bool := decide (2 ≤ b ∧ b / 2 < a / 2 ∧ a / 2 < v)

/-- May all gates from place i on be? -/
def gatesB (n : Int) : Nat → List Pr → Bool
  | _, [] => true
  | i, p :: ps => mayB p.1 p.2 (n + 1 + i) && gatesB n (i + 1) ps

/-- Is its size one that may be? -/
def sizeB (g : Gr) : Bool := decide (0 ≤ g.n ∧ g.n ≤ 2000 ∧ g.as.length ≤ 2000 ∧ g.vars ≤ 2000)

def rightB (g : Gr) : Bool := sizeB g && (gatesB g.n 0 g.as && decide g.as.Nodup)

def litB (g : Gr) (l : Int) : Bool := decide (0 ≤ g.n ∧ g.n ≤ 2000 ∧ 0 ≤ l ∧ l / 2 < g.vars)

theorem gatesB_at (n : Int) : ∀ (ps : List Pr) (i : Nat), gatesB n i ps = true ↔ ∀ (j : Nat) (p : Pr), ps[j]? = some p → mayB p.1 p.2 (n + 1 + (i + j : Nat)) = true
  | [], i => by simp [gatesB]
  | q :: ps, i => by
    rw [gatesB, Bool.and_eq_true, gatesB_at n ps (i + 1)]
    constructor
    · rintro ⟨h1, h2⟩ j p hj
      cases j with
      | zero => simp at hj; subst hj; simpa using h1
      | succ j =>
        have := h2 j p (by simpa using hj)
        rw [show i + (j + 1) = i + 1 + j from by omega]
        exact this
    · intro h
      refine ⟨by simpa using h 0 q (by simp), fun j p hj => ?_⟩
      have := h (j + 1) p (by simpa using hj)
      rw [show i + 1 + j = i + (j + 1) from by omega]
      exact this

theorem size_iff (g : Gr) : sizeB g = true ↔ (0 ≤ g.n ∧ g.n ≤ 2000 ∧ g.as.length ≤ 2000 ∧ g.n + 1 + g.as.length ≤ 2000) := by unfold sizeB Gr.vars; exact decide_eq_true_iff

theorem right_iff (g : Gr) : rightB g = true ↔ (0 ≤ g.n ∧ g.n ≤ 2000 ∧ g.as.length ≤ 2000 ∧ g.n + 1 + g.as.length ≤ 2000) ∧ (∀ (j : Nat) (p : Pr), g.as[j]? = some p → mayB p.1 p.2 (g.n + 1 + j) = true) ∧ g.as.Nodup := by
  rw [rightB, Bool.and_eq_true, Bool.and_eq_true, size_iff, gatesB_at]
  simp

theorem right_size {g : Gr} (h : rightB g = true) : sizeB g = true := by
  rw [rightB, Bool.and_eq_true] at h
  exact h.1

/-- No graph, number 0, an error. -/
def noG : Gr := ⟨0, []⟩

/-- The place of a gate. -/
def placeOf : List Pr → Pr → Option Nat
  | [], _ => none
  | q :: ps, p => if q = p then some 0 else (placeOf ps p).map (· + 1)

/-- The literal of two, the greater one first, if it needs no gate. -/
def trivG (a b : Int) : Option Int :=
  if b = 0 ∨ (a / 2 = b / 2 ∧ a ≠ b) then some 0 else if b = 1 ∨ a = b then some a else none

/-- What is made of two literals, the greater one first: the graph, the literal, the error. -/
def andHi (g : Gr) (a b : Int) : Gr × Int × Int :=
  match trivG a b with
  | some l => (g, l, 0)
  | none => match placeOf g.as (a, b) with
    | some i => (g, 2 * (g.n + 1 + i), 0)
    | none => if g.vars ≥ 2000 then (noG, 0, 2) else (⟨g.n, g.as ++ [(a, b)]⟩, 2 * g.vars, 0)

def andG (g : Gr) (a b : Int) : Gr × Int × Int :=
  if rightB g && (litB g a && litB g b) then andHi g (max a b) (min a b) else (noG, 0, 1)

/-- A literal turned. -/
def flip (a : Int) : Int := if a % 2 = 0 then a + 1 else a - 1

def orG (g : Gr) (a b : Int) : Gr × Int × Int :=
  if a < 0 ∨ b < 0 then (noG, 0, 1)
  else
    let r := andG g (flip a) (flip b)
    if r.2.2 = 0 then (r.1, flip r.2.1, 0) else (noG, 0, r.2.2)

def iteG (g : Gr) (c a b : Int) : Gr × Int × Int :=
  if c < 0 then (noG, 0, 1)
  else
    let r := andG g c a
    if r.2.2 = 0 then
      let s := andG r.1 (flip c) b
      if s.2.2 = 0 then orG s.1 r.2.1 s.2.1 else (noG, 0, s.2.2)
    else (noG, 0, r.2.2)

theorem placeOf_some : ∀ {ps : List Pr} {p : Pr} {i : Nat}, placeOf ps p = some i → ps[i]? = some p
  | [], _, _, h => by simp [placeOf] at h
  | q :: ps, p, i, h => by
    unfold placeOf at h
    split at h
    · rename_i e
      cases h
      simp [e]
    · cases hq : placeOf ps p with
      | none => simp [hq] at h
      | some j =>
        simp [hq] at h
        subst h
        simpa using placeOf_some hq

theorem placeOf_none : ∀ {ps : List Pr} {p : Pr}, placeOf ps p = none ↔ p ∉ ps
  | [], p => by simp [placeOf]
  | q :: ps, p => by
    unfold placeOf
    split
    · rename_i e
      simp [e]
    · rename_i e
      rw [Option.map_eq_none_iff, placeOf_none]
      simp
      intro _ e'
      exact e e'.symm

theorem placeOf_at {ps : List Pr} {p : Pr} {i : Nat} (hn : ps.Nodup) (h : ps[i]? = some p) : placeOf ps p = some i := by
  cases hq : placeOf ps p with
  | none => exact absurd (List.mem_of_getElem? h) (placeOf_none.1 hq)
  | some j =>
    have hj := placeOf_some hq
    have hjl : j < ps.length := (List.getElem?_eq_some_iff.1 hj).1
    rw [(List.getElem?_inj hjl hn).1 (hj.trans h.symm)]

/-- The first place. -/
theorem placeOf_first : ∀ {ps : List Pr} {p : Pr} {i : Nat}, ps[i]? = some p → (∀ j, j < i → ps[j]? ≠ some p) → placeOf ps p = some i
  | [], _, _, h, _ => by simp at h
  | q :: ps, p, 0, h, _ => by simp at h; simp [placeOf, h]
  | q :: ps, p, i + 1, h, hf => by
    have h0 : q ≠ p := fun e => hf 0 (by omega) (by simp [e])
    have := placeOf_first (ps := ps) (p := p) (i := i) (by simpa using h) (fun j hj => by have := hf (j + 1) (by omega); simpa using this)
    simp [placeOf, h0, this]
end Go.Proofs.Ytbkmgblijncjhaa
