/- What literals are, by inputs: plain data. -/
import Derived.Test.YtbdhkagcbncefaaPure
namespace Go.Proofs.Ytbdhkagcbncefaa

/-- A literal, by the variables' values. -/
def bitB (v : List Bool) (l : Int) : Bool := (v[(l / 2).toNat]?.getD false) != decide (l % 2 = 1)

def valsFrom (v : List Bool) (ps : List Pr) : List Bool := ps.foldl (fun v p => v ++ [bitB v p.1 && bitB v p.2]) v

theorem valsFrom_nil (v : List Bool) : valsFrom v [] = v := rfl
theorem valsFrom_snoc (v : List Bool) (ps : List Pr) (p : Pr) : valsFrom v (ps ++ [p]) = valsFrom v ps ++ [bitB (valsFrom v ps) p.1 && bitB (valsFrom v ps) p.2] := by
  unfold valsFrom
  rw [List.foldl_append]
  rfl
theorem valsFrom_length : ∀ (ps : List Pr) (v : List Bool), (valsFrom v ps).length = v.length + ps.length
  | [], v => by simp [valsFrom]
  | p :: ps, v => by
    have := valsFrom_length ps (v ++ [bitB v p.1 && bitB v p.2])
    unfold valsFrom at this ⊢
    rw [List.foldl_cons, this]
    simp
    omega

/-- The values behind so many gates. -/
def valsAt (g : Gr) (xs : List Bool) (k : Nat) : List Bool := valsFrom (false :: xs) (g.as.take k)

theorem valsAt_zero (g : Gr) (xs : List Bool) : valsAt g xs 0 = false :: xs := by simp [valsAt, valsFrom]
theorem valsAt_succ {g : Gr} {xs : List Bool} {k : Nat} {p : Pr} (h : g.as[k]? = some p) : valsAt g xs (k + 1) = valsAt g xs k ++ [bitB (valsAt g xs k) p.1 && bitB (valsAt g xs k) p.2] := by
  unfold valsAt
  rw [List.take_add_one, h, Option.toList_some, valsFrom_snoc]
theorem valsAt_length {g : Gr} {xs : List Bool} {k : Nat} (h : k ≤ g.as.length) : (valsAt g xs k).length = 1 + xs.length + k := by
  unfold valsAt
  rw [valsFrom_length, List.length_take, Nat.min_eq_left h]
  simp
  omega

def allG (g : Gr) (xs : List Bool) : List Bool := if rightB g && decide ((xs.length : Int) = g.n) then valsFrom (false :: xs) g.as else []
def evalG (g : Gr) (l : Int) (xs : List Bool) : Bool := decide (0 < (allG g xs).length) && (litB g l && bitB (allG g xs) l)

theorem allG_is {g : Gr} {xs : List Bool} (hr : rightB g = true) (hn : (xs.length : Int) = g.n) : allG g xs = valsAt g xs g.as.length := by
  unfold allG valsAt
  rw [hr, decide_eq_true hn, List.take_length]
  rfl

/-- A value of three: 0 no, 1 yes, 2 either. -/
def told3 (x : Int) : Int := if x = 0 ∨ x = 1 then x else 2
def turn3 (x : Int) : Int := if x = 2 then 2 else 1 - x
def bit3 (v : List Int) (l : Int) : Int := if l % 2 = 1 then turn3 (v[(l / 2).toNat]?.getD 0) else v[(l / 2).toNat]?.getD 0
def gate3 (a b : Int) : Int := if a = 0 ∨ b = 0 then 0 else if a = 1 ∧ b = 1 then 1 else 2

def vals3From (v : List Int) (ps : List Pr) : List Int := ps.foldl (fun v p => v ++ [gate3 (bit3 v p.1) (bit3 v p.2)]) v
def vals3At (g : Gr) (xs : List Int) (k : Nat) : List Int := vals3From (0 :: xs.map told3) (g.as.take k)
def threeG (g : Gr) (l : Int) (xs : List Int) : Int := if rightB g && (decide ((xs.length : Int) = g.n) && litB g l) then bit3 (vals3At g xs g.as.length) l else 2

theorem vals3From_snoc (v : List Int) (ps : List Pr) (p : Pr) : vals3From v (ps ++ [p]) = vals3From v ps ++ [gate3 (bit3 (vals3From v ps) p.1) (bit3 (vals3From v ps) p.2)] := by
  unfold vals3From
  rw [List.foldl_append]
  rfl
theorem vals3From_length : ∀ (ps : List Pr) (v : List Int), (vals3From v ps).length = v.length + ps.length
  | [], v => by simp [vals3From]
  | p :: ps, v => by
    have := vals3From_length ps (v ++ [gate3 (bit3 v p.1) (bit3 v p.2)])
    unfold vals3From at this ⊢
    rw [List.foldl_cons, this]
    simp
    omega
theorem vals3At_zero (g : Gr) (xs : List Int) : vals3At g xs 0 = 0 :: xs.map told3 := by simp [vals3At, vals3From]
theorem vals3At_succ {g : Gr} {xs : List Int} {k : Nat} {p : Pr} (h : g.as[k]? = some p) : vals3At g xs (k + 1) = vals3At g xs k ++ [gate3 (bit3 (vals3At g xs k) p.1) (bit3 (vals3At g xs k) p.2)] := by
  unfold vals3At
  rw [List.take_add_one, h, Option.toList_some, vals3From_snoc]
theorem vals3At_length {g : Gr} {xs : List Int} {k : Nat} (h : k ≤ g.as.length) : (vals3At g xs k).length = 1 + xs.length + k := by
  unfold vals3At
  rw [vals3From_length, List.length_take, Nat.min_eq_left h]
  simp
  omega

/-- One of three. -/
def Is3 (x : Int) : Prop := x = 0 ∨ x = 1 ∨ x = 2
theorem told3_is (x : Int) : Is3 (told3 x) := by unfold told3 Is3; split <;> omega
theorem gate3_is (a b : Int) : Is3 (gate3 a b) := by unfold gate3 Is3; split <;> (try split) <;> omega
theorem turn3_is {x : Int} (h : Is3 x) : Is3 (turn3 x) := by unfold Is3 at h ⊢; unfold turn3; split <;> omega
theorem bit3_is {v : List Int} (h : ∀ x ∈ v, Is3 x) (l : Int) : Is3 (bit3 v l) := by
  have hx : Is3 (v[(l / 2).toNat]?.getD 0) := by
    cases e : v[(l / 2).toNat]? with
    | none => exact .inl rfl
    | some x => exact h x (List.mem_of_getElem? e)
  unfold bit3
  split
  · exact turn3_is hx
  · exact hx
theorem vals3From_is : ∀ (ps : List Pr) (v : List Int), (∀ x ∈ v, Is3 x) → ∀ x ∈ vals3From v ps, Is3 x
  | [], v, h => h
  | p :: ps, v, h => vals3From_is ps (v ++ [gate3 (bit3 v p.1) (bit3 v p.2)]) fun x hx => by
    rcases List.mem_append.1 hx with hx | hx
    · exact h x hx
    · simp at hx
      rw [hx]
      exact gate3_is _ _
theorem vals3At_is (g : Gr) (xs : List Int) (k : Nat) : ∀ x ∈ vals3At g xs k, Is3 x := vals3From_is _ _ fun x hx => by
  rcases List.mem_cons.1 hx with rfl | hx
  · exact .inl rfl
  · obtain ⟨y, _, rfl⟩ := List.mem_map.1 hx
    exact told3_is y
end Go.Proofs.Ytbdhkagcbncefaa
