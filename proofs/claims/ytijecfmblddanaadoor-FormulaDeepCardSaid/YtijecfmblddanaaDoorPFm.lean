/- Formulas: plain data. -/
import Derived.WalkKit
import Derived.Test.YtijecfmblddanaaDoorPTok
set_option linter.unusedVariables false
set_option linter.unusedSimpArgs false
namespace Go.Proofs.YtijecfmblddanaaDoor

/-- A formula. -/
inductive Fm where
  | mk (kind : Int) (name : List UInt8) (lit : Int) (kids : List Fm)
namespace Fm
def kind : Fm → Int | mk k _ _ _ => k
def name : Fm → List UInt8 | mk _ n _ _ => n
def lit : Fm → Int | mk _ _ l _ => l
def kids : Fm → List Fm | mk _ _ _ ks => ks
end Fm

mutual
def Fm.sz : Fm → Nat
  | .mk _ _ _ ks => 1 + szL ks
def szL : List Fm → Nat
  | [] => 0
  | f :: fs => f.sz + szL fs
end
theorem Fm.sz_pos (f : Fm) : 0 < f.sz := by cases f; simp only [Fm.sz]; omega
theorem Fm.sz_eq (f : Fm) : f.sz = 1 + szL f.kids := by cases f; simp only [Fm.sz, Fm.kids]
theorem szL_mem : ∀ (l : List Fm) (f : Fm), f ∈ l → f.sz ≤ szL l
  | [], f, h => by cases h
  | g :: l, f, h => by
    simp only [szL]
    rcases List.mem_cons.1 h with rfl | h
    · omega
    · have := szL_mem l f h
      omega
theorem Fm.kid_sz {f k : Fm} (h : k ∈ f.kids) : k.sz < f.sz := by
  have := szL_mem _ _ h
  rw [f.sz_eq]
  omega
theorem szL_snoc (l : List Fm) (f : Fm) : szL (l ++ [f]) = szL l + f.sz := by
  induction l with
  | nil => simp [szL]
  | cons g l ih =>
    simp only [List.cons_append, szL, ih]
    omega
theorem szL_take_le (l : List Fm) : ∀ k, szL (l.take k) ≤ szL l := by
  induction l with
  | nil => simp
  | cons g l ih =>
    intro k
    cases k with
    | zero => simp [szL]
    | succ k =>
      simp only [List.take_succ_cons, szL]
      have := ih k
      omega

/-- May a text be an atom's name? -/
def wordB (s : List UInt8) : Bool := s.all (fun c => decide (33 ≤ c.toNat) && decide (c.toNat ≤ 126) && !decide (c.toNat = 34)) && decide (0 < s.length) && decide (s.length ≤ 20)
/-- How many parts a kind has; below 0: there is none such. -/
def nk (k : Int) : Int := if k < 1 ∨ 18 < k then -1 else if k ≤ 3 then 0 else if k = 4 ∨ (9 ≤ k ∧ k ≤ 14) then 1 else 2

mutual
/-- May a formula be, that may be so deep? (how many there are apart) -/
def Fm.wf : Fm → Int → Bool
  | .mk k nm lt ks, d => decide (1 ≤ d) && decide (nk k = (ks.length : Int)) && decide (lt = 0) && (if k = 3 then wordB nm else decide (nm = [])) && wfL ks (d - 1)
def wfL : List Fm → Int → Bool
  | [], _ => true
  | f :: fs, d => f.wf d && wfL fs d
end
theorem Fm.wf_eq (f : Fm) (d : Int) : f.wf d = (decide (1 ≤ d) && decide (nk f.kind = (f.kids.length : Int)) && decide (f.lit = 0) && (if f.kind = 3 then wordB f.name else decide (f.name = [])) && wfL f.kids (d - 1)) := by cases f; rw [Fm.wf]; rfl
theorem wfL_all : ∀ (l : List Fm) (d : Int), wfL l d = l.all (·.wf d)
  | [], _ => rfl
  | f :: l, d => by simp only [wfL, List.all_cons, wfL_all l d]
theorem wfL_snoc (l : List Fm) (f : Fm) (d : Int) : wfL (l ++ [f]) d = (wfL l d && f.wf d) := by rw [wfL_all, wfL_all, List.all_append]; simp

/-- Is a formula right? -/
def Fm.ok (f : Fm) : Bool := f.wf 60 && decide (f.sz ≤ 2000)
def Fm.size (f : Fm) : Nat := if f.ok then f.sz else 0

def keyWords : List (List UInt8) := [[116, 114, 117, 101], [102, 97, 108, 115, 101], [69], [65], [69, 88], [65, 88], [69, 70], [65, 70], [69, 71], [65, 71], [85], [82]]
def keyB (s : List UInt8) : Bool := keyWords.contains s
def plainB (s : List UInt8) : Bool := s.all letterB && !keyB s
/-- An atom's text. -/
def atomT (s : List UInt8) : List UInt8 := if plainB s then s else 34 :: (s ++ [34])

/-- What a kind's text has ahead of its parts, between and behind. -/
def shp (k : Int) : List UInt8 × List UInt8 × List UInt8 :=
  if k = 1 then ([102, 97, 108, 115, 101], [], [])
  else if k = 2 then ([116, 114, 117, 101], [], [])
  else if k = 4 then ([33], [], [])
  else if k = 5 then ([], [32, 38, 32], [])
  else if k = 6 then ([], [32, 124, 32], [])
  else if k = 7 then ([], [32, 45, 62, 32], [])
  else if k = 8 then ([], [32, 60, 45, 62, 32], [])
  else if k = 9 then ([69, 88, 32], [], [])
  else if k = 10 then ([65, 88, 32], [], [])
  else if k = 11 then ([69, 70, 32], [], [])
  else if k = 12 then ([65, 70, 32], [], [])
  else if k = 13 then ([69, 71, 32], [], [])
  else if k = 14 then ([65, 71, 32], [], [])
  else if k = 15 then ([69, 32, 91], [32, 85, 32], [93])
  else if k = 16 then ([65, 32, 91], [32, 85, 32], [93])
  else if k = 17 then ([69, 32, 91], [32, 82, 32], [93])
  else if k = 18 then ([65, 32, 91], [32, 82, 32], [93])
  else ([], [], [])
/-- Texts with one between. -/
def joinB (b : List UInt8) : List (List UInt8) → List UInt8
  | [] => []
  | x :: xs => x ++ xs.flatMap fun y => b ++ y
theorem joinB_snoc (b : List UInt8) (l : List (List UInt8)) (x : List UInt8) : joinB b (l ++ [x]) = joinB b l ++ ((if l = [] then [] else b) ++ x) := by
  cases l with
  | nil => simp [joinB]
  | cons y l => simp [joinB, List.flatMap_append]
/-- In parentheses, if it is of two parts with a sign between. -/
def parT (k : Int) (t : List UInt8) : List UInt8 := if 5 ≤ k ∧ k ≤ 8 then 40 :: (t ++ [41]) else t
mutual
def Fm.txt : Fm → List UInt8
  | .mk k nm _ ks => if k = 3 then atomT nm else (shp k).1 ++ (joinB (shp k).2.1 (partsL ks) ++ (shp k).2.2)
def partsL : List Fm → List (List UInt8)
  | [] => []
  | f :: fs => parT f.kind f.txt :: partsL fs
end
def Fm.part (f : Fm) : List UInt8 := parT f.kind f.txt
theorem partsL_map : ∀ l : List Fm, partsL l = l.map Fm.part
  | [] => by simp only [partsL, List.map_nil]
  | f :: l => by simp only [partsL, List.map_cons, partsL_map l, Fm.part]
theorem Fm.txt_eq (f : Fm) : f.txt = if f.kind = 3 then atomT f.name else (shp f.kind).1 ++ (joinB (shp f.kind).2.1 (f.kids.map Fm.part) ++ (shp f.kind).2.2) := by
  cases f with
  | mk k nm lt ks =>
    rw [Fm.txt, partsL_map]
    rfl

mutual
/-- Are two the same? -/
def Fm.same : Fm → Fm → Bool
  | .mk k n l ks, g => decide (k = g.kind) && decide (n = g.name) && decide (l = g.lit) && sameL ks g.kids
def sameL : List Fm → List Fm → Bool
  | [], gs => gs.isEmpty
  | f :: fs, gs => match gs with
    | [] => false
    | g :: gs => f.same g && sameL fs gs
end
theorem Fm.same_eq (f g : Fm) : f.same g = (decide (f.kind = g.kind) && decide (f.name = g.name) && decide (f.lit = g.lit) && sameL f.kids g.kids) := by cases f; rw [Fm.same]; rfl
mutual
theorem Fm.same_iff : ∀ (f g : Fm), f.same g = true ↔ f = g
  | .mk k n l ks, .mk k' n' l' ks' => by
    rw [Fm.same_eq]
    show (decide (k = k') && decide (n = n') && decide (l = l') && sameL ks ks') = true ↔ _
    rw [Bool.and_eq_true, Bool.and_eq_true, Bool.and_eq_true, decide_eq_true_eq, decide_eq_true_eq, decide_eq_true_eq, sameL_iff ks ks', Fm.mk.injEq]
    constructor
    · rintro ⟨⟨⟨h1, h2⟩, h3⟩, h4⟩
      exact ⟨h1, h2, h3, h4⟩
    · rintro ⟨h1, h2, h3, h4⟩
      exact ⟨⟨⟨h1, h2⟩, h3⟩, h4⟩
theorem sameL_iff : ∀ (a b : List Fm), sameL a b = true ↔ a = b
  | [], [] => by simp [sameL]
  | [], b :: bs => by simp [sameL]
  | a :: as, [] => by simp [sameL]
  | a :: as, b :: bs => by
    simp only [sameL, Bool.and_eq_true, List.cons.injEq, Fm.same_iff a b, sameL_iff as bs]
end
end Go.Proofs.YtijecfmblddanaaDoor
