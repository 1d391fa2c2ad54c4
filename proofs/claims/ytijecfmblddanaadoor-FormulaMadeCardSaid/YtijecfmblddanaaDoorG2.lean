/- Tokens: plain data. Formulas: plain data. Formulas in memory. Formulas in memory, in blocks of one's choice. Formulas by numbers: plain data. Formulas by numbers: pick. Formulas in a row of the call's own. Formulas in memory as trees: each row in a block of its own, apart from its parts'. A law's list of bytes, read from its numbers. Tokens: plain laws: texts with blanks between. Parsing: plain data. The tokens of a printed formula: plain data. What is printed is parsed to the same: plain data. Formulas by numbers are right; laws of them, plain data. -/
import Derived.WalkKit
import Derived.Test.YtijecfmblddanaaDoorG1
import Derived.Test.YtijecfmblddanaaDoorProg
set_option linter.unusedVariables false
set_option linter.unusedSimpArgs false
namespace Go.Proofs.YtijecfmblddanaaDoor

/-- May a byte be in a name? -/
def letterB (c : UInt8) : Bool := decide (97 ≤ c.toNat) && decide (c.toNat ≤ 122) || decide (65 ≤ c.toNat) && decide (c.toNat ≤ 90) || decide (48 ≤ c.toNat) && decide (c.toNat ≤ 57) || decide (c.toNat = 95)
/-- A byte between quotes. -/
def innerB (c : UInt8) : Bool := decide (32 < c.toNat) && decide (c.toNat ≤ 126) && !decide (c.toNat = 34)
def blankB (c : UInt8) : Bool := decide (c.toNat = 32) || decide (c.toNat = 9) || decide (c.toNat = 10)

/-- How many bytes ahead are so. -/
def runL (p : UInt8 → Bool) (l : List UInt8) : Nat := (l.takeWhile p).length

theorem runL_at (p : UInt8 → Bool) : ∀ (l : List UInt8) (k : Nat), (∀ j b, j < k → l[j]? = some b → p b = true) → k ≤ l.length → (k = l.length ∨ ∃ b, l[k]? = some b ∧ p b = false) → runL p l = k
  | [], k, _, hk, _ => by
    have : k = 0 := by simpa using hk
    subst this
    rfl
  | c :: l, 0, _, _, he => by
    rcases he with he | ⟨b, hb, hp⟩
    · simp at he
    · have e : c = b := by simpa using hb
      subst e
      simp [runL, List.takeWhile, hp]
  | c :: l, k + 1, hall, hk, he => by
    have hc : p c = true := hall 0 c (by omega) rfl
    have ih := runL_at p l k (fun j b hj hb => hall (j + 1) b (by omega) (by simpa using hb)) (by simpa using hk) (by
      rcases he with he | ⟨b, hb, hp⟩
      · exact .inl (by simpa using he)
      · exact .inr ⟨b, by simpa using hb, hp⟩)
    simp only [runL, List.takeWhile, hc, List.length_cons] at ih ⊢
    omega

/-- How many bytes a name in quotes has, both quotes with it. -/
def quotL (l : List UInt8) : Nat :=
  if 1 + runL innerB (l.drop 1) < 2 then 0 else if (l[1 + runL innerB (l.drop 1)]?).map UInt8.toNat = some 34 then 1 + runL innerB (l.drop 1) + 1 else 0

/-- How many bytes the name ahead has. -/
def nameL (l : List UInt8) : Nat := if (l[0]?).map UInt8.toNat = some 34 then quotL l else runL letterB l

def sgs : List (List UInt8) := [[60, 45, 62], [45, 62], [33], [38], [124], [40], [41], [91], [93]]
/-- How many bytes the sign ahead has. -/
def signL (l : List UInt8) : Nat := ((sgs.find? (fun x => x.isPrefixOf l)).map List.length).getD 0

structure Tk where
  kind : Int
  text : List UInt8
  place : Nat

/-- What comes, one behind the other: the tokens, and last the end, or what is none. -/
def itemsF : Nat → List UInt8 → Nat → List (Tk × Bool)
  | 0, _, _ => []
  | f + 1, l, at_ =>
    if l.dropWhile blankB = [] then [(⟨0, [], at_ + (l.length - (l.dropWhile blankB).length)⟩, true)]
    else if 0 < nameL (l.dropWhile blankB) then
      (⟨1, (l.dropWhile blankB).take (nameL (l.dropWhile blankB)), at_ + (l.length - (l.dropWhile blankB).length)⟩, true) ::
        itemsF f ((l.dropWhile blankB).drop (nameL (l.dropWhile blankB))) (at_ + (l.length - (l.dropWhile blankB).length) + nameL (l.dropWhile blankB))
    else if 0 < signL (l.dropWhile blankB) then
      (⟨2, (l.dropWhile blankB).take (signL (l.dropWhile blankB)), at_ + (l.length - (l.dropWhile blankB).length)⟩, true) ::
        itemsF f ((l.dropWhile blankB).drop (signL (l.dropWhile blankB))) (at_ + (l.length - (l.dropWhile blankB).length) + signL (l.dropWhile blankB))
    else [(⟨2, [], at_ + (l.length - (l.dropWhile blankB).length)⟩, false)]

def items (l : List UInt8) (at_ : Nat) : List (Tk × Bool) := itemsF (l.length + 1) l at_

theorem dropW_le (p : UInt8 → Bool) (l : List UInt8) : (l.dropWhile p).length ≤ l.length := (List.dropWhile_sublist p).length_le

theorem itemsF_more : ∀ (f : Nat) (l : List UInt8) (at_ : Nat), l.length < f → itemsF f l at_ = items l at_
  | 0, l, at_, h => by omega
  | f + 1, l, at_, h => by
    have key : ∀ (f f' : Nat) (l : List UInt8) (at_ : Nat), l.length < f → l.length < f' → itemsF f l at_ = itemsF f' l at_ := by
      intro f
      induction f with
      | zero => intro f' l at_ h; omega
      | succ f ih =>
        intro f' l at_ h h'
        cases f' with
        | zero => omega
        | succ f' =>
          have hd := dropW_le blankB l
          rw [itemsF, itemsF]
          by_cases h0 : l.dropWhile blankB = []
          · rw [if_pos h0, if_pos h0]
          · have hp : 0 < (l.dropWhile blankB).length := List.length_pos_iff.2 h0
            rw [if_neg h0, if_neg h0]
            by_cases h1 : 0 < nameL (l.dropWhile blankB)
            · rw [if_pos h1, if_pos h1, ih f' _ _ (by rw [List.length_drop]; omega) (by rw [List.length_drop]; omega)]
            · rw [if_neg h1, if_neg h1]
              by_cases h2 : 0 < signL (l.dropWhile blankB)
              · rw [if_pos h2, if_pos h2, ih f' _ _ (by rw [List.length_drop]; omega) (by rw [List.length_drop]; omega)]
              · rw [if_neg h2, if_neg h2]
    exact key _ _ _ _ h (Nat.lt_succ_self _)

/-- One step of it. -/
theorem items_eq (l : List UInt8) (at_ : Nat) : items l at_ =
    if l.dropWhile blankB = [] then [(⟨0, [], at_ + (l.length - (l.dropWhile blankB).length)⟩, true)]
    else if 0 < nameL (l.dropWhile blankB) then
      (⟨1, (l.dropWhile blankB).take (nameL (l.dropWhile blankB)), at_ + (l.length - (l.dropWhile blankB).length)⟩, true) ::
        items ((l.dropWhile blankB).drop (nameL (l.dropWhile blankB))) (at_ + (l.length - (l.dropWhile blankB).length) + nameL (l.dropWhile blankB))
    else if 0 < signL (l.dropWhile blankB) then
      (⟨2, (l.dropWhile blankB).take (signL (l.dropWhile blankB)), at_ + (l.length - (l.dropWhile blankB).length)⟩, true) ::
        items ((l.dropWhile blankB).drop (signL (l.dropWhile blankB))) (at_ + (l.length - (l.dropWhile blankB).length) + signL (l.dropWhile blankB))
    else [(⟨2, [], at_ + (l.length - (l.dropWhile blankB).length)⟩, false)] := by
  have hd := dropW_le blankB l
  conv => lhs; unfold items
  rw [itemsF]
  by_cases h0 : l.dropWhile blankB = []
  · rw [if_pos h0, if_pos h0]
  · have hp : 0 < (l.dropWhile blankB).length := List.length_pos_iff.2 h0
    rw [if_neg h0, if_neg h0]
    by_cases h1 : 0 < nameL (l.dropWhile blankB)
    · rw [if_pos h1, if_pos h1, itemsF_more _ _ _ (by rw [List.length_drop]; omega)]
    · rw [if_neg h1, if_neg h1]
      by_cases h2 : 0 < signL (l.dropWhile blankB)
      · rw [if_pos h2, if_pos h2, itemsF_more _ _ _ (by rw [List.length_drop]; omega)]
      · rw [if_neg h2, if_neg h2]

/-- A blank ahead makes no difference but for places. -/
theorem items_blank (c : UInt8) (l : List UInt8) (at_ : Nat) (hc : blankB c = true) : items (c :: l) at_ = items l (at_ + 1) := by
  have hd := dropW_le blankB l
  have e : (c :: l).dropWhile blankB = l.dropWhile blankB := by simp [List.dropWhile, hc]
  have e2 : at_ + ((c :: l).length - (l.dropWhile blankB).length) = at_ + 1 + (l.length - (l.dropWhile blankB).length) := by simp; omega
  rw [items_eq (c :: l), items_eq l, e, e2]

/-- What Lex hands back: the tokens, or none and the place. -/
def lexBad (l : List UInt8) : Bool := (items l 0).any (fun x => !x.2)
def lexToks (l : List UInt8) : List Tk := (items l 0).map Prod.fst
def lexPlace (l : List UInt8) : Nat := (((items l 0).find? (fun x => !x.2)).map (fun x => x.1.place)).getD 0
end Go.Proofs.YtijecfmblddanaaDoor

set_option linter.unusedVariables false
set_option linter.unusedSimpArgs false
namespace Go.Proofs.YtijecfmblddanaaDoor

/-- A formula. -/
inductive Fm where
  | mk (kind : Int) (name : List UInt8) (lit : Int) (kids : List Fm)
namespace Fm
def kind : Fm → Int | mk k _ _ _ => k
def name : Fm → List UInt8 | mk _ n _ _ => n
def lit : Fm → Int | mk _ _ l _ => l
def kids : Fm → List Fm | mk _ _ _ ks => ks
end Fm

mutual
def Fm.sz : Fm → Nat
  | .mk _ _ _ ks => 1 + szL ks
def szL : List Fm → Nat
  | [] => 0
  | f :: fs => f.sz + szL fs
end
theorem Fm.sz_pos (f : Fm) : 0 < f.sz := by cases f; simp only [Fm.sz]; omega
theorem Fm.sz_eq (f : Fm) : f.sz = 1 + szL f.kids := by cases f; simp only [Fm.sz, Fm.kids]
theorem szL_mem : ∀ (l : List Fm) (f : Fm), f ∈ l → f.sz ≤ szL l
  | [], f, h => by cases h
  | g :: l, f, h => by
    simp only [szL]
    rcases List.mem_cons.1 h with rfl | h
    · omega
    · have := szL_mem l f h
      omega
theorem Fm.kid_sz {f k : Fm} (h : k ∈ f.kids) : k.sz < f.sz := by
  have := szL_mem _ _ h
  rw [f.sz_eq]
  omega
theorem szL_snoc (l : List Fm) (f : Fm) : szL (l ++ [f]) = szL l + f.sz := by
  induction l with
  | nil => simp [szL]
  | cons g l ih =>
    simp only [List.cons_append, szL, ih]
    omega
theorem szL_take_le (l : List Fm) : ∀ k, szL (l.take k) ≤ szL l := by
  induction l with
  | nil => simp
  | cons g l ih =>
    intro k
    cases k with
    | zero => simp [szL]
    | succ k =>
      simp only [List.take_succ_cons, szL]
      have := ih k
      omega

/-- May a text be an atom's name? -/
def wordB (s : List UInt8) : Bool := s.all (fun c => decide (33 ≤ c.toNat) && decide (c.toNat ≤ 126) && !decide (c.toNat = 34)) && decide (0 < s.length) && decide (s.length ≤ 20)
/-- How many parts a kind has; below 0: there is none such. -/
def nk (k : Int) : Int := if k < 1 ∨ 18 < k then -1 else if k ≤ 3 then 0 else if k = 4 ∨ (9 ≤ k ∧ k ≤ 14) then 1 else 2

mutual
/-- May a formula be, that may be so deep? (how many there are apart) -/
def Fm.wf : Fm → Int → Bool
  | .mk k nm lt ks, d => decide (1 ≤ d) && decide (nk k = (ks.length : Int)) && decide (lt = 0) && (if k = 3 then wordB nm else decide (nm = [])) && wfL ks (d - 1)
def wfL : List Fm → Int → Bool
  | [], _ => true
  | f :: fs, d => f.wf d && wfL fs d
end
theorem Fm.wf_eq (f : Fm) (d : Int) : f.wf d = (decide (1 ≤ d) && decide (nk f.kind = (f.kids.length : Int)) && decide (f.lit = 0) && (if f.kind = 3 then wordB f.name else decide (f.name = [])) && wfL f.kids (d - 1)) := by cases f; rw [Fm.wf]; rfl
theorem wfL_all : ∀ (l : List Fm) (d : Int), wfL l d = l.all (·.wf d)
  | [], _ => rfl
  | f :: l, d => by simp only [wfL, List.all_cons, wfL_all l d]
theorem wfL_snoc (l : List Fm) (f : Fm) (d : Int) : wfL (l ++ [f]) d = (wfL l d && f.wf d) := by rw [wfL_all, wfL_all, List.all_append]; simp

/-- Is a formula right? -/
def Fm.ok (f : Fm) : Bool := f.wf 60 && decide (f.sz ≤ 2000)
def Fm.size (f : Fm) : Nat := if f.ok then f.sz else 0

def keyWords : List (List UInt8) := [[116, 114, 117, 101], [102, 97, 108, 115, 101], [69], [65], [69, 88], [65, 88], [69, 70], [65, 70], [69, 71], [65, 71], [85], [82]]
def keyB (s : List UInt8) : Bool := keyWords.contains s
def plainB (s : List UInt8) : Bool := s.all letterB && !keyB s
/-- An atom's text. -/
def atomT (s : List UInt8) : List UInt8 := if plainB s then s else 34 :: (s ++ [34])

/-- What a kind's text has ahead of its parts, between and behind. -/
def shp (k : Int) : List UInt8 × List UInt8 × List UInt8 :=
  if k = 1 then ([102, 97, 108, 115, 101], [], [])
  else if k = 2 then ([116, 114, 117, 101], [], [])
  else if k = 4 then ([33], [], [])
  else if k = 5 then ([], [32, 38, 32], [])
  else if k = 6 then ([], [32, 124, 32], [])
  else if k = 7 then ([], [32, 45, 62, 32], [])
  else if k = 8 then ([], [32, 60, 45, 62, 32], [])
  else if k = 9 then ([69, 88, 32], [], [])
  else if k = 10 then ([65, 88, 32], [], [])
  else if k = 11 then ([69, 70, 32], [], [])
  else if k = 12 then ([65, 70, 32], [], [])
  else if k = 13 then ([69, 71, 32], [], [])
  else if k = 14 then ([65, 71, 32], [], [])
  else if k = 15 then ([69, 32, 91], [32, 85, 32], [93])
  else if k = 16 then ([65, 32, 91], [32, 85, 32], [93])
  else if k = 17 then ([69, 32, 91], [32, 82, 32], [93])
  else if k = 18 then ([65, 32, 91], [32, 82, 32], [93])
  else ([], [], [])
/-- Texts with one between. -/
def joinB (b : List UInt8) : List (List UInt8) → List UInt8
  | [] => []
  | x :: xs => x ++ xs.flatMap fun y => b ++ y
theorem joinB_snoc (b : List UInt8) (l : List (List UInt8)) (x : List UInt8) : joinB b (l ++ [x]) = joinB b l ++ ((if l = [] then [] else b) ++ x) := by
  cases l with
  | nil => simp [joinB]
  | cons y l => simp [joinB, List.flatMap_append]
/-- In parentheses, if it is of two parts with a sign between. -/
def parT (k : Int) (t : List UInt8) : List UInt8 := if 5 ≤ k ∧ k ≤ 8 then 40 :: (t ++ [41]) else t
mutual
def Fm.txt : Fm → List UInt8
  | .mk k nm _ ks => if k = 3 then atomT nm else (shp k).1 ++ (joinB (shp k).2.1 (partsL ks) ++ (shp k).2.2)
def partsL : List Fm → List (List UInt8)
  | [] => []
  | f :: fs => parT f.kind f.txt :: partsL fs
end
def Fm.part (f : Fm) : List UInt8 := parT f.kind f.txt
theorem partsL_map : ∀ l : List Fm, partsL l = l.map Fm.part
  | [] => by simp only [partsL, List.map_nil]
  | f :: l => by simp only [partsL, List.map_cons, partsL_map l, Fm.part]
theorem Fm.txt_eq (f : Fm) : f.txt = if f.kind = 3 then atomT f.name else (shp f.kind).1 ++ (joinB (shp f.kind).2.1 (f.kids.map Fm.part) ++ (shp f.kind).2.2) := by
  cases f with
  | mk k nm lt ks =>
    rw [Fm.txt, partsL_map]
    rfl

mutual
/-- Are two the same? -/
def Fm.same : Fm → Fm → Bool
  | .mk k n l ks, g => decide (k = g.kind) && decide (n = g.name) && decide (l = g.lit) && sameL ks g.kids
def sameL : List Fm → List Fm → Bool
  | [], gs => gs.isEmpty
  | f :: fs, gs => match gs with
    | [] => false
    | g :: gs => f.same g && sameL fs gs
end
theorem Fm.same_eq (f g : Fm) : f.same g = (decide (f.kind = g.kind) && decide (f.name = g.name) && decide (f.lit = g.lit) && sameL f.kids g.kids) := by cases f; rw [Fm.same]; rfl
mutual
theorem Fm.same_iff : ∀ (f g : Fm), f.same g = true ↔ f = g
  | .mk k n l ks, .mk k' n' l' ks' => by
    rw [Fm.same_eq]
    show (decide (k = k') && decide (n = n') && decide (l = l') && sameL ks ks') = true ↔ _
    rw [Bool.and_eq_true, Bool.and_eq_true, Bool.and_eq_true, decide_eq_true_eq, decide_eq_true_eq, decide_eq_true_eq, sameL_iff ks ks', Fm.mk.injEq]
    constructor
    · rintro ⟨⟨⟨h1, h2⟩, h3⟩, h4⟩
      exact ⟨h1, h2, h3, h4⟩
    · rintro ⟨h1, h2, h3, h4⟩
      exact ⟨⟨⟨h1, h2⟩, h3⟩, h4⟩
theorem sameL_iff : ∀ (a b : List Fm), sameL a b = true ↔ a = b
  | [], [] => by simp [sameL]
  | [], b :: bs => by simp [sameL]
  | a :: ys, [] => by simp [sameL]
  | a :: ys, b :: bs => by
    simp only [sameL, Bool.and_eq_true, List.cons.injEq, Fm.same_iff a b, sameL_iff ys bs]
end
end Go.Proofs.YtijecfmblddanaaDoor

set_option linter.unusedVariables false
set_option linter.unusedSimpArgs false
namespace Go.Proofs.YtijecfmblddanaaDoor
open Go.RowKit Go.Maps

/-- A formula's four cells. -/
def fmC (f : Fm) (A : Option Addr) (c : Nat) : List Value := [.int .i64 f.kind, .string ⟨f.name.toArray⟩, .int .i64 f.lit, .slice A f.kids.length c]

/-- The slice at A reads as these formulas; all lies below block B. -/
inductive FmS (w : World) (B : Nat) : List Fm → Option Addr → Prop
  | nil (A : Option Addr) : FmS w B [] A
  | mk (l : List Fm) (b o : Nat) (As : Nat → Option Addr) (cs : Nat → Nat) (hb : b < B)
      (hc : ∀ (i : Nat) (f : Fm), l[i]? = some f → (w.cell? ⟨b, o + i * 4, none⟩ = some (.int .i64 f.kind) ∧ w.cell? ⟨b, o + i * 4 + 1, none⟩ = some (.string ⟨f.name.toArray⟩) ∧ w.cell? ⟨b, o + i * 4 + 2, none⟩ = some (.int .i64 f.lit) ∧ w.cell? ⟨b, o + i * 4 + 3, none⟩ = some (.slice (As i) f.kids.length (cs i))) ∧
        f.kids.length ≤ cs i ∧ f.kids.length ≤ 140737488355328 ∧ (-9223372036854775808 ≤ f.kind ∧ f.kind ≤ 9223372036854775807) ∧ f.name.length ≤ 140737488355328)
      (hk : ∀ (i : Nat) (f : Fm), l[i]? = some f → FmS w B f.kids (As i)) : FmS w B l (some ⟨b, o, none⟩)

section
variable {w w' : World} {B B' : Nat} {A : Option Addr} {l : List Fm}
theorem FmS.keep (h : FmS w B l A) (hk : ∀ b o, b < B → w'.cell? ⟨b, o, none⟩ = w.cell? ⟨b, o, none⟩) : FmS w' B l A := by
  induction h with
  | nil A => exact .nil A
  | mk l b o As cs hb hc _ ih =>
    refine .mk l b o As cs hb (fun i f hi => ?_) ih
    obtain ⟨⟨h1, h2, h3, h4⟩, h5⟩ := hc i f hi
    exact ⟨⟨by rw [hk _ _ hb, h1], by rw [hk _ _ hb, h2], by rw [hk _ _ hb, h3], by rw [hk _ _ hb, h4]⟩, h5⟩
theorem FmS.more (h : FmS w B l A) (hB : B ≤ B') : FmS w B' l A := by
  induction h with
  | nil A => exact .nil A
  | mk l b o As cs hb hc _ ih => exact .mk l b o As cs (Nat.lt_of_lt_of_le hb hB) hc ih
theorem FmS.low (h : FmS w B l A) (hb : Below B w w') : FmS w' B l A := h.keep (bcell hb).1
theorem FmS.after (h : FmS w w.heap.size l A) (hb : Below w.heap.size w w') : FmS w' w'.heap.size l A := (h.low hb).more hb.size
theorem FmS.grown {row : Option Nat} (h : FmS w B l A) (hB : B ≤ w.heap.size) (hg : w.grownBy w' row) (hr : ∀ k, row = some k → B ≤ k) : FmS w' B l A := h.low ((Below.refl B w).grown hg hB hr)
/-- The i-th of them. -/
theorem FmS.at_ (h : FmS w B l A) {i : Nat} {f : Fm} (hi : l[i]? = some f) : ∃ b o A' c, A = some ⟨b, o, none⟩ ∧ b < B ∧
    (w.cell? ⟨b, o + i * 4, none⟩ = some (.int .i64 f.kind) ∧ w.cell? ⟨b, o + i * 4 + 1, none⟩ = some (.string ⟨f.name.toArray⟩) ∧ w.cell? ⟨b, o + i * 4 + 2, none⟩ = some (.int .i64 f.lit) ∧ w.cell? ⟨b, o + i * 4 + 3, none⟩ = some (.slice A' f.kids.length c)) ∧
    (f.kids.length ≤ c ∧ f.kids.length ≤ 140737488355328 ∧ (-9223372036854775808 ≤ f.kind ∧ f.kind ≤ 9223372036854775807) ∧ f.name.length ≤ 140737488355328) ∧ FmS w B f.kids A' := by
  cases h with
  | nil A => simp at hi
  | mk l b o As cs hb hc hk =>
    obtain ⟨h1, h2⟩ := hc i f hi
    exact ⟨b, o, As i, cs i, rfl, hb, h1, h2, hk i f hi⟩
end

/-- A formula as a value: its parts at A. -/
structure FmV (w : World) (B : Nat) (f : Fm) (A : Option Addr) (c : Nat) : Prop where
  cap : f.kids.length ≤ c
  big : f.kids.length ≤ 140737488355328
  kind : -9223372036854775808 ≤ f.kind ∧ f.kind ≤ 9223372036854775807
  name : f.name.length ≤ 140737488355328
  kids : FmS w B f.kids A
theorem FmV.low {w w' : World} {B : Nat} {f : Fm} {A : Option Addr} {c : Nat} (h : FmV w B f A c) (hb : Below B w w') : FmV w' B f A c := ⟨h.cap, h.big, h.kind, h.name, h.kids.low hb⟩
theorem FmV.more {w : World} {B B' : Nat} {f : Fm} {A : Option Addr} {c : Nat} (h : FmV w B f A c) (hB : B ≤ B') : FmV w B' f A c := ⟨h.cap, h.big, h.kind, h.name, h.kids.more hB⟩
theorem FmV.after {w w' : World} {f : Fm} {A : Option Addr} {c : Nat} (h : FmV w w.heap.size f A c) (hb : Below w.heap.size w w') : FmV w' w'.heap.size f A c := (h.low hb).more hb.size
theorem FmV.grown {w w' : World} {B : Nat} {f : Fm} {A : Option Addr} {c : Nat} {row : Option Nat} (h : FmV w B f A c) (hB : B ≤ w.heap.size) (hg : w.grownBy w' row) (hr : ∀ k, row = some k → B ≤ k) : FmV w' B f A c := h.low ((Below.refl B w).grown hg hB hr)
/-- A formula's argument. -/
def fmA (f : Fm) (A : Option Addr) (c : Nat) : Value := .agg #[.int .i64 f.kind, .string ⟨f.name.toArray⟩, .int .i64 f.lit, .slice A f.kids.length c]
theorem FmS.v {w : World} {B : Nat} {A : Option Addr} {l : List Fm} (h : FmS w B l A) {i : Nat} {f : Fm} (hi : l[i]? = some f) : ∃ b o A' c, A = some ⟨b, o, none⟩ ∧ b < B ∧
    (w.cell? ⟨b, o + i * 4, none⟩ = some (.int .i64 f.kind) ∧ w.cell? ⟨b, o + i * 4 + 1, none⟩ = some (.string ⟨f.name.toArray⟩) ∧ w.cell? ⟨b, o + i * 4 + 2, none⟩ = some (.int .i64 f.lit) ∧ w.cell? ⟨b, o + i * 4 + 3, none⟩ = some (.slice A' f.kids.length c)) ∧ FmV w B f A' c := by
  obtain ⟨b, o, A', c, h1, h2, h3, ⟨h4, h5, h6, h7⟩, h8⟩ := h.at_ hi
  exact ⟨b, o, A', c, h1, h2, h3, ⟨h4, h5, h6, h7, h8⟩⟩
end Go.Proofs.YtijecfmblddanaaDoor

set_option linter.unusedVariables false
set_option linter.unusedSimpArgs false
namespace Go.Proofs.YtijecfmblddanaaDoor
open Go.RowKit Go.Maps

/-- The slice at A reads as these formulas; all lies in blocks that Q names. -/
inductive FmQ (w : World) (Q : Nat → Prop) : List Fm → Option Addr → Prop
  | nil (A : Option Addr) : FmQ w Q [] A
  | mk (l : List Fm) (b o : Nat) (As : Nat → Option Addr) (cs : Nat → Nat) (hb : Q b)
      (hc : ∀ (i : Nat) (f : Fm), l[i]? = some f → (w.cell? ⟨b, o + i * 4, none⟩ = some (.int .i64 f.kind) ∧ w.cell? ⟨b, o + i * 4 + 1, none⟩ = some (.string ⟨f.name.toArray⟩) ∧ w.cell? ⟨b, o + i * 4 + 2, none⟩ = some (.int .i64 f.lit) ∧ w.cell? ⟨b, o + i * 4 + 3, none⟩ = some (.slice (As i) f.kids.length (cs i))) ∧
        f.kids.length ≤ cs i ∧ f.kids.length ≤ 140737488355328 ∧ (-9223372036854775808 ≤ f.kind ∧ f.kind ≤ 9223372036854775807) ∧ f.name.length ≤ 140737488355328)
      (hk : ∀ (i : Nat) (f : Fm), l[i]? = some f → FmQ w Q f.kids (As i)) : FmQ w Q l (some ⟨b, o, none⟩)

section
variable {w w' : World} {B : Nat} {Q Q' : Nat → Prop} {A : Option Addr} {l : List Fm}
theorem FmQ.keep (h : FmQ w Q l A) (hQ : ∀ b, Q b → Q' b) (hk : ∀ b o, Q b → w'.cell? ⟨b, o, none⟩ = w.cell? ⟨b, o, none⟩) : FmQ w' Q' l A := by
  induction h with
  | nil A => exact .nil A
  | mk l b o As cs hb hc _ ih =>
    refine .mk l b o As cs (hQ b hb) (fun i f hi => ?_) ih
    obtain ⟨⟨h1, h2, h3, h4⟩, h5⟩ := hc i f hi
    exact ⟨⟨by rw [hk _ _ hb, h1], by rw [hk _ _ hb, h2], by rw [hk _ _ hb, h3], by rw [hk _ _ hb, h4]⟩, h5⟩
theorem FmQ.low (h : FmQ w Q l A) (hQ : ∀ b, Q b → b < B ∧ Q' b) (hb : Below B w w') : FmQ w' Q' l A := h.keep (fun b hq => (hQ b hq).2) fun b o hq => (bcell hb).1 b o (hQ b hq).1
theorem FmQ.far (h : FmQ w Q l A) {x j : Nat} (hQ : ∀ b, Q b → b ≠ x) (v : Value) : FmQ (w.setCell ⟨x, j, none⟩ v) Q l A := by
  refine h.keep (fun _ h => h) fun b o hq => ?_
  have := Below.heap_setCell w ⟨x, j, none⟩ v b (hQ b hq)
  simp only [World.cell?, this]
theorem FmQ.s (h : FmQ w Q l A) (hQ : ∀ b, Q b → b < B) : FmS w B l A := by
  induction h with
  | nil A => exact .nil A
  | mk l b o As cs hb hc _ ih => exact .mk l b o As cs (hQ b hb) hc ih
end

/-- A formula as a value: its parts at A, in blocks that Q names. -/
structure FmVQ (w : World) (Q : Nat → Prop) (f : Fm) (A : Option Addr) (c : Nat) : Prop where
  cap : f.kids.length ≤ c
  big : f.kids.length ≤ 140737488355328
  kind : -9223372036854775808 ≤ f.kind ∧ f.kind ≤ 9223372036854775807
  name : f.name.length ≤ 140737488355328
  kids : FmQ w Q f.kids A
section
variable {w w' : World} {B b T ck cj : Nat} {Q Q' : Nat → Prop} {Ak Aj : Option Addr} {k j : Fm}
theorem FmVQ.v (h : FmVQ w Q k Ak ck) (hQ : ∀ b, Q b → b < B) : FmV w B k Ak ck := ⟨h.cap, h.big, h.kind, h.name, h.kids.s hQ⟩
theorem FmVQ.low (h : FmVQ w Q k Ak ck) (hQ : ∀ b, Q b → b < B ∧ Q' b) (hb : Below B w w') : FmVQ w' Q' k Ak ck := ⟨h.cap, h.big, h.kind, h.name, h.kids.low hQ hb⟩
theorem FmVQ.far (h : FmVQ w Q k Ak ck) {x i : Nat} (hQ : ∀ b, Q b → b ≠ x) (v : Value) : FmVQ (w.setCell ⟨x, i, none⟩ v) Q k Ak ck := ⟨h.cap, h.big, h.kind, h.name, h.kids.far hQ v⟩
theorem FmVQ.keep (h : FmVQ w Q k Ak ck) (hQ : ∀ b, Q b → Q' b) (hk : ∀ b, Q b → w'.heap[b]? = w.heap[b]?) : FmVQ w' Q' k Ak ck := ⟨h.cap, h.big, h.kind, h.name, h.kids.keep hQ fun b o hq => by simp only [World.cell?, hk b hq]⟩
theorem FmVQ.leaf (h1 : -9223372036854775808 ≤ k.kind ∧ k.kind ≤ 9223372036854775807) (h2 : k.name.length ≤ 140737488355328) (hk : k.kids = []) (hc : ck ≤ 140737488355328) : FmVQ w Q k Ak ck :=
  ⟨by rw [hk]; exact Nat.zero_le _, by rw [hk]; exact Nat.zero_le _, h1, h2, by rw [hk]; exact .nil _⟩
theorem FmQ.one (hb : Q b) (h : Blk w b T #[.int .i64 k.kind, .string ⟨k.name.toArray⟩, .int .i64 k.lit, .slice Ak k.kids.length ck]) (hk : FmVQ w Q k Ak ck) : FmQ w Q [k] (some ⟨b, 0, none⟩) :=
  .mk [k] b 0 (fun _ => Ak) (fun _ => ck) hb (fun i f hi => by
    cases i with
    | zero => cases hi; exact ⟨⟨h.cell 0, h.cell 1, h.cell 2, h.cell 3⟩, hk.cap, hk.big, hk.kind, hk.name⟩
    | succ i => simp at hi) (fun i f hi => by
    cases i with
    | zero => cases hi; exact hk.kids
    | succ i => simp at hi)
theorem FmQ.two (hb : Q b) (h : Blk w b T #[.int .i64 k.kind, .string ⟨k.name.toArray⟩, .int .i64 k.lit, .slice Ak k.kids.length ck, .int .i64 j.kind, .string ⟨j.name.toArray⟩, .int .i64 j.lit, .slice Aj j.kids.length cj]) (hk : FmVQ w Q k Ak ck) (hj : FmVQ w Q j Aj cj) : FmQ w Q [k, j] (some ⟨b, 0, none⟩) :=
  .mk [k, j] b 0 (fun i => if i = 0 then Ak else Aj) (fun i => if i = 0 then ck else cj) hb (fun i f hi => by
    match i, hi with
    | 0, hi => cases hi; exact ⟨⟨h.cell 0, h.cell 1, h.cell 2, h.cell 3⟩, hk.cap, hk.big, hk.kind, hk.name⟩
    | 1, hi => cases hi; exact ⟨⟨h.cell 4, h.cell 5, h.cell 6, h.cell 7⟩, hj.cap, hj.big, hj.kind, hj.name⟩
    | i + 2, hi => simp at hi) (fun i f hi => by
    match i, hi with
    | 0, hi => cases hi; exact hk.kids
    | 1, hi => cases hi; exact hj.kids
    | i + 2, hi => simp at hi)
end
end Go.Proofs.YtijecfmblddanaaDoor

set_option linter.unusedVariables false
namespace Go.Proofs.YtijecfmblddanaaDoor

/-- The number at a place, by so many. -/
def pickN (l : List UInt8) (a n : Nat) : Nat := match l[a]? with
  | none => 0
  | some b => b.toNat % n
def names7 : List (List UInt8) := [[113], [108, 48], [111, 117, 116], [108, 49], [105, 48], [111, 48], [97, 45, 98]]
/-- The kind; and how many numbers are gone. -/
def kindF (l : List UInt8) (d a : Nat) : Int × Nat :=
  if d = 0 ∨ l.length ≤ a + 1 ∨ 30 < a + 1 then (3 - ((pickN l (a + 1) 7 / 5 : Nat) : Int), a + 2) else (1 + (pickN l a 18 : Int), a + 1)
/-- The name. -/
def nameF (l : List UInt8) (k : Int) (a : Nat) : List UInt8 × Nat := if k = 3 then (names7[pickN l a 7]?.getD [], a + 1) else ([], a)
/-- So many, one behind the other. -/
def kidsN (g : Nat → Fm × Nat) : Nat → Nat → List Fm × Nat
  | 0, a => ([], a)
  | n + 1, a => ((g a).1 :: (kidsN g n (g a).2).1, (kidsN g n (g a).2).2)
/-- A formula by numbers, so deep at most. -/
def mkF (l : List UInt8) : Nat → Nat → Fm × Nat
  | 0, a => (.mk (kindF l 0 a).1 (nameF l (kindF l 0 a).1 (kindF l 0 a).2).1 0 [], (nameF l (kindF l 0 a).1 (kindF l 0 a).2).2)
  | d + 1, a => (.mk (kindF l (d + 1) a).1 (nameF l (kindF l (d + 1) a).1 (kindF l (d + 1) a).2).1 0 (kidsN (mkF l d) (nk (kindF l (d + 1) a).1).toNat (nameF l (kindF l (d + 1) a).1 (kindF l (d + 1) a).2).2).1,
      (kidsN (mkF l d) (nk (kindF l (d + 1) a).1).toNat (nameF l (kindF l (d + 1) a).1 (kindF l (d + 1) a).2).2).2)
def madeF (l : List UInt8) : Fm := (mkF l 6 0).1

theorem pickN_lt (l : List UInt8) (a n : Nat) (h : 0 < n) : pickN l a n < n := by
  unfold pickN
  split
  · exact h
  · exact Nat.mod_lt _ h
theorem kindF_at (l : List UInt8) (d a : Nat) : a + 1 ≤ (kindF l d a).2 ∧ (kindF l d a).2 ≤ a + 2 := by
  unfold kindF
  split <;> simp
theorem kindF_in (l : List UInt8) (d a : Nat) : 1 ≤ (kindF l d a).1 ∧ (kindF l d a).1 ≤ 18 := by
  unfold kindF
  have h1 := pickN_lt l (a + 1) 7 (by decide)
  have h2 := pickN_lt l a 18 (by decide)
  split
  · show 1 ≤ (3 - ((pickN l (a + 1) 7 / 5 : Nat) : Int)) ∧ (3 - ((pickN l (a + 1) 7 / 5 : Nat) : Int)) ≤ 18
    omega
  · show 1 ≤ (1 + (pickN l a 18 : Int)) ∧ (1 + (pickN l a 18 : Int)) ≤ 18
    omega
theorem kindF_leaf (l : List UInt8) (a : Nat) : nk (kindF l 0 a).1 = 0 := by
  unfold kindF
  have h1 := pickN_lt l (a + 1) 7 (by decide)
  rw [if_pos (.inl rfl)]
  show nk (3 - ((pickN l (a + 1) 7 / 5 : Nat) : Int)) = 0
  unfold nk
  rw [if_neg (by omega), if_pos (by omega)]
theorem nk_le (k : Int) : nk k ≤ 2 := by
  unfold nk
  repeat' split
  all_goals decide
theorem nameF_at (l : List UInt8) (k : Int) (a : Nat) : a ≤ (nameF l k a).2 ∧ (nameF l k a).2 ≤ a + 1 := by
  unfold nameF
  split <;> simp
theorem kidsN_len (g : Nat → Fm × Nat) : ∀ n a, (kidsN g n a).1.length = n
  | 0, a => rfl
  | n + 1, a => by simp [kidsN, kidsN_len g n]
theorem kidsN_snoc (g : Nat → Fm × Nat) : ∀ n a, kidsN g (n + 1) a = ((kidsN g n a).1 ++ [(g (kidsN g n a).2).1], (g (kidsN g n a).2).2)
  | 0, a => rfl
  | n + 1, a => by
    have h := kidsN_snoc g n (g a).2
    show ((g a).1 :: (kidsN g (n + 1) (g a).2).1, (kidsN g (n + 1) (g a).2).2) = _
    rw [h]
    rfl
theorem kidsN_at {g : Nat → Fm × Nat} {c : Nat} (hg : ∀ a, a ≤ (g a).2 ∧ (g a).2 ≤ a + c) : ∀ n a, a ≤ (kidsN g n a).2 ∧ (kidsN g n a).2 ≤ a + n * c
  | 0, a => by simp [kidsN]
  | n + 1, a => by
    have h1 := hg a
    have h2 := kidsN_at hg n (g a).2
    show a ≤ (kidsN g n (g a).2).2 ∧ (kidsN g n (g a).2).2 ≤ _
    rw [Nat.add_mul]
    omega
theorem mkF_at (l : List UInt8) : ∀ d a, a ≤ (mkF l d a).2 ∧ (mkF l d a).2 ≤ a + 3 * (2 ^ (d + 1) - 1)
  | 0, a => by
    have h1 := kindF_at l 0 a
    have h2 := nameF_at l (kindF l 0 a).1 (kindF l 0 a).2
    show a ≤ (nameF l (kindF l 0 a).1 (kindF l 0 a).2).2 ∧ _
    simp only [mkF]
    omega
  | d + 1, a => by
    have h1 := kindF_at l (d + 1) a
    have h2 := nameF_at l (kindF l (d + 1) a).1 (kindF l (d + 1) a).2
    have h3 := kidsN_at (mkF_at l d) (nk (kindF l (d + 1) a).1).toNat (nameF l (kindF l (d + 1) a).1 (kindF l (d + 1) a).2).2
    have h4 := nk_le (kindF l (d + 1) a).1
    have h5 : (nk (kindF l (d + 1) a).1).toNat * (3 * (2 ^ (d + 1) - 1)) ≤ 2 * (3 * (2 ^ (d + 1) - 1)) := Nat.mul_le_mul_right _ (by omega)
    have h6 : 2 ^ (d + 1 + 1) = 2 * 2 ^ (d + 1) := by rw [Nat.pow_succ]; omega
    have h7 : 0 < 2 ^ (d + 1) := Nat.two_pow_pos _
    simp only [mkF]
    omega
end Go.Proofs.YtijecfmblddanaaDoor

set_option linter.unusedVariables false
set_option linter.unusedSimpArgs false
namespace Go.Proofs.YtijecfmblddanaaDoor
open Go.RowKit Go.Maps

/-- The numbers, in memory. -/
def NumsV (w : World) (B : Nat) (A : Option Addr) (l : List UInt8) : Prop := ∀ (i : Nat) (b : UInt8), l[i]? = some b → ∃ q o, A = some ⟨q, o, none⟩ ∧ q < B ∧ w.cell? ⟨q, o + i, none⟩ = some (.int .u8 (b.toNat : Int))
theorem NumsV.low {w w' : World} {B : Nat} {A : Option Addr} {l : List UInt8} (h : NumsV w B A l) (hb : Below B w w') : NumsV w' B A l := fun i b hi => by
  obtain ⟨q, o, h1, h2, h3⟩ := h i b hi
  exact ⟨q, o, h1, h2, ((bcell hb).1 q (o + i) h2).trans h3⟩

set_option maxHeartbeats 1000000 in
theorem pick_any (l : List UInt8) (a n : Nat) (w : World) (xa xl B : Nat) (A : Option Addr) (c : Nat) (hn : n = 18 ∨ n = 7) (ha : a ≤ 1000000) (hl : l.length ≤ c) (hc : c ≤ 140737488355328) (hX : Blk w xa 3 #[.int .i64 (a : Int)]) (hL : Blk w xl 24 #[.slice A l.length c]) (hV : NumsV w B A l) (hB : B ≤ xa) (hne : xl ≠ xa) :
    Calls Tryd.prog 40 #[.int .i64 (n : Int), .pointer (some ⟨xa, 0, none⟩), .pointer (some ⟨xl, 0, none⟩)] w fun e w' => e = .returned (.int .i64 (pickN l a n : Int)) ∧ w' = w.setCell ⟨xa, 0, none⟩ (.int .i64 ((a : Int) + 1)) := by
  have x0 := hX.cell 0
  have xf := hX.frozen 0
  have l0 := hL.cell 0
  have hX2 := hX.set_ 0 (.int .i64 ((a : Int) + 1))
  have hL2 : Blk (w.setCell ⟨xa, 0, none⟩ (.int .i64 ((a : Int) + 1))) xl 24 #[.slice A l.length c] := hL.far (p := ⟨xa, 0, none⟩) (by simpa using hne) _
  have y0 := hX2.cell 0
  have z0 := hL2.cell 0
  by_cases hlt : a < l.length
  · have hlt' : ¬ (l.length : Int) < (a : Int) + 1 := by omega
    obtain ⟨b, hb⟩ : ∃ b, l[a]? = some b := ⟨_, List.getElem?_eq_getElem hlt⟩
    obtain ⟨q, o, rfl, hq, hcell⟩ := hV a b hb
    have hcell2 : (w.setCell ⟨xa, 0, none⟩ (.int .i64 ((a : Int) + 1))).cell? ⟨q, o + a, none⟩ = some (.int .u8 (b.toNat : Int)) := by
      rw [← hcell]
      have := Below.heap_setCell w ⟨xa, 0, none⟩ (.int .i64 ((a : Int) + 1)) q (by simp; omega)
      simp only [World.cell?, this]
    have hbl := b.toNat_lt
    have HP : Hid ((pickN l a n : Int) = (b.toNat : Int) % (n : Int)) := Lib.hid (by
      unfold pickN
      rw [hb]
      rfl)
    have hn0 : (0 : Int) < (n : Int) := by omega
    clear hb hcell hX2 hL2 hX hL hV
    go_enter Tryd.func40, Tryd.ntmps40
    go_wp2_with fail
    go_ret
    rw [HP.out]
    exact ⟨rfl, rfl⟩
  · have hgt : (l.length : Int) < (a : Int) + 1 := by omega
    have HP : Hid ((pickN l a n : Int) = 0) := Lib.hid (by
      unfold pickN
      rw [List.getElem?_eq_none (by omega)]
      rfl)
    clear hX2 hL2 hX hL hV
    go_enter Tryd.func40, Tryd.ntmps40
    go_wp2_with fail
    go_ret
    rw [HP.out]
    exact ⟨rfl, rfl⟩
end Go.Proofs.YtijecfmblddanaaDoor

set_option linter.unusedVariables false
set_option linter.unusedSimpArgs false
namespace Go.Proofs.YtijecfmblddanaaDoor
open Go.RowKit Go.Maps

/-- A row's cells. -/
def flatF (L : List (Fm × Option Addr × Nat)) : List Value := L.flatMap fun x => fmC x.1 x.2.1 x.2.2
theorem flatF_len : ∀ L, (flatF L).length = L.length * 4
  | [] => rfl
  | x :: L => by
    have := flatF_len L
    simp only [flatF, List.flatMap_cons, List.length_append, List.length_cons] at this ⊢
    rw [this]
    simp [fmC]
    omega
theorem flatF_get : ∀ (L : List (Fm × Option Addr × Nat)) (i j : Nat) (x : Fm × Option Addr × Nat), L[i]? = some x → j < 4 → (flatF L)[i * 4 + j]? = (fmC x.1 x.2.1 x.2.2)[j]?
  | [], i, j, x, h, _ => by simp at h
  | y :: L, 0, j, x, h, hj => by
    cases h
    show (fmC y.1 y.2.1 y.2.2 ++ flatF L)[0 * 4 + j]? = _
    rw [Nat.zero_mul, Nat.zero_add, List.getElem?_append_left (by simp [fmC]; exact hj)]
  | y :: L, i + 1, j, x, h, hj => by
    show (fmC y.1 y.2.1 y.2.2 ++ flatF L)[(i + 1) * 4 + j]? = _
    rw [List.getElem?_append_right (by simp [fmC]; omega), show (i + 1) * 4 + j - (fmC y.1 y.2.1 y.2.2).length = i * 4 + j by simp [fmC]; omega]
    exact flatF_get L i j x h hj
theorem flatF_snoc (L : List (Fm × Option Addr × Nat)) (x : Fm × Option Addr × Nat) : flatF (L ++ [x]) = flatF L ++ fmC x.1 x.2.1 x.2.2 := by simp [flatF, List.flatMap_append]

/-- The row reads as its formulas. -/
theorem FmQ.own {w : World} {base : Nat} {T : TypeId} {Q Q' : Nat → Prop} {A : Option Addr} {c : Nat} {L : List (Fm × Option Addr × Nat)} (h : w.ownsRow base T 4 (.slice A L.length c) L.length (flatF L))
    (hk : ∀ x ∈ L, FmVQ w Q x.1 x.2.1 x.2.2) (hQ : ∀ b, Q b → Q' b) (hr : ∀ b o, A = some ⟨b, o, none⟩ → Q' b) : FmQ w Q' (L.map (·.1)) A := by
  have hv := Vals.of_own h
  by_cases h0 : L = []
  · subst h0
    exact .nil _
  · have hpos : 0 < L.length := List.length_pos_iff.2 h0
    obtain ⟨x0, hx0⟩ : ∃ x, L[0]? = some x := ⟨_, List.getElem?_eq_getElem hpos⟩
    obtain ⟨b, o, rfl, hb, _⟩ := hv 0 (.int .i64 x0.1.kind) (by have := flatF_get L 0 0 x0 hx0 (by omega); simpa [fmC] using this)
    have hcell : ∀ (i j : Nat) (x : Fm × Option Addr × Nat) (u : Value), L[i]? = some x → j < 4 → (fmC x.1 x.2.1 x.2.2)[j]? = some u → w.cell? ⟨b, o + i * 4 + j, none⟩ = some u := fun i j x u hx hj hu => by
      obtain ⟨b', o', e', _, hc⟩ := hv (i * 4 + j) u (by rw [flatF_get L i j x hx hj]; exact hu)
      cases e'
      rw [Nat.add_assoc]
      exact hc
    refine .mk _ b o (fun i => (L.getD i (.mk 0 [] 0 [], none, 0)).2.1) (fun i => (L.getD i (.mk 0 [] 0 [], none, 0)).2.2) (hr b o rfl) (fun i f hif => ?_) (fun i f hif => ?_)
    · rw [List.getElem?_map] at hif
      cases hq : L[i]? with
      | none => rw [hq] at hif; cases hif
      | some q =>
        rw [hq] at hif
        have hif' : q.1 = f := by simpa using hif
        subst hif'
        have hv' := hk q (List.mem_of_getElem? hq)
        rw [List.getD_eq_getElem?_getD, hq]
        exact ⟨⟨hcell i 0 q _ hq (by omega) rfl, hcell i 1 q _ hq (by omega) rfl, hcell i 2 q _ hq (by omega) rfl, hcell i 3 q _ hq (by omega) rfl⟩, hv'.cap, hv'.big, hv'.kind, hv'.name⟩
    · rw [List.getElem?_map] at hif
      cases hq : L[i]? with
      | none => rw [hq] at hif; cases hif
      | some q =>
        rw [hq] at hif
        have hif' : q.1 = f := by simpa using hif
        subst hif'
        rw [List.getD_eq_getElem?_getD, hq]
        exact (hk q (List.mem_of_getElem? hq)).kids.keep hQ (fun _ _ _ => rfl)

theorem fmInfo : (Tryd.prog.info? 37).map (fun i => (i.zero, i.size, i.bytes)) = some (some (.agg #[.int .i64 0, .string ⟨#[]⟩, .int .i64 0, .slice none 0 0]), 4, 56) := by kernel_rfl

/-- Append of one formula, as a step of a region. -/
theorem step_append_fm {ops : Array Oper} {o : Oper} {a : Act} {w : World} {K : Act → World → Prop} {Q : Exit → Act → World → Prop} {E : Prop} (hgd : o.guard = none) (s x : Operand)
    (ho : o.op = .call { callee := .builtin .append, args := #[s, x], argTypes := #[35, 35] })
    (base : Nat) (L : List (Fm × Option Addr × Nat)) (v : Value) (hs : a.eval s = v) (hown : w.ownsRow base 37 4 v L.length (flatF L))
    (g : Nat) (f : Fm) (A : Option Addr) (c : Nat) (hx : a.eval x = .slice (some ⟨g, 0, none⟩) 1 1) (hq : Blk w g 37 (fmC f A c).toArray) (h63 : L.length ≤ 1000) (hbase : base ≤ w.heap.size)
    (h : ∀ A' c' w', w'.ownsRow base 37 4 (.slice A' (L.length + 1) c') (L.length + 1) (flatF (L ++ [(f, A, c)])) → L.length + 1 ≤ c' → w.grownBy w' v.ownBlock → ((Value.slice A' (L.length + 1) c').ownBlock = v.ownBlock ∨ (Value.slice A' (L.length + 1) c').ownBlock = some w.heap.size) → K (a.put o.dst (.slice A' (L.length + 1) c')) w') :
    if Region.wanted o (yielded ops a.tmps) = true then Oper.wp Tryd.prog o a w K Q else E := by
  have hw : Region.wanted o (yielded ops a.tmps) = true := by simp [Region.wanted, hgd]
  rw [if_pos hw]
  obtain ⟨i0, hi0, hz0, hz1, hz2⟩ := info_parts fmInfo
  obtain ⟨v', w', hr, h2, h3, h4, h5⟩ := run_append_own_at (P := Tryd.prog) w base 35 o.type 37 i0 _ 4 56 Tryd.underlying35 hi0 hz0 hz1 hz2 rfl (by omega) v L.length (flatF L) hown ⟨g, 0, none⟩ 1 1 (fmC f A c) rfl (fun j u hj => by
      rw [Addr.add_lit, Nat.zero_add, hq.cell, List.getElem?_toArray]; exact hj) (fun u hu => by simp [fmC] at hu; rcases hu with rfl | rfl | rfl | rfl <;> rfl) (by unfold maxLen; omega) (by omega) hbase
  rw [← flatF_snoc L (f, A, c)] at h2
  obtain ⟨A', c', rfl, hc⟩ := own_form h2
  unfold Oper.wp execOp
  simp only [ho, resolve, invoke, builtin, Sem.run_bind, Sem.run_pure, Result.andThen_ok, List.map_toArray, List.map_cons, List.map_nil, hs, hx, hr]
  exact h A' c' w' h2 hc h3 h5
end Go.Proofs.YtijecfmblddanaaDoor

set_option linter.unusedVariables false
set_option linter.unusedSimpArgs false
namespace Go.Proofs.YtijecfmblddanaaDoor
open Go.RowKit Go.Maps

theorem fm_own_keep {w w' : World} {base base' : Nat} {e : TypeId} {size n : Nat} {v : Value} {xs : List Value} (h : w.ownsRow base e size v n xs) (hb : base' ≤ base) (hk : ∀ k, v.ownBlock = some k → w'.heap[k]? = w.heap[k]?) : w'.ownsRow base' e size v n xs := by
  refine ⟨h.1, ?_⟩
  rcases h.2 with hn | ⟨g, cap, cur, rfl, hg, hgg, rest⟩
  · exact .inl hn
  · exact .inr ⟨g, cap, cur, rfl, Nat.le_trans hb hg, (hk g rfl).trans hgg, rest⟩

/-- A row of parts in blocks of [lo, hi): the row's own block is no part's, and no two parts share one. -/
inductive FmT (w : World) : Nat → Nat → List Fm → Option Addr → Nat → Prop
  | mk (lo hi : Nat) (L : List (Fm × Option Addr × Nat)) (A : Option Addr) (c : Nat) (I J : Nat → Nat)
      (ho : w.ownsRow lo 37 4 (.slice A L.length c) L.length (flatF L))
      (hb : ∀ k, (Value.slice A L.length c).ownBlock = some k → k < hi) (hn : L.length ≤ 1000)
      (hin : ∀ (i : Nat) (x : Fm × Option Addr × Nat), L[i]? = some x → lo ≤ I i ∧ J i ≤ hi)
      (hne : ∀ (i : Nat) (x : Fm × Option Addr × Nat), L[i]? = some x → ∀ k, (Value.slice A L.length c).ownBlock = some k → k < I i ∨ J i ≤ k)
      (hd : ∀ (i j : Nat) (x y : Fm × Option Addr × Nat), L[i]? = some x → L[j]? = some y → i < j → J i ≤ I j)
      (hf : ∀ (i : Nat) (x : Fm × Option Addr × Nat), L[i]? = some x → x.1.kids.length ≤ x.2.2 ∧ x.1.kids.length ≤ 140737488355328 ∧ (-9223372036854775808 ≤ x.1.kind ∧ x.1.kind ≤ 9223372036854775807) ∧ x.1.name.length ≤ 140737488355328)
      (hk : ∀ (i : Nat) (x : Fm × Option Addr × Nat), L[i]? = some x → FmT w (I i) (J i) x.1.kids x.2.1 x.2.2) : FmT w lo hi (L.map (·.1)) A c

section
variable {w w' : World} {lo hi lo' hi' c : Nat} {l : List Fm} {A : Option Addr} {f : Fm}
theorem FmT.keep (h : FmT w lo hi l A c) (hk : ∀ b, lo ≤ b → b < hi → w'.heap[b]? = w.heap[b]?) : FmT w' lo hi l A c := by
  induction h with
  | mk lo hi L A c I J ho hb hn hin hne hd hf _ ih =>
    refine .mk lo hi L A c I J (fm_own_keep ho (Nat.le_refl _) fun k h => hk k (ho.lt k h).1 (hb k h)) hb hn hin hne hd hf fun i x hx => ih i x hx fun b h1 h2 => ?_
    have := hin i x hx
    exact hk b (by omega) (by omega)
theorem FmT.wide (h : FmT w lo hi l A c) (h1 : lo' ≤ lo) (h2 : hi ≤ hi') : FmT w lo' hi' l A c := by
  cases h with
  | mk lo hi L A c I J ho hb hn hin hne hd hf hk =>
    refine .mk lo' hi' L A c I J (fm_own_keep ho h1 fun _ _ => rfl) (fun k h => by have := hb k h; omega) hn (fun i x hx => ?_) hne hd hf hk
    have := hin i x hx
    omega
theorem FmT.q (h : FmT w lo hi l A c) : FmQ w (fun b => lo ≤ b ∧ b < hi) l A := by
  induction h with
  | mk lo hi L A c I J ho hb hn hin hne hd hf _ ih =>
    refine FmQ.own ho (Q := fun b => lo ≤ b ∧ b < hi) (fun x hx => ?_) (fun _ h => h) fun b o e => ?_
    · obtain ⟨i, hi⟩ := List.getElem?_of_mem hx
      obtain ⟨h1, h2, h3, h4⟩ := hf i x hi
      have := hin i x hi
      exact ⟨h1, h2, h3, h4, (ih i x hi).keep (fun b hb => by omega) fun _ _ _ => rfl⟩
    · subst e
      exact ⟨(ho.lt b rfl).1, hb b rfl⟩

/-- A formula as a value: its parts at A, as a tree in blocks of [lo, hi). -/
structure FmVT (w : World) (lo hi : Nat) (f : Fm) (A : Option Addr) (c : Nat) : Prop where
  cap : f.kids.length ≤ c
  big : f.kids.length ≤ 140737488355328
  kind : -9223372036854775808 ≤ f.kind ∧ f.kind ≤ 9223372036854775807
  name : f.name.length ≤ 140737488355328
  kids : FmT w lo hi f.kids A c
theorem FmVT.keep (h : FmVT w lo hi f A c) (hk : ∀ b, lo ≤ b → b < hi → w'.heap[b]? = w.heap[b]?) : FmVT w' lo hi f A c := ⟨h.cap, h.big, h.kind, h.name, h.kids.keep hk⟩
theorem FmVT.wide (h : FmVT w lo hi f A c) (h1 : lo' ≤ lo) (h2 : hi ≤ hi') : FmVT w lo' hi' f A c := ⟨h.cap, h.big, h.kind, h.name, h.kids.wide h1 h2⟩
theorem FmVT.q (h : FmVT w lo hi f A c) : FmVQ w (fun b => lo ≤ b ∧ b < hi) f A c := ⟨h.cap, h.big, h.kind, h.name, h.kids.q⟩
theorem FmVT.v {B : Nat} (h : FmVT w lo hi f A c) (hQ : ∀ b, lo ≤ b ∧ b < hi → b < B) : FmV w B f A c := h.q.v hQ
end
end Go.Proofs.YtijecfmblddanaaDoor

set_option linter.unusedVariables false
set_option linter.unusedSimpArgs false
namespace Go.Proofs.YtijecfmblddanaaDoor
open Go.RowKit Go.Maps

def bytesI (xs : List Int) : List UInt8 := xs.map fun x => UInt8.ofNat x.toNat
theorem bytesI_len (xs : List Int) : (bytesI xs).length = xs.length := List.length_map ..
theorem nums_of {w : World} {B : Nat} {A : Option Addr} {xs : List Int} (h : Vals w B A (xs.map (.int .u8 ·))) (hr : ∀ x ∈ xs, 0 ≤ x ∧ x ≤ 255) : NumsV w B A (bytesI xs) := fun i b hi => by
  unfold bytesI at hi
  rw [List.getElem?_map] at hi
  cases hx : xs[i]? with
  | none => rw [hx] at hi; cases hi
  | some x =>
    rw [hx] at hi
    have hi' : UInt8.ofNat x.toNat = b := by simpa using hi
    obtain ⟨q, o, h1, h2, h3⟩ := h i (.int .u8 x) (by rw [List.getElem?_map, hx]; rfl)
    refine ⟨q, o, h1, h2, ?_⟩
    have hb := hr x (List.mem_of_getElem? hx)
    have e : ((b.toNat : Nat) : Int) = x := by
      rw [← hi']
      simp
      omega
    rw [e]
    exact h3
end Go.Proofs.YtijecfmblddanaaDoor

set_option linter.unusedVariables false
set_option linter.unusedSimpArgs false
namespace Go.Proofs.YtijecfmblddanaaDoor

def strip (x : Tk × Bool) : Int × List UInt8 × Bool := (x.1.kind, x.1.text, x.2)

theorem strip_at : ∀ (n : Nat) (l : List UInt8) (a b : Nat), l.length < n → (items l a).map strip = (items l b).map strip
  | 0, l, a, b, h => by omega
  | n + 1, l, a, b, h => by
    have hd := dropW_le blankB l
    rw [items_eq l a, items_eq l b]
    by_cases h0 : l.dropWhile blankB = []
    · rw [if_pos h0, if_pos h0]
      rfl
    · have hp : 0 < (l.dropWhile blankB).length := List.length_pos_iff.2 h0
      rw [if_neg h0, if_neg h0]
      by_cases h1 : 0 < nameL (l.dropWhile blankB)
      · rw [if_pos h1, if_pos h1, List.map_cons, List.map_cons, strip_at n _ _ (b + (l.length - (l.dropWhile blankB).length) + nameL (l.dropWhile blankB)) (by rw [List.length_drop]; omega)]
        rfl
      · rw [if_neg h1, if_neg h1]
        by_cases h2 : 0 < signL (l.dropWhile blankB)
        · rw [if_pos h2, if_pos h2, List.map_cons, List.map_cons, strip_at n _ _ (b + (l.length - (l.dropWhile blankB).length) + signL (l.dropWhile blankB)) (by rw [List.length_drop]; omega)]
          rfl
        · rw [if_neg h2, if_neg h2]
          rfl

/-- Kinds and texts alone. -/
def kts (l : List UInt8) : List (Int × List UInt8 × Bool) := (items l 0).map strip
theorem kts_at (l : List UInt8) (a : Nat) : (items l a).map strip = kts l := strip_at _ l a 0 (Nat.lt_succ_self _)

theorem kts_eq (l : List UInt8) : kts l =
    if l.dropWhile blankB = [] then [(0, [], true)]
    else if 0 < nameL (l.dropWhile blankB) then (1, (l.dropWhile blankB).take (nameL (l.dropWhile blankB)), true) :: kts ((l.dropWhile blankB).drop (nameL (l.dropWhile blankB)))
    else if 0 < signL (l.dropWhile blankB) then (2, (l.dropWhile blankB).take (signL (l.dropWhile blankB)), true) :: kts ((l.dropWhile blankB).drop (signL (l.dropWhile blankB)))
    else [(2, [], false)] := by
  conv => lhs; unfold kts; rw [items_eq]
  by_cases h0 : l.dropWhile blankB = []
  · rw [if_pos h0, if_pos h0]
    rfl
  · rw [if_neg h0, if_neg h0]
    by_cases h1 : 0 < nameL (l.dropWhile blankB)
    · rw [if_pos h1, if_pos h1, List.map_cons, kts_at]
      rfl
    · rw [if_neg h1, if_neg h1]
      by_cases h2 : 0 < signL (l.dropWhile blankB)
      · rw [if_pos h2, if_pos h2, List.map_cons, kts_at]
        rfl
      · rw [if_neg h2, if_neg h2]
        rfl
theorem kts_ne (l : List UInt8) : kts l ≠ [] := by
  rw [kts_eq]
  split
  · simp
  · split
    · simp
    · split <;> simp
theorem kts_congr {l l' : List UInt8} (h : l.dropWhile blankB = l'.dropWhile blankB) : kts l = kts l' := by rw [kts_eq l, kts_eq l', h]
theorem kts_blank (c : UInt8) (l : List UInt8) (hc : blankB c = true) : kts (c :: l) = kts l := kts_congr (by simp [List.dropWhile, hc])
theorem kts_nil : kts [] = [(0, [], true)] := by rw [kts_eq]; rfl

theorem runL_le' (p : UInt8 → Bool) (l : List UInt8) : runL p l ≤ l.length := (List.takeWhile_sublist p (l := l)).length_le
theorem runL_sp (p : UInt8 → Bool) (hp : p 32 = false) : ∀ (d t : List UInt8), runL p (d ++ 32 :: t) = runL p d
  | [], t => by simp [runL, List.takeWhile, hp]
  | c :: d, t => by
    have ih := runL_sp p hp d t
    unfold runL at ih ⊢
    simp only [List.cons_append, List.takeWhile]
    split
    · simp only [List.length_cons, ih]
    · rfl
theorem quotL_sp (d t : List UInt8) (hd : d ≠ []) : quotL (d ++ 32 :: t) = quotL d := by
  have hl : 0 < d.length := List.length_pos_iff.2 hd
  have h1 : (d ++ 32 :: t).drop 1 = d.drop 1 ++ 32 :: t := List.drop_append_of_le_length (by omega)
  have h2 := runL_sp innerB (by decide) (d.drop 1) t
  have h3 := runL_le' innerB (d.drop 1)
  rw [List.length_drop] at h3
  unfold quotL
  rw [h1, h2]
  by_cases h4 : 1 + runL innerB (d.drop 1) < 2
  · rw [if_pos h4, if_pos h4]
  · rw [if_neg h4, if_neg h4]
    rcases Nat.lt_or_ge (1 + runL innerB (d.drop 1)) d.length with h5 | h5
    · rw [List.getElem?_append_left h5]
    · have h6 : 1 + runL innerB (d.drop 1) = d.length := by omega
      rw [h6, List.getElem?_eq_none (Nat.le_refl _)]
      simp
theorem nameL_sp (d t : List UInt8) (hd : d ≠ []) : nameL (d ++ 32 :: t) = nameL d := by
  have hl : 0 < d.length := List.length_pos_iff.2 hd
  unfold nameL
  rw [List.getElem?_append_left hl, quotL_sp d t hd, runL_sp letterB (by decide)]
theorem prefix_sp : ∀ (x d t : List UInt8), (∀ c ∈ x, c ≠ 32) → x.isPrefixOf (d ++ 32 :: t) = x.isPrefixOf d
  | [], d, t, _ => by simp
  | c :: x, [], t, h => by
    have := h c (by simp)
    simp [List.isPrefixOf, this]
  | c :: x, e :: d, t, h => by
    have ih := prefix_sp x d t (fun c hc => h c (by simp [hc]))
    simp [List.isPrefixOf, ih]
theorem find_congr' {α : Type} {p q : α → Bool} : ∀ (l : List α), (∀ x ∈ l, p x = q x) → l.find? p = l.find? q
  | [], _ => rfl
  | a :: l, h => by
    have h1 := h a (by simp)
    simp only [List.find?, h1]
    split
    · rfl
    · exact find_congr' l (fun x hx => h x (by simp [hx]))
theorem sgs_no : ∀ x ∈ sgs, ∀ c ∈ x, c ≠ 32 := by decide
theorem signL_sp (d t : List UInt8) : signL (d ++ 32 :: t) = signL d := by
  unfold signL
  rw [find_congr' (q := fun x => x.isPrefixOf d) sgs (fun x hx => prefix_sp x d t (sgs_no x hx))]
theorem quotL_le' (l : List UInt8) : quotL l ≤ l.length := by
  unfold quotL
  split
  · omega
  · split
    · rename_i h
      rcases Nat.lt_or_ge (1 + runL innerB (l.drop 1)) l.length with h' | h'
      · omega
      · rw [List.getElem?_eq_none h'] at h
        simp at h
    · omega
theorem nameL_le' (l : List UInt8) : nameL l ≤ l.length := by
  unfold nameL
  split
  · exact quotL_le' l
  · exact runL_le' _ _
theorem signL_mem (l : List UInt8) (h : 0 < signL l) : l.take (signL l) ∈ sgs ∧ signL l ≤ l.length := by
  unfold signL at h ⊢
  cases hf : sgs.find? (fun x => x.isPrefixOf l) with
  | none => rw [hf] at h; simp at h
  | some x =>
    have hp : x <+: l := List.isPrefixOf_iff_prefix.1 (List.find?_some (p := fun x : List UInt8 => x.isPrefixOf l) hf)
    have hm := List.mem_of_find?_eq_some hf
    simp only [Option.map_some, Option.getD_some]
    rw [← List.prefix_iff_eq_take.1 hp]
    exact ⟨hm, hp.length_le⟩
theorem dropW_sp (u t : List UInt8) (h : u.dropWhile blankB ≠ []) : (u ++ 32 :: t).dropWhile blankB = u.dropWhile blankB ++ 32 :: t := by
  induction u with
  | nil => exact absurd rfl h
  | cons c u ih =>
    simp only [List.cons_append, List.dropWhile] at h ⊢
    split
    · rename_i hc
      rw [hc] at h
      exact ih h
    · rfl
theorem dropW_sp0 (u t : List UInt8) (h : u.dropWhile blankB = []) : (u ++ 32 :: t).dropWhile blankB = t.dropWhile blankB := by
  induction u with
  | nil => rfl
  | cons c u ih =>
    simp only [List.cons_append, List.dropWhile] at h ⊢
    split
    · rename_i hc
      rw [hc] at h
      exact ih h
    · rename_i hc
      rw [hc] at h
      cases h

/-- Is something no token? -/
def ktsBad (l : List UInt8) : Bool := (kts l).any (fun x => !x.2.2)
theorem lexBad_kts (l : List UInt8) : lexBad l = ktsBad l := by
  unfold lexBad ktsBad kts
  rw [List.any_map]
  rfl

/-- Two texts with a blank between. -/
theorem kts_sp : ∀ (n : Nat) (u t : List UInt8), u.length < n → (ktsBad u = false → kts (u ++ 32 :: t) = (kts u).dropLast ++ kts t) ∧ (ktsBad u = true → ktsBad (u ++ 32 :: t) = true)
  | 0, u, t, h => by omega
  | n + 1, u, t, h => by
    have hd := dropW_le blankB u
    by_cases h0 : u.dropWhile blankB = []
    · have e : kts (u ++ 32 :: t) = kts t := kts_congr (dropW_sp0 u t h0)
      have e2 : kts u = [(0, [], true)] := by rw [kts_eq, if_pos h0]
      constructor
      · intro _
        rw [e, e2]
        rfl
      · intro hb
        unfold ktsBad at hb
        rw [e2] at hb
        cases hb
    · have hp : 0 < (u.dropWhile blankB).length := List.length_pos_iff.2 h0
      have e := dropW_sp u t h0
      have hne : (u.dropWhile blankB ++ 32 :: t) ≠ [] := by simp
      have key : ∀ (k : Int) (m : Nat), 0 < m → m ≤ (u.dropWhile blankB).length → kts u = (k, (u.dropWhile blankB).take m, true) :: kts ((u.dropWhile blankB).drop m) →
          kts (u ++ 32 :: t) = (k, (u.dropWhile blankB ++ 32 :: t).take m, true) :: kts ((u.dropWhile blankB ++ 32 :: t).drop m) →
          (ktsBad u = false → kts (u ++ 32 :: t) = (kts u).dropLast ++ kts t) ∧ (ktsBad u = true → ktsBad (u ++ 32 :: t) = true) := fun k m hm hml e1 e2 => by
        have ih := kts_sp n ((u.dropWhile blankB).drop m) t (by rw [List.length_drop]; omega)
        have e3 : (u.dropWhile blankB ++ 32 :: t).take m = (u.dropWhile blankB).take m := List.take_append_of_le_length hml
        have e4 : (u.dropWhile blankB ++ 32 :: t).drop m = (u.dropWhile blankB).drop m ++ 32 :: t := List.drop_append_of_le_length hml
        rw [e3, e4] at e2
        constructor
        · intro hb
          have hb' : ktsBad ((u.dropWhile blankB).drop m) = false := by
            unfold ktsBad at hb ⊢
            rw [e1] at hb
            simpa using hb
          rw [e2, e1, ih.1 hb', List.dropLast_cons_of_ne_nil (kts_ne _)]
          rfl
        · intro hb
          have hb' : ktsBad ((u.dropWhile blankB).drop m) = true := by
            unfold ktsBad at hb ⊢
            rw [e1] at hb
            simpa using hb
          have := ih.2 hb'
          unfold ktsBad at this ⊢
          rw [e2]
          simpa using this
      have eu := kts_eq u
      have ev := kts_eq (u ++ 32 :: t)
      rw [e] at ev
      rw [if_neg h0] at eu
      rw [if_neg hne, nameL_sp _ _ h0, signL_sp] at ev
      by_cases h1 : 0 < nameL (u.dropWhile blankB)
      · rw [if_pos h1] at eu ev
        exact key 1 _ h1 (nameL_le' _) eu ev
      · rw [if_neg h1] at eu ev
        by_cases h2 : 0 < signL (u.dropWhile blankB)
        · rw [if_pos h2] at eu ev
          exact key 2 _ h2 (signL_mem _ h2).2 eu ev
        · rw [if_neg h2] at eu ev
          constructor
          · intro hb
            unfold ktsBad at hb
            rw [eu] at hb
            cases hb
          · intro _
            unfold ktsBad
            rw [ev]
            rfl

theorem dropW_head (p : UInt8 → Bool) : ∀ (l : List UInt8), l.dropWhile p = [] ∨ ∃ c m, l.dropWhile p = c :: m ∧ p c = false
  | [] => .inl rfl
  | c :: l => by
    simp only [List.dropWhile]
    split
    · exact dropW_head p l
    · rename_i hc
      exact .inr ⟨c, l, rfl, by simpa using hc⟩

theorem runL_take (p : UInt8 → Bool) : ∀ (l : List UInt8), runL p (l.take (runL p l)) = runL p l
  | [] => rfl
  | c :: l => by
    have ih := runL_take p l
    unfold runL at ih ⊢
    simp only [List.takeWhile]
    split
    · rename_i hc
      simp only [List.length_cons, List.take_succ_cons, List.takeWhile, hc, ih]
    · rfl
theorem runL_stop (p : UInt8 → Bool) : ∀ (l : List UInt8) (k : Nat), runL p l < k → runL p (l.take k) = runL p l
  | [], k, _ => by simp
  | c :: l, 0, h => by omega
  | c :: l, k + 1, h => by
    unfold runL at h ⊢
    simp only [List.takeWhile, List.take_succ_cons] at h ⊢
    split
    · rename_i hc
      rw [hc] at h
      have := runL_stop p l k (by unfold runL; simpa using h)
      unfold runL at this
      simp only [List.length_cons, this]
    · rfl
theorem nameL_q (d : List UInt8) (hc : (d[0]?).map UInt8.toNat = some 34) : nameL d = quotL d := by unfold nameL; rw [if_pos hc]
theorem nameL_r (d : List UInt8) (hc : ¬ (d[0]?).map UInt8.toNat = some 34) : nameL d = runL letterB d := by unfold nameL; rw [if_neg hc]
theorem quotL_take (d : List UInt8) (h : 0 < quotL d) : quotL (d.take (quotL d)) = quotL d := by
  have hle := quotL_le' d
  have hq : quotL d = 1 + runL innerB (d.drop 1) + 1 ∧ ¬ (1 + runL innerB (d.drop 1) < 2) ∧ (d[1 + runL innerB (d.drop 1)]?).map UInt8.toNat = some 34 := by
    unfold quotL at h ⊢
    split
    · rename_i h1
      rw [if_pos h1] at h
      omega
    · rename_i h1
      rw [if_neg h1] at h
      split
      · rename_i h2
        exact ⟨rfl, h1, h2⟩
      · rename_i h2
        rw [if_neg h2] at h
        omega
  obtain ⟨q1, q2, q3⟩ := hq
  generalize quotL d = q at h hle q1 ⊢
  have e1 : (d.take q).drop 1 = (d.drop 1).take (q - 1) := List.drop_take
  have e2 : runL innerB ((d.drop 1).take (q - 1)) = runL innerB (d.drop 1) := runL_stop _ _ _ (by omega)
  have e4 : (d.take q)[1 + runL innerB (d.drop 1)]? = d[1 + runL innerB (d.drop 1)]? := by rw [List.getElem?_take, if_pos (by omega)]
  have e3 : quotL (d.take q) = if 1 + runL innerB ((d.take q).drop 1) < 2 then 0 else if ((d.take q)[1 + runL innerB ((d.take q).drop 1)]?).map UInt8.toNat = some 34 then 1 + runL innerB ((d.take q).drop 1) + 1 else 0 := rfl
  rw [e3, e1, e2, if_neg q2, e4, if_pos q3]
  omega
theorem nameL_take (d : List UInt8) (h : 0 < nameL d) : nameL (d.take (nameL d)) = nameL d := by
  have h0 : (d.take (nameL d))[0]? = d[0]? := by rw [List.getElem?_take, if_pos h]
  by_cases hc : (d[0]?).map UInt8.toNat = some 34
  · rw [nameL_q (d.take (nameL d)) (by rw [h0]; exact hc)]
    rw [nameL_q d hc] at h ⊢
    exact quotL_take d h
  · rw [nameL_r (d.take (nameL d)) (by rw [h0]; exact hc), nameL_r d hc, runL_take]
theorem kts_own_name (l d : List UInt8) (hd : l.dropWhile blankB = d) (h : 0 < nameL d) : kts (d.take (nameL d)) = [(1, d.take (nameL d), true), (0, [], true)] := by
  have hle := nameL_le' d
  obtain ⟨m, hm⟩ : ∃ m, nameL d = m + 1 := ⟨nameL d - 1, by omega⟩
  rcases dropW_head blankB l with h0 | ⟨c, e, h0, hc⟩
  · rw [hd] at h0
    subst h0
    simp at hle
    omega
  · rw [hd] at h0
    have hw : (d.take (nameL d)).dropWhile blankB = d.take (nameL d) := by
      rw [hm, h0]
      simp [List.dropWhile, hc]
    have hn : d.take (nameL d) ≠ [] := by
      rw [hm, h0]
      simp
    have hl : (d.take (nameL d)).length = nameL d := by rw [List.length_take]; omega
    rw [kts_eq, hw, if_neg hn, nameL_take d h, if_pos h, List.take_take, Nat.min_self, List.drop_of_length_le (by omega), kts_nil]
theorem kts_own_sign : ∀ x ∈ sgs, kts x = [(2, x, true), (0, [], true)] := by decide

/-- All texts with a blank ahead of each. -/
def joined : List (Int × List UInt8 × Bool) → List UInt8
  | [] => []
  | x :: xs => 32 :: (x.2.1 ++ joined xs)
theorem joined_one (x : List UInt8) (k : Int) (h : kts x = [(k, x, true), (0, [], true)]) (l : List (Int × List UInt8 × Bool)) (hl : l ≠ []) : kts (joined ((k, x, true) :: l)) = (k, x, true) :: kts (joined l) := by
  obtain ⟨y, ys, rfl⟩ : ∃ y ys, l = y :: ys := by
    cases l with
    | nil => exact absurd rfl hl
    | cons y ys => exact ⟨y, ys, rfl⟩
  have hb : ktsBad x = false := by unfold ktsBad; rw [h]; rfl
  have e : joined ((k, x, true) :: y :: ys) = 32 :: (x ++ 32 :: (y.2.1 ++ joined ys)) := rfl
  have e2 : kts (joined (y :: ys)) = kts (y.2.1 ++ joined ys) := kts_blank 32 _ (by decide)
  rw [e, kts_blank 32 _ (by decide), (kts_sp _ x _ (Nat.lt_succ_self _)).1 hb, h, e2]
  rfl
theorem kts_joined : ∀ (n : Nat) (l : List UInt8), l.length < n → ktsBad l = false → kts (joined (kts l)) = kts l
  | 0, l, h, _ => by omega
  | n + 1, l, h, hb => by
    have hd := dropW_le blankB l
    have e := kts_eq l
    by_cases h0 : l.dropWhile blankB = []
    · rw [if_pos h0] at e
      rw [e]
      decide
    · have hp : 0 < (l.dropWhile blankB).length := List.length_pos_iff.2 h0
      rw [if_neg h0] at e
      have key : ∀ (k : Int) (m : Nat), 0 < m → kts ((l.dropWhile blankB).take m) = [(k, (l.dropWhile blankB).take m, true), (0, [], true)] → kts l = (k, (l.dropWhile blankB).take m, true) :: kts ((l.dropWhile blankB).drop m) → kts (joined (kts l)) = kts l := fun k m hm ho e1 => by
        have hb' : ktsBad ((l.dropWhile blankB).drop m) = false := by
          unfold ktsBad at hb ⊢
          rw [e1] at hb
          simpa using hb
        rw [e1, joined_one _ _ ho _ (kts_ne _), kts_joined n _ (by rw [List.length_drop]; omega) hb']
      by_cases h1 : 0 < nameL (l.dropWhile blankB)
      · rw [if_pos h1] at e
        exact key 1 _ h1 (kts_own_name l _ rfl h1) e
      · rw [if_neg h1] at e
        by_cases h2 : 0 < signL (l.dropWhile blankB)
        · rw [if_pos h2] at e
          exact key 2 _ h2 (kts_own_sign _ (signL_mem _ h2).1) e
        · rw [if_neg h2] at e
          unfold ktsBad at hb
          rw [e] at hb
          cases hb

/-- Where tokens stand. -/
theorem items_place : ∀ (n : Nat) (l : List UInt8) (a : Nat), l.length < n → ∀ x ∈ items l a, a ≤ x.1.place ∧ x.1.place + x.1.text.length ≤ a + l.length ∧ (l.drop (x.1.place - a)).take x.1.text.length = x.1.text ∧ (x.2 = false → x.1.place < a + l.length)
  | 0, l, a, h => by omega
  | n + 1, l, a, h => by
    have hd := dropW_le blankB l
    have hdl : l.drop (l.length - (l.dropWhile blankB).length) = l.dropWhile blankB := by
      obtain ⟨t, ht⟩ := List.dropWhile_suffix blankB (l := l)
      have : l.length - (l.dropWhile blankB).length = t.length := by
        have := congrArg List.length ht
        rw [List.length_append] at this
        omega
      rw [this]
      conv => lhs; rw [← ht]
      exact List.drop_left
    generalize hD : l.dropWhile blankB = d at hd hdl
    intro x hx
    rw [items_eq, hD] at hx
    by_cases h0 : d = []
    · rw [if_pos h0, List.mem_singleton] at hx
      subst hx
      refine ⟨by simp, by simp [h0], by simp, by simp⟩
    · have hp : 0 < d.length := List.length_pos_iff.2 h0
      rw [if_neg h0] at hx
      have key : ∀ (k : Int) (m : Nat), 0 < m → m ≤ d.length → x ∈ (((⟨k, d.take m, a + (l.length - d.length)⟩, true) : Tk × Bool) :: items (d.drop m) (a + (l.length - d.length) + m)) →
          a ≤ x.1.place ∧ x.1.place + x.1.text.length ≤ a + l.length ∧ (l.drop (x.1.place - a)).take x.1.text.length = x.1.text ∧ (x.2 = false → x.1.place < a + l.length) := fun k m hm hml hx => by
        rcases List.mem_cons.1 hx with rfl | hx
        · have e : (d.take m).length = m := by rw [List.length_take]; omega
          refine ⟨by simp, by simp only [e]; omega, ?_, by simp⟩
          simp only [e]
          rw [Nat.add_sub_cancel_left, hdl]
        · obtain ⟨p1, p2, p3, p4⟩ := items_place n (d.drop m) _ (by rw [List.length_drop]; omega) x hx
          rw [List.length_drop] at p2 p4
          refine ⟨by omega, by omega, ?_, fun h => by have := p4 h; omega⟩
          have e : l.drop (x.1.place - a) = (d.drop m).drop (x.1.place - (a + (l.length - d.length) + m)) := by
            rw [← hdl, List.drop_drop, List.drop_drop]
            congr 1
            rw [hdl]
            omega
          rw [e]
          exact p3
      by_cases h1 : 0 < nameL d
      · rw [if_pos h1] at hx
        exact key 1 _ h1 (nameL_le' d) hx
      · rw [if_neg h1] at hx
        by_cases h2 : 0 < signL d
        · rw [if_pos h2] at hx
          exact key 2 _ h2 (signL_mem d h2).2 hx
        · rw [if_neg h2, List.mem_singleton] at hx
          subst hx
          refine ⟨by simp, by simp only [List.length_nil]; omega, by simp, fun _ => by simp only []; omega⟩
end Go.Proofs.YtijecfmblddanaaDoor

set_option linter.unusedVariables false
set_option linter.unusedSimpArgs false
namespace Go.Proofs.YtijecfmblddanaaDoor

/-- A token: its kind and text. -/
abbrev KT := Int × List UInt8
def ktOf (x : Tk) : KT := (x.kind, x.text)
/-- What parsing a piece gives: a formula and what is left, or an error and how many tokens are left. -/
inductive PR where
  | ok (f : Fm) (t : List KT)
  | bad (e : Int) (m : Nat)
def PR.bind (r : PR) (k : Fm → List KT → PR) : PR := match r with
  | .ok f t => k f t
  | .bad e m => .bad e m
theorem PR.bind_ok (f : Fm) (t : List KT) (k : Fm → List KT → PR) : (PR.ok f t).bind k = k f t := rfl
theorem PR.bind_bad (e : Int) (m : Nat) (k : Fm → List KT → PR) : (PR.bad e m).bind k = .bad e m := rfl
/-- Does a text stand here? -/
def takes (s : List UInt8) : List KT → Bool
  | [] => false
  | x :: _ => !decide (x.1 = 0) && decide (x.2 = s)
def hdT (t : List KT) : KT := t.headD (0, [])
/-- The kind of one part, by its word; 0: none. -/
def unaryK (s : List UInt8) : Int :=
  if s = [33] then 4 else if s = [69, 88] then 9 else if s = [65, 88] then 10 else if s = [69, 70] then 11 else if s = [65, 70] then 12 else if s = [69, 71] then 13 else if s = [65, 71] then 14 else 0
def needP (s : List UInt8) (t : List KT) (k : List KT → PR) : PR := if takes s t then k t.tail else .bad 41 t.length
def chainL (g : List KT → PR) (s : List UInt8) (kd : Int) : Nat → Fm → List KT → PR
  | 0, f, t => .ok f t
  | n + 1, f, t => if takes s t then (g t.tail).bind fun f2 t2 => chainL g s kd n (.mk kd [] 0 [f, f2]) t2 else .ok f t
/-- Parts with a sign between. -/
def chainP (g : List KT → PR) (s : List UInt8) (kd : Int) (t : List KT) : PR := (g t).bind fun f t' => chainL g s kd t'.length f t'
/-- What stands in brackets. -/
def untilP (g : List KT → PR) (u r : Int) (t : List KT) : PR :=
  needP [91] t fun t1 => (g t1).bind fun a t2 =>
    if takes [82] t2 then (g t2.tail).bind fun b t4 => needP [93] t4 fun t5 => .ok (.mk r [] 0 [a, b]) t5
    else needP [85] t2 fun t3 => (g t3).bind fun b t4 => needP [93] t4 fun t5 => .ok (.mk u [] 0 [a, b]) t5
/-- A name without its quotes. -/
def unq (s : List UInt8) : List UInt8 := if s.head? = some 34 then (s.take (s.length - 1)).drop 1 else s
def atomP (t : List KT) : PR := if (hdT t).1 = 1 ∧ keyB (hdT t).2 = false then .ok (.mk 3 (unq (hdT t).2) 0 []) t.tail else .bad 41 t.length
mutual
def partP : Nat → Int → List KT → PR
  | 0, _, _ => .bad 0 0
  | n + 1, d, t =>
    if 200 < d then .bad 2 0
    else if unaryK (hdT t).2 ≠ 0 then (partP n (d + 1) t.tail).bind fun f t' => .ok (.mk (unaryK (hdT t).2) [] 0 [f]) t'
    else if takes [40] t then (wholeP n (d + 1) t.tail).bind fun f t' => needP [41] t' fun t'' => .ok f t''
    else if takes [69] t then untilP (wholeP n (d + 1)) 15 17 t.tail
    else if takes [65] t then untilP (wholeP n (d + 1)) 16 18 t.tail
    else if takes [116, 114, 117, 101] t then .ok (.mk 2 [] 0 []) t.tail
    else if takes [102, 97, 108, 115, 101] t then .ok (.mk 1 [] 0 []) t.tail
    else atomP t
def implyP : Nat → Int → List KT → PR
  | 0, _, _ => .bad 0 0
  | n + 1, d, t => (chainP (chainP (partP n d) [38] 5) [124] 6 t).bind fun f t' =>
    if takes [45, 62] t' then (implyP n (d + 1) t'.tail).bind fun g t'' => .ok (.mk 7 [] 0 [f, g]) t'' else .ok f t'
def wholeP : Nat → Int → List KT → PR
  | 0, _, _ => .bad 0 0
  | n + 1, d, t => if 200 < d then .bad 2 0 else chainP (implyP n d) [60, 45, 62] 8 t
end
def fm0 : Fm := .mk 0 [] 0 []
/-- The formula of tokens, or the error and how many tokens are left. -/
def finT : PR → Fm × Int × Nat
  | .bad e m => (fm0, e, m)
  | .ok f t' => if (hdT t').1 ≠ 0 then (fm0, 41, t'.length) else if f.ok then (f, 0, 0) else (fm0, 2, 0)
theorem finT_bad (e : Int) (m : Nat) : finT (.bad e m) = (fm0, e, m) := rfl
theorem finT_ok (f : Fm) (t : List KT) : finT (.ok f t) = if (hdT t).1 ≠ 0 then (fm0, 41, t.length) else if f.ok then (f, 0, 0) else (fm0, 2, 0) := rfl
def parseT (t : List KT) : Fm × Int × Nat := finT (wholeP (3 * t.length + 3) 0 t)
def tokPlace (l : List Tk) (e : Int) (m : Nat) : Nat := if e = 41 then ((l[l.length - m]?).map Tk.place).getD 0 else 0
/-- The formula of a text, or the error and its place. -/
def parseOf (s : List UInt8) : Fm × Int × Nat :=
  if 20000 < s.length then (fm0, 2, 0) else if lexBad s then (fm0, 40, lexPlace s)
  else ((parseT ((lexToks s).map ktOf)).1, (parseT ((lexToks s).map ktOf)).2.1, tokPlace (lexToks s) (parseT ((lexToks s).map ktOf)).2.1 (parseT ((lexToks s).map ktOf)).2.2)
end Go.Proofs.YtijecfmblddanaaDoor

set_option linter.unusedVariables false
set_option linter.unusedSimpArgs false
namespace Go.Proofs.YtijecfmblddanaaDoor

/-- A token of a printed formula, as Lex tells it. -/
def up (x : KT) : Int × List UInt8 × Bool := (x.1, x.2, true)
/-- No name goes on here. -/
def stopN (r : List UInt8) : Prop := ∀ c, r.head? = some c → letterB c = false
theorem stopN_nil : stopN [] := fun c h => by simp at h
theorem stopN_app {c : UInt8} {r : List UInt8} (h : letterB c = false) : stopN ([c] ++ r) := fun b hb => by
  have : c = b := by simpa using hb
  rw [← this]; exact h
theorem stopN_cons {c : UInt8} {r : List UInt8} (h : letterB c = false) : stopN (c :: r) := fun b hb => by
  have : c = b := by simpa using hb
  rw [← this]; exact h

theorem letter_not_blank (c : UInt8) (h : letterB c = true) : blankB c = false := by
  unfold letterB at h
  unfold blankB
  simp only [Bool.or_eq_true, Bool.and_eq_true, decide_eq_true_eq] at h
  simp only [Bool.or_eq_false_iff, decide_eq_false_iff_not]
  omega
theorem letter_not_quote (c : UInt8) (h : letterB c = true) : c.toNat ≠ 34 := by
  unfold letterB at h
  simp only [Bool.or_eq_true, Bool.and_eq_true, decide_eq_true_eq] at h
  omega
theorem runL_app (p : UInt8 → Bool) (w r : List UInt8) (hw : w.all p = true) (hr : ∀ c, r.head? = some c → p c = false) : runL p (w ++ r) = w.length := by
  refine runL_at p (w ++ r) w.length (fun j b hj hb => ?_) (by simp) ?_
  · rw [List.getElem?_append_left hj] at hb
    exact List.all_eq_true.1 hw b (List.mem_of_getElem? hb)
  · cases r with
    | nil => exact .inl (by simp)
    | cons c r => exact .inr ⟨c, by simp, hr c rfl⟩
theorem kts_word (w r : List UInt8) (h0 : w ≠ []) (hw : w.all letterB = true) (hr : stopN r) : kts (w ++ r) = (1, w, true) :: kts r := by
  have hrun := runL_app letterB w r hw hr
  obtain ⟨c, w', rfl⟩ : ∃ c w', w = c :: w' := by
    cases w with
    | nil => exact absurd rfl h0
    | cons c w' => exact ⟨c, w', rfl⟩
  have hc : letterB c = true := by simp at hw; exact hw.1
  have hd : (c :: w' ++ r).dropWhile blankB = c :: w' ++ r := by simp [List.dropWhile, letter_not_blank c hc]
  have hn : nameL (c :: w' ++ r) = (c :: w').length := by
    unfold nameL
    rw [if_neg (by simp; exact letter_not_quote c hc), hrun]
  rw [kts_eq, hd, if_neg (by simp), hn, if_pos (by simp), List.take_left, List.drop_left]
theorem inner_of {nm : List UInt8} (h : wordB nm = true) : nm.all innerB = true := by
  unfold wordB at h
  simp only [Bool.and_eq_true, decide_eq_true_eq, List.all_eq_true] at h
  refine List.all_eq_true.2 fun c hc => ?_
  have := h.1.1 c hc
  unfold innerB
  simp only [Bool.and_eq_true, decide_eq_true_eq, Bool.not_eq_true', decide_eq_false_iff_not] at this ⊢
  omega
theorem kts_quot (nm r : List UInt8) (h : wordB nm = true) : kts (34 :: (nm ++ [34]) ++ r) = (1, 34 :: (nm ++ [34]), true) :: kts r := by
  have hin := inner_of h
  have hpos : 0 < nm.length := by
    unfold wordB at h
    simp only [Bool.and_eq_true, decide_eq_true_eq] at h
    exact h.1.2
  have e : 34 :: (nm ++ [34]) ++ r = 34 :: (nm ++ (34 :: r)) := by simp
  have hrun : runL innerB (nm ++ (34 :: r)) = nm.length := runL_app innerB nm (34 :: r) hin (fun c hc => by
    have : (34 : UInt8) = c := by simpa using hc
    rw [← this]; decide)
  have hd : (34 :: (nm ++ (34 :: r))).dropWhile blankB = 34 :: (nm ++ (34 :: r)) := by
    have : blankB 34 = false := by decide
    simp [List.dropWhile, this]
  have hq : quotL (34 :: (nm ++ (34 :: r))) = nm.length + 2 := by
    unfold quotL
    simp only [List.drop_succ_cons, List.drop_zero, hrun]
    rw [if_neg (by omega), if_pos ?_]
    · omega
    · rw [show 1 + nm.length = nm.length + 1 by omega, List.getElem?_cons_succ, List.getElem?_append_right (Nat.le_refl _), Nat.sub_self]
      rfl
  have hn : nameL (34 :: (nm ++ (34 :: r))) = nm.length + 2 := by
    unfold nameL
    rw [if_pos (by simp), hq]
  have hl : (34 :: (nm ++ [34])).length = nm.length + 2 := by simp
  rw [e, kts_eq, hd, if_neg (by simp), hn, if_pos (by omega), ← e, ← hl, List.take_left, List.drop_left]
/-- A sign ahead. -/
theorem kts_sign (x r : List UInt8) (hx : x ∈ sgs) : kts (x ++ r) = (2, x, true) :: kts r := by
  have key : (x ++ r).dropWhile blankB = x ++ r ∧ nameL (x ++ r) = 0 ∧ signL (x ++ r) = x.length ∧ 0 < x.length := by
    have h60 : letterB 60 = false := by decide
    have h45 : letterB 45 = false := by decide
    have h33 : letterB 33 = false := by decide
    have h38 : letterB 38 = false := by decide
    have h124 : letterB 124 = false := by decide
    have h40 : letterB 40 = false := by decide
    have h41 : letterB 41 = false := by decide
    have h91 : letterB 91 = false := by decide
    have h93 : letterB 93 = false := by decide
    have b60 : blankB 60 = false := by decide
    have b45 : blankB 45 = false := by decide
    have b33 : blankB 33 = false := by decide
    have b38 : blankB 38 = false := by decide
    have b124 : blankB 124 = false := by decide
    have b40 : blankB 40 = false := by decide
    have b41 : blankB 41 = false := by decide
    have b91 : blankB 91 = false := by decide
    have b93 : blankB 93 = false := by decide
    simp only [sgs, List.mem_cons, List.not_mem_nil, or_false] at hx
    rcases hx with rfl | rfl | rfl | rfl | rfl | rfl | rfl | rfl | rfl <;>
      simp [nameL, runL, List.takeWhile, List.dropWhile, signL, sgs, List.find?, List.isPrefixOf, *]
  obtain ⟨h1, h2, h3, h4⟩ := key
  have hne : x ++ r ≠ [] := by
    cases x with
    | nil => simp at h4
    | cons c x => simp
  rw [kts_eq, h1, if_neg hne, h2, if_neg (by omega), h3, if_pos h4, List.take_left, List.drop_left]

/-- A printed formula's tokens. -/
def parK (k : Int) (t : List KT) : List KT := if 5 ≤ k ∧ k ≤ 8 then (2, [40]) :: (t ++ [(2, [41])]) else t
/-- The sign between two parts. -/
def sgnK (k : Int) : List UInt8 := if k = 5 then [38] else if k = 6 then [124] else if k = 7 then [45, 62] else [60, 45, 62]
def unaW (k : Int) : KT := if k = 4 then (2, [33]) else (1, ((shp k).1).take 2)
def untA (k : Int) : List UInt8 := if k = 15 ∨ k = 17 then [69] else [65]
def untU (k : Int) : List UInt8 := if k = 15 ∨ k = 16 then [85] else [82]
def shT (k : Int) : List (List KT) → List KT
  | [] => [(1, (shp k).1)]
  | [a] => unaW k :: a
  | [a, b] => if 5 ≤ k ∧ k ≤ 8 then a ++ (2, sgnK k) :: b else (1, untA k) :: (2, [91]) :: (a ++ (1, untU k) :: (b ++ [(2, [93])]))
  | _ => []
mutual
def Fm.tks : Fm → List KT
  | .mk k nm _ ks => if k = 3 then [(1, atomT nm)] else shT k (partsT ks)
def partsT : List Fm → List (List KT)
  | [] => []
  | f :: fs => parK f.kind f.tks :: partsT fs
end
def Fm.ptk (f : Fm) : List KT := parK f.kind f.tks

/-- What a formula that may be looks like. -/
theorem Fm.wf_cases {f : Fm} {d : Int} (h : f.wf d = true) : 1 ≤ d ∧ f.lit = 0 ∧
    ((f.kind = 3 ∧ wordB f.name = true ∧ f.kids = []) ∨ ((f.kind = 1 ∨ f.kind = 2) ∧ f.name = [] ∧ f.kids = []) ∨
     ((f.kind = 4 ∨ f.kind = 9 ∨ f.kind = 10 ∨ f.kind = 11 ∨ f.kind = 12 ∨ f.kind = 13 ∨ f.kind = 14) ∧ f.name = [] ∧ ∃ a, f.kids = [a] ∧ a.wf (d - 1) = true) ∨
     ((f.kind = 5 ∨ f.kind = 6 ∨ f.kind = 7 ∨ f.kind = 8) ∧ f.name = [] ∧ ∃ a b, f.kids = [a, b] ∧ a.wf (d - 1) = true ∧ b.wf (d - 1) = true) ∨
     ((f.kind = 15 ∨ f.kind = 16 ∨ f.kind = 17 ∨ f.kind = 18) ∧ f.name = [] ∧ ∃ a b, f.kids = [a, b] ∧ a.wf (d - 1) = true ∧ b.wf (d - 1) = true)) := by
  rw [f.wf_eq] at h
  simp only [Bool.and_eq_true, decide_eq_true_eq] at h
  obtain ⟨⟨⟨⟨h1, h2⟩, h3⟩, h4⟩, h5⟩ := h
  refine ⟨h1, h3, ?_⟩
  by_cases k3 : f.kind = 3
  · rw [if_pos k3] at h4
    rw [k3] at h2
    have : f.kids = [] := by
      have e : nk 3 = 0 := rfl
      rw [e] at h2
      exact List.eq_nil_of_length_eq_zero (by omega)
    exact .inl ⟨k3, h4, this⟩
  · rw [if_neg k3] at h4
    have h4' : f.name = [] := of_decide_eq_true h4
    have hn0 : 0 ≤ nk f.kind := by omega
    have hr : 1 ≤ f.kind ∧ f.kind ≤ 18 := by
      unfold nk at hn0
      split at hn0
      · omega
      · omega
    have one : nk f.kind = 1 → ∃ a, f.kids = [a] ∧ a.wf (d - 1) = true := fun e => by
      rw [e] at h2
      have h2' : f.kids.length = 1 := by omega
      obtain ⟨a, ha⟩ : ∃ a, f.kids = [a] := by
        match f.kids, h2' with
        | [a], _ => exact ⟨a, rfl⟩
      rw [ha] at h5
      simp only [wfL, Bool.and_true] at h5
      exact ⟨a, ha, h5⟩
    have two : nk f.kind = 2 → ∃ a b, f.kids = [a, b] ∧ a.wf (d - 1) = true ∧ b.wf (d - 1) = true := fun e => by
      rw [e] at h2
      have h2' : f.kids.length = 2 := by omega
      obtain ⟨a, b, ha⟩ : ∃ a b, f.kids = [a, b] := by
        match f.kids, h2' with
        | [a, b], _ => exact ⟨a, b, rfl⟩
      rw [ha] at h5
      simp only [wfL, Bool.and_true, Bool.and_eq_true] at h5
      exact ⟨a, b, ha, h5.1, h5.2⟩
    have zero : nk f.kind = 0 → f.kids = [] := fun e => List.eq_nil_of_length_eq_zero (by omega)
    by_cases c1 : f.kind ≤ 2
    · exact .inr (.inl ⟨by omega, h4', zero (by unfold nk; rw [if_neg (by omega), if_pos (by omega)])⟩)
    · by_cases c2 : f.kind = 4 ∨ (9 ≤ f.kind ∧ f.kind ≤ 14)
      · exact .inr (.inr (.inl ⟨by omega, h4', one (by unfold nk; rw [if_neg (by omega), if_neg (by omega), if_pos c2])⟩))
      · by_cases c3 : f.kind ≤ 8
        · exact .inr (.inr (.inr (.inl ⟨by omega, h4', two (by unfold nk; rw [if_neg (by omega), if_neg (by omega), if_neg c2])⟩)))
        · exact .inr (.inr (.inr (.inr ⟨by omega, h4', two (by unfold nk; rw [if_neg (by omega), if_neg (by omega), if_neg c2])⟩)))

theorem Fm.tks_eq (f : Fm) : f.tks = if f.kind = 3 then [(1, atomT f.name)] else shT f.kind (f.kids.map Fm.ptk) := by
  have : ∀ l : List Fm, partsT l = l.map Fm.ptk := fun l => by
    induction l with
    | nil => simp only [partsT, List.map_nil]
    | cons g l ih => simp only [partsT, List.map_cons, ih, Fm.ptk]
  cases f with
  | mk k nm lt ks =>
    rw [Fm.tks, this]
    rfl

theorem wordB_ne {s : List UInt8} (h : wordB s = true) : s ≠ [] := by
  unfold wordB at h
  simp only [Bool.and_eq_true, decide_eq_true_eq] at h
  intro e
  rw [e] at h
  exact absurd h.1.2 (by decide)
theorem kts_atom (nm r : List UInt8) (h : wordB nm = true) (hr : stopN r) : kts (atomT nm ++ r) = (1, atomT nm, true) :: kts r := by
  unfold atomT
  by_cases hp : plainB nm = true
  · rw [if_pos hp]
    unfold plainB at hp
    simp only [Bool.and_eq_true] at hp
    exact kts_word nm r (wordB_ne h) hp.1 hr
  · rw [if_neg hp]
    exact kts_quot nm r h

theorem s32 : letterB 32 = false := by decide
theorem s41 : letterB 41 = false := by decide
theorem s93 : letterB 93 = false := by decide
theorem b32 : blankB 32 = true := by decide

/-- Lex of a printed formula, and of a part. -/
theorem kts_txt : ∀ (n : Nat) (f : Fm), f.sz < n → ∀ (d : Int), f.wf d = true → (∀ r, stopN r → kts (f.txt ++ r) = f.tks.map up ++ kts r) ∧ (∀ r, stopN r → kts (f.part ++ r) = f.ptk.map up ++ kts r)
  | 0, f, h, d, _ => by omega
  | n + 1, f, h, d, hw => by
    have hT : ∀ r, stopN r → kts (f.txt ++ r) = f.tks.map up ++ kts r := by
      intro r hr
      obtain ⟨h1, hl, hc⟩ := Fm.wf_cases hw
      rw [f.txt_eq, f.tks_eq]
      rcases hc with ⟨k, hnm, hk⟩ | ⟨k, hnm, hk⟩ | ⟨k, hnm, a, hk, ha⟩ | ⟨k, hnm, a, b, hk, ha, hb⟩ | ⟨k, hnm, a, b, hk, ha, hb⟩
      · rw [if_pos k, if_pos k, kts_atom _ _ hnm hr]
        rfl
      · have k3 : ¬ f.kind = 3 := by omega
        rw [if_neg k3, if_neg k3, hk]
        rcases k with k | k
        · rw [k]
          exact kts_word [102, 97, 108, 115, 101] r (by decide) (by decide) hr
        · rw [k]
          exact kts_word [116, 114, 117, 101] r (by decide) (by decide) hr
      · have k3 : ¬ f.kind = 3 := by omega
        have ia := (kts_txt n a (by have := f.kid_sz (k := a) (by rw [hk]; simp); omega) (d - 1) ha).2
        rw [if_neg k3, if_neg k3, hk]
        have e2 : ∀ c1 c2 : UInt8, [c1, c2].all letterB = true → kts ([c1, c2, 32] ++ (a.part ++ r)) = (1, [c1, c2], true) :: (a.ptk.map up ++ kts r) := fun c1 c2 hc => by
          rw [show [c1, c2, 32] ++ (a.part ++ r) = [c1, c2] ++ (32 :: (a.part ++ r)) by simp, kts_word _ _ (by simp) hc (stopN_cons s32), kts_blank _ _ b32, ia r hr]
        rcases k with k | k | k | k | k | k | k <;> rw [k]
        · show kts (([33] ++ ((a.part ++ []) ++ [])) ++ r) = _
          rw [show ([33] ++ ((a.part ++ []) ++ [])) ++ r = [33] ++ (a.part ++ r) by simp, kts_sign [33] _ (by decide), ia r hr]
          rfl
        · show kts (([69, 88, 32] ++ ((a.part ++ []) ++ [])) ++ r) = _
          rw [show ([69, 88, 32] ++ ((a.part ++ []) ++ [])) ++ r = [69, 88, 32] ++ (a.part ++ r) by simp, e2 _ _ (by decide)]
          rfl
        · show kts (([65, 88, 32] ++ ((a.part ++ []) ++ [])) ++ r) = _
          rw [show ([65, 88, 32] ++ ((a.part ++ []) ++ [])) ++ r = [65, 88, 32] ++ (a.part ++ r) by simp, e2 _ _ (by decide)]
          rfl
        · show kts (([69, 70, 32] ++ ((a.part ++ []) ++ [])) ++ r) = _
          rw [show ([69, 70, 32] ++ ((a.part ++ []) ++ [])) ++ r = [69, 70, 32] ++ (a.part ++ r) by simp, e2 _ _ (by decide)]
          rfl
        · show kts (([65, 70, 32] ++ ((a.part ++ []) ++ [])) ++ r) = _
          rw [show ([65, 70, 32] ++ ((a.part ++ []) ++ [])) ++ r = [65, 70, 32] ++ (a.part ++ r) by simp, e2 _ _ (by decide)]
          rfl
        · show kts (([69, 71, 32] ++ ((a.part ++ []) ++ [])) ++ r) = _
          rw [show ([69, 71, 32] ++ ((a.part ++ []) ++ [])) ++ r = [69, 71, 32] ++ (a.part ++ r) by simp, e2 _ _ (by decide)]
          rfl
        · show kts (([65, 71, 32] ++ ((a.part ++ []) ++ [])) ++ r) = _
          rw [show ([65, 71, 32] ++ ((a.part ++ []) ++ [])) ++ r = [65, 71, 32] ++ (a.part ++ r) by simp, e2 _ _ (by decide)]
          rfl
      · have k3 : ¬ f.kind = 3 := by omega
        have ia := (kts_txt n a (by have := f.kid_sz (k := a) (by rw [hk]; simp); omega) (d - 1) ha).2
        have ib := (kts_txt n b (by have := f.kid_sz (k := b) (by rw [hk]; simp); omega) (d - 1) hb).2
        rw [if_neg k3, if_neg k3, hk]
        have e2 : ∀ s : List UInt8, s ∈ sgs → kts ((a.part ++ ((32 :: (s ++ [32])) ++ b.part)) ++ r) = a.ptk.map up ++ (2, s, true) :: (b.ptk.map up ++ kts r) := fun s hs => by
          rw [show (a.part ++ ((32 :: (s ++ [32])) ++ b.part)) ++ r = a.part ++ (32 :: (s ++ (32 :: (b.part ++ r)))) by simp, ia _ (stopN_cons s32), kts_blank _ _ b32, kts_sign s _ hs, kts_blank _ _ b32, ib r hr]
        rcases k with k | k | k | k <;> rw [k]
        · show kts (([] ++ ((a.part ++ (([32, 38, 32] ++ b.part) ++ [])) ++ [])) ++ r) = _
          rw [show ([] ++ ((a.part ++ (([32, 38, 32] ++ b.part) ++ [])) ++ [])) ++ r = (a.part ++ ((32 :: ([38] ++ [32])) ++ b.part)) ++ r by simp, e2 [38] (by decide)]
          simp [shT, sgnK, up]
        · show kts (([] ++ ((a.part ++ (([32, 124, 32] ++ b.part) ++ [])) ++ [])) ++ r) = _
          rw [show ([] ++ ((a.part ++ (([32, 124, 32] ++ b.part) ++ [])) ++ [])) ++ r = (a.part ++ ((32 :: ([124] ++ [32])) ++ b.part)) ++ r by simp, e2 [124] (by decide)]
          simp [shT, sgnK, up]
        · show kts (([] ++ ((a.part ++ (([32, 45, 62, 32] ++ b.part) ++ [])) ++ [])) ++ r) = _
          rw [show ([] ++ ((a.part ++ (([32, 45, 62, 32] ++ b.part) ++ [])) ++ [])) ++ r = (a.part ++ ((32 :: ([45, 62] ++ [32])) ++ b.part)) ++ r by simp, e2 [45, 62] (by decide)]
          simp [shT, sgnK, up]
        · show kts (([] ++ ((a.part ++ (([32, 60, 45, 62, 32] ++ b.part) ++ [])) ++ [])) ++ r) = _
          rw [show ([] ++ ((a.part ++ (([32, 60, 45, 62, 32] ++ b.part) ++ [])) ++ [])) ++ r = (a.part ++ ((32 :: ([60, 45, 62] ++ [32])) ++ b.part)) ++ r by simp, e2 [60, 45, 62] (by decide)]
          simp [shT, sgnK, up]
      · have k3 : ¬ f.kind = 3 := by omega
        have ia := (kts_txt n a (by have := f.kid_sz (k := a) (by rw [hk]; simp); omega) (d - 1) ha).2
        have ib := (kts_txt n b (by have := f.kid_sz (k := b) (by rw [hk]; simp); omega) (d - 1) hb).2
        rw [if_neg k3, if_neg k3, hk]
        have e2 : ∀ A U : UInt8, letterB A = true → letterB U = true → kts (([A, 32, 91] ++ ((a.part ++ (([32, U, 32] ++ b.part) ++ [])) ++ [93])) ++ r) = (1, [A], true) :: (2, [91], true) :: (a.ptk.map up ++ (1, [U], true) :: (b.ptk.map up ++ (2, [93], true) :: kts r)) := fun A U hA hU => by
          rw [show ([A, 32, 91] ++ ((a.part ++ (([32, U, 32] ++ b.part) ++ [])) ++ [93])) ++ r = [A] ++ (32 :: ([91] ++ (a.part ++ (32 :: ([U] ++ (32 :: (b.part ++ ([93] ++ r)))))))) by simp,
            kts_word [A] _ (by simp) (by simp [hA]) (stopN_cons s32), kts_blank _ _ b32, kts_sign [91] _ (by decide), ia _ (stopN_cons s32), kts_blank _ _ b32, kts_word [U] _ (by simp) (by simp [hU]) (stopN_cons s32), kts_blank _ _ b32, ib _ (stopN_app s93), kts_sign [93] _ (by decide)]
        rcases k with k | k | k | k <;> rw [k]
        · exact (e2 69 85 (by decide) (by decide)).trans (by simp [shT, untA, untU, up])
        · exact (e2 65 85 (by decide) (by decide)).trans (by simp [shT, untA, untU, up])
        · exact (e2 69 82 (by decide) (by decide)).trans (by simp [shT, untA, untU, up])
        · exact (e2 65 82 (by decide) (by decide)).trans (by simp [shT, untA, untU, up])
    refine ⟨hT, fun r hr => ?_⟩
    unfold Fm.part Fm.ptk parT parK
    by_cases hk : 5 ≤ f.kind ∧ f.kind ≤ 8
    · rw [if_pos hk, if_pos hk, show 40 :: (f.txt ++ [41]) ++ r = [40] ++ (f.txt ++ ([41] ++ r)) by simp, kts_sign [40] _ (by decide), hT _ (stopN_app s41), kts_sign [41] _ (by decide)]
      simp [up]
    · rw [if_neg hk, if_neg hk]
      exact hT r hr
end Go.Proofs.YtijecfmblddanaaDoor

set_option linter.unusedVariables false
set_option linter.unusedSimpArgs false
namespace Go.Proofs.YtijecfmblddanaaDoor

def stopT (r : List KT) : Prop := takes [38] r = false ∧ takes [124] r = false ∧ takes [45, 62] r = false ∧ takes [60, 45, 62] r = false

theorem takes_len {s : List UInt8} {t : List KT} (h : takes s t = true) : ∃ x r, t = x :: r := by
  cases t with
  | nil => simp [takes] at h
  | cons x r => exact ⟨x, r, rfl⟩
theorem chainL_stop (g : List KT → PR) (s : List UInt8) (kd : Int) (n : Nat) (f : Fm) (t : List KT) (h : takes s t = false) : chainL g s kd n f t = .ok f t := by
  cases n with
  | zero => rfl
  | succ n => rw [chainL, if_neg (by rw [h]; decide)]
theorem chain_one {g : List KT → PR} {s : List UInt8} {kd : Int} {t t' : List KT} {f : Fm} (h : g t = .ok f t') (hs : takes s t' = false) : chainP g s kd t = .ok f t' := by
  unfold chainP
  rw [h, PR.bind_ok, chainL_stop _ _ _ _ _ _ hs]
theorem chain_two {g : List KT → PR} {s : List UInt8} {kd : Int} {t t1 t2 : List KT} {a b : Fm} (h : g t = .ok a t1) (h1 : takes s t1 = true) (h2 : g t1.tail = .ok b t2) (hs : takes s t2 = false) : chainP g s kd t = .ok (.mk kd [] 0 [a, b]) t2 := by
  obtain ⟨x, r, rfl⟩ := takes_len h1
  unfold chainP
  rw [h, PR.bind_ok]
  show chainL g s kd (r.length + 1) a (x :: r) = _
  rw [chainL, if_pos h1, h2, PR.bind_ok, chainL_stop _ _ _ _ _ _ hs]
theorem imply_one {n : Nat} {d : Int} {t r : List KT} {f : Fm} (h : partP n d t = .ok f r) (h1 : takes [38] r = false) (h2 : takes [124] r = false) (h3 : takes [45, 62] r = false) : implyP (n + 1) d t = .ok f r := by
  rw [implyP, chain_one (chain_one h h1) h2, PR.bind_ok, if_neg (by rw [h3]; decide)]
theorem whole_one {n : Nat} {d : Int} {t r : List KT} {f : Fm} (hd : d ≤ 200) (h : partP n d t = .ok f r) (hs : stopT r) : wholeP (n + 2) d t = .ok f r := by
  rw [wholeP, if_neg (by omega), chain_one (imply_one h hs.1 hs.2.1 hs.2.2.1) hs.2.2.2]

theorem takes_no {s : List UInt8} {k : Int} {x : List UInt8} {r : List KT} (h : x ≠ s) : takes s ((k, x) :: r) = false := by
  simp [takes, h]
theorem takes_yes {s : List UInt8} {k : Int} {r : List KT} (h : k ≠ 0) : takes s ((k, s) :: r) = true := by
  simp [takes, h]
theorem takes_end (s : List UInt8) (x : List UInt8) (r : List KT) : takes s ((0, x) :: r) = false := by simp [takes]

theorem key_ne {s : List UInt8} (h : keyB s = false) : ∀ x ∈ keyWords, s ≠ x := fun x hx e => by
  unfold keyB at h
  rw [e] at h
  have := List.contains_iff_mem.2 hx
  rw [h] at this
  cases this
theorem atomT_ne {nm : List UInt8} (h : wordB nm = true) : keyB (atomT nm) = false ∧ atomT nm ≠ [33] ∧ atomT nm ≠ [40] ∧ unq (atomT nm) = nm := by
  unfold atomT
  by_cases hp : plainB nm = true
  · rw [if_pos hp]
    unfold plainB at hp
    simp only [Bool.and_eq_true, Bool.not_eq_true'] at hp
    refine ⟨hp.2, ?_, ?_, ?_⟩
    · rintro rfl
      have := hp.1
      revert this
      decide
    · rintro rfl
      have := hp.1
      revert this
      decide
    · unfold unq
      rw [if_neg]
      intro e
      cases nm with
      | nil => simp at e
      | cons c nm =>
        have ec : c = 34 := by simpa using e
        rw [ec] at hp
        have := hp.1
        rw [List.all_cons] at this
        have h34 : letterB 34 = false := by decide
        rw [h34] at this
        cases this
  · rw [if_neg hp]
    refine ⟨?_, by simp, by simp, ?_⟩
    · unfold keyB
      cases hk : keyWords.contains (34 :: (nm ++ [34])) with
      | false => rfl
      | true =>
        have := List.contains_iff_mem.1 hk
        simp [keyWords] at this
    · unfold unq
      rw [if_pos (by rfl)]
      have e : (34 :: (nm ++ [34])).length - 1 = nm.length + 1 := by simp
      rw [e, List.take_succ_cons, List.take_left]
      rfl
theorem unaryK_key {s : List UInt8} (h : keyB s = false) (h33 : s ≠ [33]) : unaryK s = 0 := by
  have hk := key_ne h
  unfold unaryK
  rw [if_neg h33, if_neg (hk _ (by decide)), if_neg (hk _ (by decide)), if_neg (hk _ (by decide)), if_neg (hk _ (by decide)), if_neg (hk _ (by decide)), if_neg (hk _ (by decide))]

section
variable {n : Nat} {d : Int} {rest : List KT}
theorem part_atom {nm : List UInt8} (hd : d ≤ 200) (h : wordB nm = true) : partP (n + 1) d ((1, atomT nm) :: rest) = .ok (.mk 3 nm 0 []) rest := by
  obtain ⟨hk, h33, h40, hu⟩ := atomT_ne h
  have hks := key_ne hk
  rw [partP, if_neg (by omega)]
  show (if unaryK (atomT nm) ≠ 0 then _ else _) = _
  rw [unaryK_key hk h33, if_neg (by decide), takes_no h40, if_neg (by decide), takes_no (hks _ (by decide)), if_neg (by decide), takes_no (hks _ (by decide)), if_neg (by decide), takes_no (hks _ (by decide)), if_neg (by decide), takes_no (hks _ (by decide)), if_neg (by decide)]
  unfold atomP
  show (if (1 : Int) = 1 ∧ keyB (atomT nm) = false then PR.ok (.mk 3 (unq (atomT nm)) 0 []) rest else _) = _
  rw [if_pos ⟨rfl, hk⟩, hu]
theorem part_true (hd : d ≤ 200) : partP (n + 1) d ((1, [116, 114, 117, 101]) :: rest) = .ok (.mk 2 [] 0 []) rest := by
  rw [partP, if_neg (by omega)]
  rfl
theorem part_false (hd : d ≤ 200) : partP (n + 1) d ((1, [102, 97, 108, 115, 101]) :: rest) = .ok (.mk 1 [] 0 []) rest := by
  rw [partP, if_neg (by omega)]
  rfl
theorem part_una {k : Int} {x : KT} {t : List KT} {f : Fm} (hd : d ≤ 200) (hk : unaryK x.2 = k) (h0 : k ≠ 0) (h : partP n (d + 1) t = .ok f rest) : partP (n + 1) d (x :: t) = .ok (.mk k [] 0 [f]) rest := by
  rw [partP, if_neg (by omega)]
  show (if unaryK x.2 ≠ 0 then (partP n (d + 1) t).bind (fun f t' => .ok (.mk (unaryK x.2) [] 0 [f]) t') else _) = _
  rw [hk, if_pos h0, h, PR.bind_ok]
theorem part_paren {t : List KT} {f : Fm} (hd : d ≤ 200) (h : wholeP n (d + 1) t = .ok f ((2, [41]) :: rest)) : partP (n + 1) d ((2, [40]) :: t) = .ok f rest := by
  rw [partP, if_neg (by omega)]
  show (if unaryK [40] ≠ 0 then _ else if takes [40] ((2, [40]) :: t) then (wholeP n (d + 1) t).bind (fun f t' => needP [41] t' fun t'' => .ok f t'') else _) = _
  rw [if_neg (by decide), takes_yes (by decide), if_pos rfl, h, PR.bind_ok]
  rfl
theorem until_R {g : List KT → PR} {u r : Int} {t t2 : List KT} {a b : Fm} (h1 : g t = .ok a ((1, [82]) :: t2)) (h2 : g t2 = .ok b ((2, [93]) :: rest)) : untilP g u r ((2, [91]) :: t) = .ok (.mk r [] 0 [a, b]) rest := by
  unfold untilP needP
  rw [takes_yes (by decide), if_pos rfl]
  show (g t).bind _ = _
  rw [h1, PR.bind_ok, takes_yes (by decide), if_pos rfl]
  show (g t2).bind _ = _
  rw [h2, PR.bind_ok, takes_yes (by decide), if_pos rfl]
  rfl
theorem until_U {g : List KT → PR} {u r : Int} {t t2 : List KT} {a b : Fm} (h1 : g t = .ok a ((1, [85]) :: t2)) (h2 : g t2 = .ok b ((2, [93]) :: rest)) : untilP g u r ((2, [91]) :: t) = .ok (.mk u [] 0 [a, b]) rest := by
  unfold untilP needP
  rw [takes_yes (by decide), if_pos rfl]
  show (g t).bind _ = _
  rw [h1, PR.bind_ok, takes_no (by decide), if_neg (by decide), takes_yes (by decide), if_pos rfl]
  show (g t2).bind _ = _
  rw [h2, PR.bind_ok, takes_yes (by decide), if_pos rfl]
  rfl
theorem part_E {t : List KT} (hd : d ≤ 200) : partP (n + 1) d ((1, [69]) :: t) = untilP (wholeP n (d + 1)) 15 17 t := by
  rw [partP, if_neg (by omega)]
  rfl
theorem part_A {t : List KT} (hd : d ≤ 200) : partP (n + 1) d ((1, [65]) :: t) = untilP (wholeP n (d + 1)) 16 18 t := by
  rw [partP, if_neg (by omega)]
  rfl
end
theorem stop_of {k : Int} {x : List UInt8} {r : List KT} (h1 : x ≠ [38]) (h2 : x ≠ [124]) (h3 : x ≠ [45, 62]) (h4 : x ≠ [60, 45, 62]) : stopT ((k, x) :: r) := ⟨takes_no h1, takes_no h2, takes_no h3, takes_no h4⟩
theorem stop_end (x : List UInt8) (r : List KT) : stopT ((0, x) :: r) := ⟨takes_end _ _ _, takes_end _ _ _, takes_end _ _ _, takes_end _ _ _⟩

theorem Fm.eta {f : Fm} {k : Int} {nm : List UInt8} {ks : List Fm} (h1 : f.kind = k) (h2 : f.name = nm) (h3 : f.lit = 0) (h4 : f.kids = ks) : f = .mk k nm 0 ks := by
  cases f
  cases h1; cases h2; cases h3; cases h4
  rfl

theorem parse_back : ∀ (m : Nat) (f : Fm), f.sz < m → ∀ (h : Int), f.wf h = true →
    (∀ (n : Nat) (d : Int) (rest : List KT), d + 2 * h + (if 5 ≤ f.kind ∧ f.kind ≤ 8 then 1 else 0) ≤ 200 → 3 * (f.ptk.length + rest.length) + 1 ≤ n → partP n d (f.ptk ++ rest) = .ok f rest) ∧
    (∀ (n : Nat) (d : Int) (rest : List KT), d + 2 * h ≤ 200 → 3 * (f.tks.length + rest.length) + 3 ≤ n → stopT rest → wholeP n d (f.tks ++ rest) = .ok f rest)
  | 0, f, hm, h, _ => by omega
  | m + 1, f, hm, h, hw => by
    obtain ⟨h1, hl, hc⟩ := Fm.wf_cases hw
    -- what is not of two parts with a sign between
    have one : ¬ (5 ≤ f.kind ∧ f.kind ≤ 8) → ∀ (n : Nat) (d : Int) (rest : List KT), d + 2 * h ≤ 200 → 3 * (f.tks.length + rest.length) + 1 ≤ n → partP n d (f.tks ++ rest) = .ok f rest := by
      intro hk n d rest hd hn
      obtain ⟨n, rfl⟩ : ∃ n', n = n' + 1 := ⟨n - 1, by omega⟩
      rcases hc with ⟨k, hnm, hks⟩ | ⟨k, hnm, hks⟩ | ⟨k, hnm, a, hks, ha⟩ | ⟨k, hnm, a, b, hks, ha, hb⟩ | ⟨k, hnm, a, b, hks, ha, hb⟩
      · rw [f.tks_eq, if_pos k]
        refine (part_atom (by omega) hnm).trans ?_
        rw [← Fm.eta k rfl hl hks]
        rfl
      · have hf := Fm.eta rfl hnm hl hks
        rw [f.tks_eq, if_neg (by omega), hks]
        rcases k with k | k
        · rw [k] at hf ⊢
          refine (part_false (by omega)).trans ?_
          rw [← hf]
          rfl
        · rw [k] at hf ⊢
          refine (part_true (by omega)).trans ?_
          rw [← hf]
          rfl
      · have hf := Fm.eta rfl hnm hl hks
        have ia := (parse_back m a (by have := f.kid_sz (k := a) (by rw [hks]; simp); omega) (h - 1) ha).1
        have ht : f.tks = unaW f.kind :: a.ptk := by rw [f.tks_eq, if_neg (by omega), hks]; rfl
        rw [ht] at hn ⊢
        simp only [List.length_cons] at hn
        have hp := ia n (d + 1) rest (by split <;> omega) (by omega)
        have hu : unaryK (unaW f.kind).2 = f.kind := by rcases k with k | k | k | k | k | k | k <;> rw [k] <;> rfl
        refine (part_una (by omega) hu (by omega) hp).trans ?_
        rw [← hf]
      · omega
      · have hf := Fm.eta rfl hnm hl hks
        have ia := (parse_back m a (by have := f.kid_sz (k := a) (by rw [hks]; simp); omega) (h - 1) ha)
        have ib := (parse_back m b (by have := f.kid_sz (k := b) (by rw [hks]; simp); omega) (h - 1) hb)
        have ht : f.tks = (1, untA f.kind) :: (2, [91]) :: (a.ptk ++ (1, untU f.kind) :: (b.ptk ++ [(2, [93])])) := by
          rw [f.tks_eq, if_neg (by omega), hks]
          show (if 5 ≤ f.kind ∧ f.kind ≤ 8 then _ else _) = _
          rw [if_neg hk]
        rw [ht] at hn ⊢
        simp only [List.length_cons, List.length_append, List.length_nil] at hn
        -- a part, taken whole
        have pw : ∀ (g : Fm), (∀ (n : Nat) (d : Int) (rest : List KT), d + 2 * (h - 1) + (if 5 ≤ g.kind ∧ g.kind ≤ 8 then 1 else 0) ≤ 200 → 3 * (g.ptk.length + rest.length) + 1 ≤ n → partP n d (g.ptk ++ rest) = .ok g rest) →
            ∀ rest', stopT rest' → 3 * (g.ptk.length + rest'.length) + 3 ≤ n → wholeP n (d + 1) (g.ptk ++ rest') = .ok g rest' := fun g ig rest' hs hn' => by
          obtain ⟨n', rfl⟩ : ∃ n', n = n' + 2 := ⟨n - 2, by omega⟩
          exact whole_one (by omega) (ig n' (d + 1) rest' (by split <;> omega) (by omega)) hs
        have e0 : (1, untA f.kind) :: (2, [91]) :: (a.ptk ++ (1, untU f.kind) :: (b.ptk ++ [(2, [93])])) ++ rest = (1, untA f.kind) :: (2, [91]) :: (a.ptk ++ (1, untU f.kind) :: (b.ptk ++ ((2, [93]) :: rest))) := by simp
        rw [e0]
        have wb := pw b ib.1 ((2, [93]) :: rest) (stop_of (by decide) (by decide) (by decide) (by decide)) (by simp only [List.length_cons]; omega)
        have sU : stopT ((1, untU f.kind) :: (b.ptk ++ ((2, [93]) :: rest))) := by
          unfold untU
          split <;> exact stop_of (by decide) (by decide) (by decide) (by decide)
        have wa := pw a ia.1 _ sU (by simp only [List.length_cons, List.length_append]; omega)
        rcases k with k | k | k | k <;> rw [k] at hf wa ⊢
        · exact (part_E (by omega)).trans ((until_U wa wb).trans (by rw [← hf]))
        · exact (part_A (by omega)).trans ((until_U wa wb).trans (by rw [← hf]))
        · exact (part_E (by omega)).trans ((until_R wa wb).trans (by rw [← hf]))
        · exact (part_A (by omega)).trans ((until_R wa wb).trans (by rw [← hf]))
    have two : ∀ (n : Nat) (d : Int) (rest : List KT), d + 2 * h ≤ 200 → 3 * (f.tks.length + rest.length) + 3 ≤ n → stopT rest → wholeP n d (f.tks ++ rest) = .ok f rest := by
      intro n d rest hd hn hs
      by_cases hk : 5 ≤ f.kind ∧ f.kind ≤ 8
      · rcases hc with ⟨k, _⟩ | ⟨k, _⟩ | ⟨k, _⟩ | ⟨k, hnm, a, b, hks, ha, hb⟩ | ⟨k, _⟩
        · omega
        · omega
        · omega
        · have hf := Fm.eta rfl hnm hl hks
          have ia := (parse_back m a (by have := f.kid_sz (k := a) (by rw [hks]; simp); omega) (h - 1) ha).1
          have ib := (parse_back m b (by have := f.kid_sz (k := b) (by rw [hks]; simp); omega) (h - 1) hb).1
          have ht : f.tks = a.ptk ++ (2, sgnK f.kind) :: b.ptk := by
            rw [f.tks_eq, if_neg (by omega), hks]
            show (if 5 ≤ f.kind ∧ f.kind ≤ 8 then _ else _) = _
            rw [if_pos hk]
          rw [ht] at hn ⊢
          simp only [List.length_cons, List.length_append] at hn
          obtain ⟨n, rfl⟩ : ∃ n', n = n' + 3 := ⟨n - 3, by omega⟩
          have e0 : a.ptk ++ (2, sgnK f.kind) :: b.ptk ++ rest = a.ptk ++ (2, sgnK f.kind) :: (b.ptk ++ rest) := by simp
          rw [e0]
          have pa := ia (n + 1) d ((2, sgnK f.kind) :: (b.ptk ++ rest)) (by split <;> omega) (by simp only [List.length_cons, List.length_append]; omega)
          have pb := ib (n + 1) d rest (by split <;> omega) (by omega)
          rw [wholeP, if_neg (by omega)]
          rcases k with k | k | k | k <;> rw [k] at hf pa ⊢
          · -- and
            have c1 : chainP (partP (n + 1) d) [38] 5 (a.ptk ++ (2, sgnK 5) :: (b.ptk ++ rest)) = .ok (.mk 5 [] 0 [a, b]) rest := chain_two pa (takes_yes (by decide)) pb hs.1
            refine chain_one ?_ hs.2.2.2
            rw [implyP, chain_one c1 hs.2.1, PR.bind_ok, if_neg (by rw [hs.2.2.1]; decide), ← hf]
          · have c1 : chainP (partP (n + 1) d) [38] 5 (a.ptk ++ (2, sgnK 6) :: (b.ptk ++ rest)) = .ok a ((2, sgnK 6) :: (b.ptk ++ rest)) := chain_one pa (takes_no (by decide))
            have c2 : chainP (partP (n + 1) d) [38] 5 (b.ptk ++ rest) = .ok b rest := chain_one pb hs.1
            have c3 : chainP (chainP (partP (n + 1) d) [38] 5) [124] 6 (a.ptk ++ (2, sgnK 6) :: (b.ptk ++ rest)) = .ok (.mk 6 [] 0 [a, b]) rest := chain_two c1 (takes_yes (by decide)) c2 hs.2.1
            refine chain_one ?_ hs.2.2.2
            rw [implyP, c3, PR.bind_ok, if_neg (by rw [hs.2.2.1]; decide), ← hf]
          · have c1 : chainP (chainP (partP (n + 1) d) [38] 5) [124] 6 (a.ptk ++ (2, sgnK 7) :: (b.ptk ++ rest)) = .ok a ((2, sgnK 7) :: (b.ptk ++ rest)) := chain_one (chain_one pa (takes_no (by decide))) (takes_no (by decide))
            have pb' := ib n (d + 1) rest (by split <;> omega) (by omega)
            have c2 := imply_one pb' hs.1 hs.2.1 hs.2.2.1
            refine chain_one ?_ hs.2.2.2
            rw [implyP, c1, PR.bind_ok, show takes [45, 62] ((2, sgnK 7) :: (b.ptk ++ rest)) = true from takes_yes (by decide), if_pos rfl]
            show (implyP (n + 1) (d + 1) (b.ptk ++ rest)).bind _ = _
            rw [c2, PR.bind_ok, ← hf]
          · have c1 := imply_one pa (takes_no (by decide)) (takes_no (by decide)) (takes_no (by decide))
            have c2 := imply_one pb hs.1 hs.2.1 hs.2.2.1
            exact (chain_two c1 (takes_yes (by decide)) c2 hs.2.2.2).trans (by rw [← hf])
        · omega
      · obtain ⟨n, rfl⟩ : ∃ n', n = n' + 2 := ⟨n - 2, by omega⟩
        exact whole_one (by omega) (one hk n d rest (by omega) (by omega)) hs
    refine ⟨fun n d rest hd hn => ?_, two⟩
    unfold Fm.ptk parK at hn ⊢
    by_cases hk : 5 ≤ f.kind ∧ f.kind ≤ 8
    · rw [if_pos hk] at hd hn ⊢
      simp only [List.length_cons, List.length_append, List.length_nil] at hn
      obtain ⟨n, rfl⟩ : ∃ n', n = n' + 1 := ⟨n - 1, by omega⟩
      rw [show (2, [40]) :: (f.tks ++ [(2, [41])]) ++ rest = ((2, [40]) : KT) :: (f.tks ++ ((2, [41]) :: rest)) by simp]
      exact part_paren (by omega) (two n (d + 1) ((2, [41]) :: rest) (by omega) (by simp only [List.length_cons]; omega) (stop_of (by decide) (by decide) (by decide) (by decide)))
    · rw [if_neg hk] at hd hn ⊢
      exact one hk n d rest (by omega) hn
end Go.Proofs.YtijecfmblddanaaDoor

set_option linter.unusedVariables false
set_option linter.unusedSimpArgs false
namespace Go.Proofs.YtijecfmblddanaaDoor

theorem kidsN_all {g : Nat → Fm × Nat} {P : Fm → Prop} (h : ∀ a, P (g a).1) : ∀ n a, ∀ f ∈ (kidsN g n a).1, P f
  | 0, a, f, hf => by simp [kidsN] at hf
  | n + 1, a, f, hf => by
    have hf' : f ∈ (g a).1 :: (kidsN g n (g a).2).1 := hf
    rcases List.mem_cons.1 hf' with rfl | hf'
    · exact h a
    · exact kidsN_all h n _ f hf'
theorem names7_word (p : Nat) (hp : p < 7) : wordB (names7[p]?.getD []) = true := by
  match p, hp with
  | 0, _ => decide
  | 1, _ => decide
  | 2, _ => decide
  | 3, _ => decide
  | 4, _ => decide
  | 5, _ => decide
  | 6, _ => decide
theorem nameF_ok (l : List UInt8) (k : Int) (a : Nat) : (if k = 3 then wordB (nameF l k a).1 else decide ((nameF l k a).1 = [])) = true := by
  unfold nameF
  by_cases h : k = 3
  · rw [if_pos h, if_pos h]
    exact names7_word _ (pickN_lt l a 7 (by decide))
  · rw [if_neg h, if_neg h]
    rfl
theorem szL_le {c : Nat} : ∀ l : List Fm, (∀ f ∈ l, f.sz ≤ c) → szL l ≤ l.length * c
  | [], _ => by simp [szL]
  | f :: l, h => by
    have h1 := h f List.mem_cons_self
    have h2 := szL_le l fun g hg => h g (List.mem_cons_of_mem _ hg)
    simp only [szL, List.length_cons, Nat.add_mul]
    omega
theorem mkF_sz (l : List UInt8) : ∀ d a, (mkF l d a).1.sz ≤ 2 ^ (d + 1) - 1
  | 0, a => by simp [mkF, Fm.sz, szL]
  | d + 1, a => by
    have h4 := nk_le (kindF l (d + 1) a).1
    have hlen := kidsN_len (mkF l d) (nk (kindF l (d + 1) a).1).toNat (nameF l (kindF l (d + 1) a).1 (kindF l (d + 1) a).2).2
    have hs := szL_le _ (kidsN_all (P := fun f => f.sz ≤ 2 ^ (d + 1) - 1) (mkF_sz l d) (nk (kindF l (d + 1) a).1).toNat (nameF l (kindF l (d + 1) a).1 (kindF l (d + 1) a).2).2)
    have h5 : (nk (kindF l (d + 1) a).1).toNat * (2 ^ (d + 1) - 1) ≤ 2 * (2 ^ (d + 1) - 1) := Nat.mul_le_mul_right _ (by omega)
    have h6 : 2 ^ (d + 1 + 1) = 2 * 2 ^ (d + 1) := by rw [Nat.pow_succ]; omega
    have h7 : 0 < 2 ^ (d + 1) := Nat.two_pow_pos _
    rw [hlen] at hs
    simp only [mkF, Fm.sz]
    omega
theorem mkF_wf (l : List UInt8) : ∀ (d a : Nat) (D : Int), (d : Int) + 1 ≤ D → (mkF l d a).1.wf D = true
  | 0, a, D, hD => by
    have hn := nameF_ok l (kindF l 0 a).1 (kindF l 0 a).2
    have hk := kindF_leaf l a
    rw [Fm.wf_eq]
    show (decide (1 ≤ D) && decide (nk (kindF l 0 a).1 = ((0 : Nat) : Int)) && decide ((0 : Int) = 0) && (if (kindF l 0 a).1 = 3 then wordB _ else decide (_ = [])) && wfL [] (D - 1)) = true
    rw [hk]
    have hD' : decide (1 ≤ D) = true := decide_eq_true (by omega)
    rw [hD']
    show ((true && decide ((0 : Int) = ((0 : Nat) : Int)) && decide ((0 : Int) = 0) && (if (kindF l 0 a).1 = 3 then wordB (nameF l (kindF l 0 a).1 (kindF l 0 a).2).1 else decide ((nameF l (kindF l 0 a).1 (kindF l 0 a).2).1 = []))) && wfL [] (D - 1)) = true
    rw [hn]
    rfl
  | d + 1, a, D, hD => by
    have hn := nameF_ok l (kindF l (d + 1) a).1 (kindF l (d + 1) a).2
    have hlen := kidsN_len (mkF l d) (nk (kindF l (d + 1) a).1).toNat (nameF l (kindF l (d + 1) a).1 (kindF l (d + 1) a).2).2
    have hk0 : 0 ≤ nk (kindF l (d + 1) a).1 := by
      have := kindF_in l (d + 1) a
      unfold nk
      rw [if_neg (by omega)]
      split <;> (try split) <;> decide
    have hall := kidsN_all (P := fun f => f.wf (D - 1) = true) (fun a => mkF_wf l d a (D - 1) (by omega)) (nk (kindF l (d + 1) a).1).toNat (nameF l (kindF l (d + 1) a).1 (kindF l (d + 1) a).2).2
    rw [Fm.wf_eq]
    have hD' : decide (1 ≤ D) = true := decide_eq_true (by omega)
    have hw : wfL (kidsN (mkF l d) (nk (kindF l (d + 1) a).1).toNat (nameF l (kindF l (d + 1) a).1 (kindF l (d + 1) a).2).2).1 (D - 1) = true := by
      rw [wfL_all]
      exact List.all_eq_true.2 hall
    show (decide (1 ≤ D) && decide (nk (kindF l (d + 1) a).1 = ((kidsN (mkF l d) (nk (kindF l (d + 1) a).1).toNat (nameF l (kindF l (d + 1) a).1 (kindF l (d + 1) a).2).2).1.length : Int)) && decide ((0 : Int) = 0) && (if (kindF l (d + 1) a).1 = 3 then wordB (nameF l (kindF l (d + 1) a).1 (kindF l (d + 1) a).2).1 else decide ((nameF l (kindF l (d + 1) a).1 (kindF l (d + 1) a).2).1 = [])) && wfL (kidsN (mkF l d) (nk (kindF l (d + 1) a).1).toNat (nameF l (kindF l (d + 1) a).1 (kindF l (d + 1) a).2).2).1 (D - 1)) = true
    rw [hw, hD', hn, hlen, decide_eq_true (show nk (kindF l (d + 1) a).1 = ((nk (kindF l (d + 1) a).1).toNat : Int) by omega)]
    rfl
theorem madeF_sz (l : List UInt8) : (madeF l).sz ≤ 127 := mkF_sz l 6 0
theorem madeF_wf (l : List UInt8) (D : Int) (h : 7 ≤ D) : (madeF l).wf D = true := mkF_wf l 6 0 D (by omega)
theorem madeF_ok (l : List UInt8) : (madeF l).ok = true := by
  unfold Fm.ok
  rw [madeF_wf l 60 (by decide), decide_eq_true (by have := madeF_sz l; omega)]
  rfl
theorem madeF_size (l : List UInt8) : (madeF l).size = (madeF l).sz := by unfold Fm.size; rw [if_pos (madeF_ok l)]

/-- A formula of parts. -/
theorem size_two (l m : List UInt8) (k : Int) (hk : (5 ≤ k ∧ k ≤ 8)) : (Fm.mk k [] 0 [madeF l, madeF m]).size = 1 + (madeF l).size + (madeF m).size := by
  have h1 := madeF_sz l
  have h2 := madeF_sz m
  rw [madeF_size, madeF_size]
  have hn : nk k = 2 := by unfold nk; rw [if_neg (by omega), if_neg (by omega), if_neg (by omega)]
  have hok : (Fm.mk k [] 0 [madeF l, madeF m]).ok = true := by
    unfold Fm.ok
    rw [Fm.wf_eq]
    show (decide ((1 : Int) ≤ 60) && decide (nk k = ((2 : Nat) : Int)) && decide ((0 : Int) = 0) && (if k = 3 then wordB [] else decide (([] : List UInt8) = [])) && wfL [madeF l, madeF m] (60 - 1) && decide (Fm.sz _ ≤ 2000)) = true
    rw [hn, if_neg (by omega)]
    have hw : wfL [madeF l, madeF m] (60 - 1) = true := by simp only [wfL, madeF_wf l (60 - 1) (by decide), madeF_wf m (60 - 1) (by decide)]; rfl
    rw [hw, decide_eq_true (show Fm.sz (Fm.mk k [] 0 [madeF l, madeF m]) ≤ 2000 by simp only [Fm.sz, szL]; omega)]
    rfl
  unfold Fm.size
  rw [if_pos hok]
  simp only [Fm.sz, szL]
  omega
theorem size_one (l : List UInt8) (k : Int) (hk : (9 ≤ k ∧ k ≤ 14)) : (Fm.mk k [] 0 [madeF l]).size = 1 + (madeF l).size := by
  have h1 := madeF_sz l
  rw [madeF_size]
  have hn : nk k = 1 := by unfold nk; rw [if_neg (by omega), if_neg (by omega), if_pos (by omega)]
  have hok : (Fm.mk k [] 0 [madeF l]).ok = true := by
    unfold Fm.ok
    rw [Fm.wf_eq]
    show (decide ((1 : Int) ≤ 60) && decide (nk k = ((1 : Nat) : Int)) && decide ((0 : Int) = 0) && (if k = 3 then wordB [] else decide (([] : List UInt8) = [])) && wfL [madeF l] (60 - 1) && decide (Fm.sz _ ≤ 2000)) = true
    rw [hn, if_neg (by omega)]
    have hw : wfL [madeF l] (60 - 1) = true := by simp only [wfL, madeF_wf l (60 - 1) (by decide)]; rfl
    rw [hw, decide_eq_true (show Fm.sz (Fm.mk k [] 0 [madeF l]) ≤ 2000 by simp only [Fm.sz, szL]; omega)]
    rfl
  unfold Fm.size
  rw [if_pos hok]
  simp only [Fm.sz, szL]
  omega
theorem same_comm (f g : Fm) : f.same g = g.same f := by
  rw [Bool.eq_iff_iff, Fm.same_iff, Fm.same_iff]
  exact ⟨Eq.symm, Eq.symm⟩
theorem same_kid (f : Fm) (k : Int) : f.same (.mk k [] 0 [f]) = false := by
  cases h : f.same (.mk k [] 0 [f]) with
  | false => rfl
  | true =>
    have e := (Fm.same_iff _ _).1 h
    have := congrArg Fm.sz e
    simp only [Fm.sz, szL] at this
    omega

/-- The tokens of a printed formula. -/
theorem lexToks_kts (s : List UInt8) : (lexToks s).map ktOf = (kts s).map fun y => (y.1, y.2.1) := by
  unfold lexToks kts
  rw [List.map_map, List.map_map]
  rfl
theorem tks_up (t : List KT) : (t.map up).map (fun y => (y.1, y.2.1)) = t := by
  rw [List.map_map]
  induction t with
  | nil => rfl
  | cons x t ih => rw [List.map_cons, ih]; rfl
theorem lex_ok (f : Fm) {d : Int} (h : f.wf d = true) : lexBad f.txt = false ∧ (lexToks f.txt).map ktOf = f.tks ++ [(0, [])] := by
  have hk := (kts_txt _ f (Nat.lt_succ_self _) d h).1 [] stopN_nil
  rw [List.append_nil, kts_nil] at hk
  constructor
  · rw [lexBad_kts]
    unfold ktsBad
    rw [hk, List.any_append]
    simp [up]
  · rw [lexToks_kts, hk, List.map_append, tks_up]
    rfl
theorem ok_wf' {f : Fm} (h : f.ok = true) : f.wf 60 = true := by
  unfold Fm.ok at h
  simp only [Bool.and_eq_true, decide_eq_true_eq] at h
  exact h.1
theorem parseT_back {f : Fm} (h : f.ok = true) : parseT (f.tks ++ [(0, [])]) = (f, 0, 0) := by
  have hp := (parse_back _ f (Nat.lt_succ_self _) 60 (ok_wf' h)).2 (3 * (f.tks ++ [(0, [])]).length + 3) 0 [(0, [])] (by decide) (by simp) (stop_end _ _)
  unfold parseT
  rw [hp]
  rw [finT_ok]
  rw [if_neg (by decide), if_pos h]
theorem txt_inj {f g : Fm} (hf : f.ok = true) (hg : g.ok = true) (h : f.txt = g.txt) : f = g := by
  have h1 := (lex_ok f (ok_wf' hf)).2
  have h2 := (lex_ok g (ok_wf' hg)).2
  rw [h, h2] at h1
  have h3 := parseT_back hf
  rw [← h1, parseT_back hg] at h3
  exact (Prod.mk.inj h3).1.symm
theorem tks_pos (f : Fm) {d : Int} (h : f.wf d = true) : 0 < f.tks.length := by
  obtain ⟨h1, hl, hc⟩ := Fm.wf_cases h
  rw [f.tks_eq]
  rcases hc with ⟨k, hnm, hks⟩ | ⟨k, hnm, hks⟩ | ⟨k, hnm, a, hks, ha⟩ | ⟨k, hnm, a, b, hks, ha, hb⟩ | ⟨k, hnm, a, b, hks, ha, hb⟩
  · rw [if_pos k]; exact Nat.zero_lt_one
  · rw [if_neg (by omega), hks]; simp [shT]
  · rw [if_neg (by omega), hks]; simp [shT]
  · rw [if_neg (by omega), hks]
    show 0 < (if 5 ≤ f.kind ∧ f.kind ≤ 8 then _ else _ : List KT).length
    split <;> simp <;> omega
  · rw [if_neg (by omega), hks]
    show 0 < (if 5 ≤ f.kind ∧ f.kind ≤ 8 then _ else _ : List KT).length
    split <;> simp <;> omega
theorem lexToks_two (f : Fm) (h : f.ok = true) : 1 < (lexToks f.txt).length := by
  have h1 := (lex_ok f (ok_wf' h)).2
  have h2 := congrArg List.length h1
  have h3 := tks_pos f (ok_wf' h)
  rw [List.length_map, List.length_append] at h2
  simp at h2
  omega
theorem txt_same {f g : Fm} (hf : f.ok = true) (hg : g.ok = true) : decide (f.txt = g.txt) = f.same g := by
  rw [Bool.eq_iff_iff, decide_eq_true_eq, Fm.same_iff]
  exact ⟨txt_inj hf hg, fun e => by rw [e]⟩
end Go.Proofs.YtijecfmblddanaaDoor
