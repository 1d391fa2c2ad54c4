/- Tokens: plain data. -/
import Derived.WalkKit
set_option linter.unusedVariables false
set_option linter.unusedSimpArgs false
namespace Go.Proofs.YtijecfmblddanaaDoor

/-- May a byte be in a name? -/
def letterB (c : UInt8) : Bool := decide (97 ≤ c.toNat) && decide (c.toNat ≤ 122) || decide (65 ≤ c.toNat) && decide (c.toNat ≤ 90) || decide (48 ≤ c.toNat) && decide (c.toNat ≤ 57) || decide (c.toNat = 95)
/-- A byte between quotes. -/
def innerB (c : UInt8) : Bool := decide (32 < c.toNat) && decide (c.toNat ≤ 126) && !decide (c.toNat = 34)
def blankB (c : UInt8) : Bool := decide (c.toNat = 32) || decide (c.toNat = 9) || decide (c.toNat = 10)

/-- How many bytes ahead are so. -/
def runL (p : UInt8 → Bool) (l : List UInt8) : Nat := (l.takeWhile p).length

theorem runL_at (p : UInt8 → Bool) : ∀ (l : List UInt8) (k : Nat), (∀ j b, j < k → l[j]? = some b → p b = true) → k ≤ l.length → (k = l.length ∨ ∃ b, l[k]? = some b ∧ p b = false) → runL p l = k
  | [], k, _, hk, _ => by
    have : k = 0 := by simpa using hk
    subst this
    rfl
  | c :: l, 0, _, _, he => by
    rcases he with he | ⟨b, hb, hp⟩
    · simp at he
    · have e : c = b := by simpa using hb
      subst e
      simp [runL, List.takeWhile, hp]
  | c :: l, k + 1, hall, hk, he => by
    have hc : p c = true := hall 0 c (by omega) rfl
    have ih := runL_at p l k (fun j b hj hb => hall (j + 1) b (by omega) (by simpa using hb)) (by simpa using hk) (by
      rcases he with he | ⟨b, hb, hp⟩
      · exact .inl (by simpa using he)
      · exact .inr ⟨b, by simpa using hb, hp⟩)
    simp only [runL, List.takeWhile, hc, List.length_cons] at ih ⊢
    omega

/-- How many bytes a name in quotes has, both quotes with it. -/
def quotL (l : List UInt8) : Nat :=
  if 1 + runL innerB (l.drop 1) < 2 then 0 else if (l[1 + runL innerB (l.drop 1)]?).map UInt8.toNat = some 34 then 1 + runL innerB (l.drop 1) + 1 else 0

/-- How many bytes the name ahead has. -/
def nameL (l : List UInt8) : Nat := if (l[0]?).map UInt8.toNat = some 34 then quotL l else runL letterB l

def sgs : List (List UInt8) := [[60, 45, 62], [45, 62], [33], [38], [124], [40], [41], [91], [93]]
/-- How many bytes the sign ahead has. -/
def signL (l : List UInt8) : Nat := ((sgs.find? (fun x => x.isPrefixOf l)).map List.length).getD 0

structure Tk where
  kind : Int
  text : List UInt8
  place : Nat

/-- What comes, one behind the other: the tokens, and last the end, or what is none. -/
def itemsF : Nat → List UInt8 → Nat → List (Tk × Bool)
  | 0, _, _ => []
  | f + 1, l, at_ =>
    if l.dropWhile blankB = [] then [(⟨0, [], at_ + (l.length - (l.dropWhile blankB).length)⟩, true)]
    else if 0 < nameL (l.dropWhile blankB) then
      (⟨1, (l.dropWhile blankB).take (nameL (l.dropWhile blankB)), at_ + (l.length - (l.dropWhile blankB).length)⟩, true) ::
        itemsF f ((l.dropWhile blankB).drop (nameL (l.dropWhile blankB))) (at_ + (l.length - (l.dropWhile blankB).length) + nameL (l.dropWhile blankB))
    else if 0 < signL (l.dropWhile blankB) then
      (⟨2, (l.dropWhile blankB).take (signL (l.dropWhile blankB)), at_ + (l.length - (l.dropWhile blankB).length)⟩, true) ::
        itemsF f ((l.dropWhile blankB).drop (signL (l.dropWhile blankB))) (at_ + (l.length - (l.dropWhile blankB).length) + signL (l.dropWhile blankB))
    else [(⟨2, [], at_ + (l.length - (l.dropWhile blankB).length)⟩, false)]

def items (l : List UInt8) (at_ : Nat) : List (Tk × Bool) := itemsF (l.length + 1) l at_

theorem dropW_le (p : UInt8 → Bool) (l : List UInt8) : (l.dropWhile p).length ≤ l.length := (List.dropWhile_sublist p).length_le

theorem itemsF_more : ∀ (f : Nat) (l : List UInt8) (at_ : Nat), l.length < f → itemsF f l at_ = items l at_
  | 0, l, at_, h => by omega
  | f + 1, l, at_, h => by
    have key : ∀ (f f' : Nat) (l : List UInt8) (at_ : Nat), l.length < f → l.length < f' → itemsF f l at_ = itemsF f' l at_ := by
      intro f
      induction f with
      | zero => intro f' l at_ h; omega
      | succ f ih =>
        intro f' l at_ h h'
        cases f' with
        | zero => omega
        | succ f' =>
          have hd := dropW_le blankB l
          rw [itemsF, itemsF]
          by_cases h0 : l.dropWhile blankB = []
          · rw [if_pos h0, if_pos h0]
          · have hp : 0 < (l.dropWhile blankB).length := List.length_pos_iff.2 h0
            rw [if_neg h0, if_neg h0]
            by_cases h1 : 0 < nameL (l.dropWhile blankB)
            · rw [if_pos h1, if_pos h1, ih f' _ _ (by rw [List.length_drop]; omega) (by rw [List.length_drop]; omega)]
            · rw [if_neg h1, if_neg h1]
              by_cases h2 : 0 < signL (l.dropWhile blankB)
              · rw [if_pos h2, if_pos h2, ih f' _ _ (by rw [List.length_drop]; omega) (by rw [List.length_drop]; omega)]
              · rw [if_neg h2, if_neg h2]
    exact key _ _ _ _ h (Nat.lt_succ_self _)

/-- One step of it. -/
theorem items_eq (l : List UInt8) (at_ : Nat) : items l at_ =
    if l.dropWhile blankB = [] then [(⟨0, [], at_ + (l.length - (l.dropWhile blankB).length)⟩, true)]
    else if 0 < nameL (l.dropWhile blankB) then
      (⟨1, (l.dropWhile blankB).take (nameL (l.dropWhile blankB)), at_ + (l.length - (l.dropWhile blankB).length)⟩, true) ::
        items ((l.dropWhile blankB).drop (nameL (l.dropWhile blankB))) (at_ + (l.length - (l.dropWhile blankB).length) + nameL (l.dropWhile blankB))
    else if 0 < signL (l.dropWhile blankB) then
      (⟨2, (l.dropWhile blankB).take (signL (l.dropWhile blankB)), at_ + (l.length - (l.dropWhile blankB).length)⟩, true) ::
        items ((l.dropWhile blankB).drop (signL (l.dropWhile blankB))) (at_ + (l.length - (l.dropWhile blankB).length) + signL (l.dropWhile blankB))
    else [(⟨2, [], at_ + (l.length - (l.dropWhile blankB).length)⟩, false)] := by
  have hd := dropW_le blankB l
  conv => lhs; unfold items
  rw [itemsF]
  by_cases h0 : l.dropWhile blankB = []
  · rw [if_pos h0, if_pos h0]
  · have hp : 0 < (l.dropWhile blankB).length := List.length_pos_iff.2 h0
    rw [if_neg h0, if_neg h0]
    by_cases h1 : 0 < nameL (l.dropWhile blankB)
    · rw [if_pos h1, if_pos h1, itemsF_more _ _ _ (by rw [List.length_drop]; omega)]
    · rw [if_neg h1, if_neg h1]
      by_cases h2 : 0 < signL (l.dropWhile blankB)
      · rw [if_pos h2, if_pos h2, itemsF_more _ _ _ (by rw [List.length_drop]; omega)]
      · rw [if_neg h2, if_neg h2]

/-- A blank ahead makes no difference but for places. -/
theorem items_blank (c : UInt8) (l : List UInt8) (at_ : Nat) (hc : blankB c = true) : items (c :: l) at_ = items l (at_ + 1) := by
  have hd := dropW_le blankB l
  have e : (c :: l).dropWhile blankB = l.dropWhile blankB := by simp [List.dropWhile, hc]
  have e2 : at_ + ((c :: l).length - (l.dropWhile blankB).length) = at_ + 1 + (l.length - (l.dropWhile blankB).length) := by simp; omega
  rw [items_eq (c :: l), items_eq l, e, e2]

/-- What Lex hands back: the tokens, or none and the place. -/
def lexBad (l : List UInt8) : Bool := (items l 0).any (fun x => !x.2)
def lexToks (l : List UInt8) : List Tk := (items l 0).map Prod.fst
def lexPlace (l : List UInt8) : Nat := (((items l 0).find? (fun x => !x.2)).map (fun x => x.1.place)).getD 0
end Go.Proofs.YtijecfmblddanaaDoor
