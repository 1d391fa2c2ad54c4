/- Tokens: plain laws: texts with blanks between. -/
import Derived.Test.YtijecfmblddanaaDoorPTok
set_option linter.unusedVariables false
set_option linter.unusedSimpArgs false
namespace Go.Proofs.YtijecfmblddanaaDoor

def strip (x : Tk × Bool) : Int × List UInt8 × Bool := (x.1.kind, x.1.text, x.2)

theorem strip_at : ∀ (n : Nat) (l : List UInt8) (a b : Nat), l.length < n → (items l a).map strip = (items l b).map strip
  | 0, l, a, b, h => by omega
  | n + 1, l, a, b, h => by
    have hd := dropW_le blankB l
    rw [items_eq l a, items_eq l b]
    by_cases h0 : l.dropWhile blankB = []
    · rw [if_pos h0, if_pos h0]
      rfl
    · have hp : 0 < (l.dropWhile blankB).length := List.length_pos_iff.2 h0
      rw [if_neg h0, if_neg h0]
      by_cases h1 : 0 < nameL (l.dropWhile blankB)
      · rw [if_pos h1, if_pos h1, List.map_cons, List.map_cons, strip_at n _ _ (b + (l.length - (l.dropWhile blankB).length) + nameL (l.dropWhile blankB)) (by rw [List.length_drop]; omega)]
        rfl
      · rw [if_neg h1, if_neg h1]
        by_cases h2 : 0 < signL (l.dropWhile blankB)
        · rw [if_pos h2, if_pos h2, List.map_cons, List.map_cons, strip_at n _ _ (b + (l.length - (l.dropWhile blankB).length) + signL (l.dropWhile blankB)) (by rw [List.length_drop]; omega)]
          rfl
        · rw [if_neg h2, if_neg h2]
          rfl

/-- Kinds and texts alone. -/
def kts (l : List UInt8) : List (Int × List UInt8 × Bool) := (items l 0).map strip
theorem kts_at (l : List UInt8) (a : Nat) : (items l a).map strip = kts l := strip_at _ l a 0 (Nat.lt_succ_self _)

theorem kts_eq (l : List UInt8) : kts l =
    if l.dropWhile blankB = [] then [(0, [], true)]
    else if 0 < nameL (l.dropWhile blankB) then (1, (l.dropWhile blankB).take (nameL (l.dropWhile blankB)), true) :: kts ((l.dropWhile blankB).drop (nameL (l.dropWhile blankB)))
    else if 0 < signL (l.dropWhile blankB) then (2, (l.dropWhile blankB).take (signL (l.dropWhile blankB)), true) :: kts ((l.dropWhile blankB).drop (signL (l.dropWhile blankB)))
    else [(2, [], false)] := by
  conv => lhs; unfold kts; rw [items_eq]
  by_cases h0 : l.dropWhile blankB = []
  · rw [if_pos h0, if_pos h0]
    rfl
  · rw [if_neg h0, if_neg h0]
    by_cases h1 : 0 < nameL (l.dropWhile blankB)
    · rw [if_pos h1, if_pos h1, List.map_cons, kts_at]
      rfl
    · rw [if_neg h1, if_neg h1]
      by_cases h2 : 0 < signL (l.dropWhile blankB)
      · rw [if_pos h2, if_pos h2, List.map_cons, kts_at]
        rfl
      · rw [if_neg h2, if_neg h2]
        rfl
theorem kts_ne (l : List UInt8) : kts l ≠ [] := by
  rw [kts_eq]
  split
  · simp
  · split
    · simp
    · split <;> simp
theorem kts_congr {l l' : List UInt8} (h : l.dropWhile blankB = l'.dropWhile blankB) : kts l = kts l' := by rw [kts_eq l, kts_eq l', h]
theorem kts_blank (c : UInt8) (l : List UInt8) (hc : blankB c = true) : kts (c :: l) = kts l := kts_congr (by simp [List.dropWhile, hc])
theorem kts_nil : kts [] = [(0, [], true)] := by rw [kts_eq]; rfl

theorem runL_le' (p : UInt8 → Bool) (l : List UInt8) : runL p l ≤ l.length := (List.takeWhile_sublist p (l := l)).length_le
theorem runL_sp (p : UInt8 → Bool) (hp : p 32 = false) : ∀ (d t : List UInt8), runL p (d ++ 32 :: t) = runL p d
  | [], t => by simp [runL, List.takeWhile, hp]
  | c :: d, t => by
    have ih := runL_sp p hp d t
    unfold runL at ih ⊢
    simp only [List.cons_append, List.takeWhile]
    split
    · simp only [List.length_cons, ih]
    · rfl
theorem quotL_sp (d t : List UInt8) (hd : d ≠ []) : quotL (d ++ 32 :: t) = quotL d := by
  have hl : 0 < d.length := List.length_pos_iff.2 hd
  have h1 : (d ++ 32 :: t).drop 1 = d.drop 1 ++ 32 :: t := List.drop_append_of_le_length (by omega)
  have h2 := runL_sp innerB (by decide) (d.drop 1) t
  have h3 := runL_le' innerB (d.drop 1)
  rw [List.length_drop] at h3
  unfold quotL
  rw [h1, h2]
  by_cases h4 : 1 + runL innerB (d.drop 1) < 2
  · rw [if_pos h4, if_pos h4]
  · rw [if_neg h4, if_neg h4]
    rcases Nat.lt_or_ge (1 + runL innerB (d.drop 1)) d.length with h5 | h5
    · rw [List.getElem?_append_left h5]
    · have h6 : 1 + runL innerB (d.drop 1) = d.length := by omega
      rw [h6, List.getElem?_eq_none (Nat.le_refl _)]
      simp
theorem nameL_sp (d t : List UInt8) (hd : d ≠ []) : nameL (d ++ 32 :: t) = nameL d := by
  have hl : 0 < d.length := List.length_pos_iff.2 hd
  unfold nameL
  rw [List.getElem?_append_left hl, quotL_sp d t hd, runL_sp letterB (by decide)]
theorem prefix_sp : ∀ (x d t : List UInt8), (∀ c ∈ x, c ≠ 32) → x.isPrefixOf (d ++ 32 :: t) = x.isPrefixOf d
  | [], d, t, _ => by simp
  | c :: x, [], t, h => by
    have := h c (by simp)
    simp [List.isPrefixOf, this]
  | c :: x, e :: d, t, h => by
    have ih := prefix_sp x d t (fun c hc => h c (by simp [hc]))
    simp [List.isPrefixOf, ih]
theorem find_congr' {α : Type} {p q : α → Bool} : ∀ (l : List α), (∀ x ∈ l, p x = q x) → l.find? p = l.find? q
  | [], _ => rfl
  | a :: l, h => by
    have h1 := h a (by simp)
    simp only [List.find?, h1]
    split
    · rfl
    · exact find_congr' l (fun x hx => h x (by simp [hx]))
theorem sgs_no : ∀ x ∈ sgs, ∀ c ∈ x, c ≠ 32 := by decide
theorem signL_sp (d t : List UInt8) : signL (d ++ 32 :: t) = signL d := by
  unfold signL
  rw [find_congr' (q := fun x => x.isPrefixOf d) sgs (fun x hx => prefix_sp x d t (sgs_no x hx))]
theorem quotL_le' (l : List UInt8) : quotL l ≤ l.length := by
  unfold quotL
  split
  · omega
  · split
    · rename_i h
      rcases Nat.lt_or_ge (1 + runL innerB (l.drop 1)) l.length with h' | h'
      · omega
      · rw [List.getElem?_eq_none h'] at h
        simp at h
    · omega
theorem nameL_le' (l : List UInt8) : nameL l ≤ l.length := by
  unfold nameL
  split
  · exact quotL_le' l
  · exact runL_le' _ _
theorem signL_mem (l : List UInt8) (h : 0 < signL l) : l.take (signL l) ∈ sgs ∧ signL l ≤ l.length := by
  unfold signL at h ⊢
  cases hf : sgs.find? (fun x => x.isPrefixOf l) with
  | none => rw [hf] at h; simp at h
  | some x =>
    have hp : x <+: l := List.isPrefixOf_iff_prefix.1 (List.find?_some (p := fun x : List UInt8 => x.isPrefixOf l) hf)
    have hm := List.mem_of_find?_eq_some hf
    simp only [Option.map_some, Option.getD_some]
    rw [← List.prefix_iff_eq_take.1 hp]
    exact ⟨hm, hp.length_le⟩
theorem dropW_sp (u t : List UInt8) (h : u.dropWhile blankB ≠ []) : (u ++ 32 :: t).dropWhile blankB = u.dropWhile blankB ++ 32 :: t := by
  induction u with
  | nil => exact absurd rfl h
  | cons c u ih =>
    simp only [List.cons_append, List.dropWhile] at h ⊢
    split
    · rename_i hc
      rw [hc] at h
      exact ih h
    · rfl
theorem dropW_sp0 (u t : List UInt8) (h : u.dropWhile blankB = []) : (u ++ 32 :: t).dropWhile blankB = t.dropWhile blankB := by
  induction u with
  | nil => rfl
  | cons c u ih =>
    simp only [List.cons_append, List.dropWhile] at h ⊢
    split
    · rename_i hc
      rw [hc] at h
      exact ih h
    · rename_i hc
      rw [hc] at h
      cases h

/-- Is something no token? -/
def ktsBad (l : List UInt8) : Bool := (kts l).any (fun x => !x.2.2)
theorem lexBad_kts (l : List UInt8) : lexBad l = ktsBad l := by
  unfold lexBad ktsBad kts
  rw [List.any_map]
  rfl

/-- Two texts with a blank between. -/
theorem kts_sp : ∀ (n : Nat) (u t : List UInt8), u.length < n → (ktsBad u = false → kts (u ++ 32 :: t) = (kts u).dropLast ++ kts t) ∧ (ktsBad u = true → ktsBad (u ++ 32 :: t) = true)
  | 0, u, t, h => by omega
  | n + 1, u, t, h => by
    have hd := dropW_le blankB u
    by_cases h0 : u.dropWhile blankB = []
    · have e : kts (u ++ 32 :: t) = kts t := kts_congr (dropW_sp0 u t h0)
      have e2 : kts u = [(0, [], true)] := by rw [kts_eq, if_pos h0]
      constructor
      · intro _
        rw [e, e2]
        rfl
      · intro hb
        unfold ktsBad at hb
        rw [e2] at hb
        cases hb
    · have hp : 0 < (u.dropWhile blankB).length := List.length_pos_iff.2 h0
      have e := dropW_sp u t h0
      have hne : (u.dropWhile blankB ++ 32 :: t) ≠ [] := by simp
      have key : ∀ (k : Int) (m : Nat), 0 < m → m ≤ (u.dropWhile blankB).length → kts u = (k, (u.dropWhile blankB).take m, true) :: kts ((u.dropWhile blankB).drop m) →
          kts (u ++ 32 :: t) = (k, (u.dropWhile blankB ++ 32 :: t).take m, true) :: kts ((u.dropWhile blankB ++ 32 :: t).drop m) →
          (ktsBad u = false → kts (u ++ 32 :: t) = (kts u).dropLast ++ kts t) ∧ (ktsBad u = true → ktsBad (u ++ 32 :: t) = true) := fun k m hm hml e1 e2 => by
        have ih := kts_sp n ((u.dropWhile blankB).drop m) t (by rw [List.length_drop]; omega)
        have e3 : (u.dropWhile blankB ++ 32 :: t).take m = (u.dropWhile blankB).take m := List.take_append_of_le_length hml
        have e4 : (u.dropWhile blankB ++ 32 :: t).drop m = (u.dropWhile blankB).drop m ++ 32 :: t := List.drop_append_of_le_length hml
        rw [e3, e4] at e2
        constructor
        · intro hb
          have hb' : ktsBad ((u.dropWhile blankB).drop m) = false := by
            unfold ktsBad at hb ⊢
            rw [e1] at hb
            simpa using hb
          rw [e2, e1, ih.1 hb', List.dropLast_cons_of_ne_nil (kts_ne _)]
          rfl
        · intro hb
          have hb' : ktsBad ((u.dropWhile blankB).drop m) = true := by
            unfold ktsBad at hb ⊢
            rw [e1] at hb
            simpa using hb
          have := ih.2 hb'
          unfold ktsBad at this ⊢
          rw [e2]
          simpa using this
      have eu := kts_eq u
      have ev := kts_eq (u ++ 32 :: t)
      rw [e] at ev
      rw [if_neg h0] at eu
      rw [if_neg hne, nameL_sp _ _ h0, signL_sp] at ev
      by_cases h1 : 0 < nameL (u.dropWhile blankB)
      · rw [if_pos h1] at eu ev
        exact key 1 _ h1 (nameL_le' _) eu ev
      · rw [if_neg h1] at eu ev
        by_cases h2 : 0 < signL (u.dropWhile blankB)
        · rw [if_pos h2] at eu ev
          exact key 2 _ h2 (signL_mem _ h2).2 eu ev
        · rw [if_neg h2] at eu ev
          constructor
          · intro hb
            unfold ktsBad at hb
            rw [eu] at hb
            cases hb
          · intro _
            unfold ktsBad
            rw [ev]
            rfl

theorem dropW_head (p : UInt8 → Bool) : ∀ (l : List UInt8), l.dropWhile p = [] ∨ ∃ c m, l.dropWhile p = c :: m ∧ p c = false
  | [] => .inl rfl
  | c :: l => by
    simp only [List.dropWhile]
    split
    · exact dropW_head p l
    · rename_i hc
      exact .inr ⟨c, l, rfl, by simpa using hc⟩

theorem runL_take (p : UInt8 → Bool) : ∀ (l : List UInt8), runL p (l.take (runL p l)) = runL p l
  | [] => rfl
  | c :: l => by
    have ih := runL_take p l
    unfold runL at ih ⊢
    simp only [List.takeWhile]
    split
    · rename_i hc
      simp only [List.length_cons, List.take_succ_cons, List.takeWhile, hc, ih]
    · rfl
theorem runL_stop (p : UInt8 → Bool) : ∀ (l : List UInt8) (k : Nat), runL p l < k → runL p (l.take k) = runL p l
  | [], k, _ => by simp
  | c :: l, 0, h => by omega
  | c :: l, k + 1, h => by
    unfold runL at h ⊢
    simp only [List.takeWhile, List.take_succ_cons] at h ⊢
    split
    · rename_i hc
      rw [hc] at h
      have := runL_stop p l k (by unfold runL; simpa using h)
      unfold runL at this
      simp only [List.length_cons, this]
    · rfl
theorem nameL_q (d : List UInt8) (hc : (d[0]?).map UInt8.toNat = some 34) : nameL d = quotL d := by unfold nameL; rw [if_pos hc]
theorem nameL_r (d : List UInt8) (hc : ¬ (d[0]?).map UInt8.toNat = some 34) : nameL d = runL letterB d := by unfold nameL; rw [if_neg hc]
theorem quotL_take (d : List UInt8) (h : 0 < quotL d) : quotL (d.take (quotL d)) = quotL d := by
  have hle := quotL_le' d
  have hq : quotL d = 1 + runL innerB (d.drop 1) + 1 ∧ ¬ (1 + runL innerB (d.drop 1) < 2) ∧ (d[1 + runL innerB (d.drop 1)]?).map UInt8.toNat = some 34 := by
    unfold quotL at h ⊢
    split
    · rename_i h1
      rw [if_pos h1] at h
      omega
    · rename_i h1
      rw [if_neg h1] at h
      split
      · rename_i h2
        exact ⟨rfl, h1, h2⟩
      · rename_i h2
        rw [if_neg h2] at h
        omega
  obtain ⟨q1, q2, q3⟩ := hq
  generalize quotL d = q at h hle q1 ⊢
  have e1 : (d.take q).drop 1 = (d.drop 1).take (q - 1) := List.drop_take
  have e2 : runL innerB ((d.drop 1).take (q - 1)) = runL innerB (d.drop 1) := runL_stop _ _ _ (by omega)
  have e4 : (d.take q)[1 + runL innerB (d.drop 1)]? = d[1 + runL innerB (d.drop 1)]? := by rw [List.getElem?_take, if_pos (by omega)]
  have e3 : quotL (d.take q) = if 1 + runL innerB ((d.take q).drop 1) < 2 then 0 else if ((d.take q)[1 + runL innerB ((d.take q).drop 1)]?).map UInt8.toNat = some 34 then 1 + runL innerB ((d.take q).drop 1) + 1 else 0 := rfl
  rw [e3, e1, e2, if_neg q2, e4, if_pos q3]
  omega
theorem nameL_take (d : List UInt8) (h : 0 < nameL d) : nameL (d.take (nameL d)) = nameL d := by
  have h0 : (d.take (nameL d))[0]? = d[0]? := by rw [List.getElem?_take, if_pos h]
  by_cases hc : (d[0]?).map UInt8.toNat = some 34
  · rw [nameL_q (d.take (nameL d)) (by rw [h0]; exact hc)]
    rw [nameL_q d hc] at h ⊢
    exact quotL_take d h
  · rw [nameL_r (d.take (nameL d)) (by rw [h0]; exact hc), nameL_r d hc, runL_take]
theorem kts_own_name (l d : List UInt8) (hd : l.dropWhile blankB = d) (h : 0 < nameL d) : kts (d.take (nameL d)) = [(1, d.take (nameL d), true), (0, [], true)] := by
  have hle := nameL_le' d
  obtain ⟨m, hm⟩ : ∃ m, nameL d = m + 1 := ⟨nameL d - 1, by omega⟩
  rcases dropW_head blankB l with h0 | ⟨c, e, h0, hc⟩
  · rw [hd] at h0
    subst h0
    simp at hle
    omega
  · rw [hd] at h0
    have hw : (d.take (nameL d)).dropWhile blankB = d.take (nameL d) := by
      rw [hm, h0]
      simp [List.dropWhile, hc]
    have hn : d.take (nameL d) ≠ [] := by
      rw [hm, h0]
      simp
    have hl : (d.take (nameL d)).length = nameL d := by rw [List.length_take]; omega
    rw [kts_eq, hw, if_neg hn, nameL_take d h, if_pos h, List.take_take, Nat.min_self, List.drop_of_length_le (by omega), kts_nil]
theorem kts_own_sign : ∀ x ∈ sgs, kts x = [(2, x, true), (0, [], true)] := by decide

/-- All texts with a blank ahead of each. -/
def joined : List (Int × List UInt8 × Bool) → List UInt8
  | [] => []
  | x :: xs => 32 :: (x.2.1 ++ joined xs)
theorem joined_one (x : List UInt8) (k : Int) (h : kts x = [(k, x, true), (0, [], true)]) (l : List (Int × List UInt8 × Bool)) (hl : l ≠ []) : kts (joined ((k, x, true) :: l)) = (k, x, true) :: kts (joined l) := by
  obtain ⟨y, ys, rfl⟩ : ∃ y ys, l = y :: ys := by
    cases l with
    | nil => exact absurd rfl hl
    | cons y ys => exact ⟨y, ys, rfl⟩
  have hb : ktsBad x = false := by unfold ktsBad; rw [h]; rfl
  have e : joined ((k, x, true) :: y :: ys) = 32 :: (x ++ 32 :: (y.2.1 ++ joined ys)) := rfl
  have e2 : kts (joined (y :: ys)) = kts (y.2.1 ++ joined ys) := kts_blank 32 _ (by decide)
  rw [e, kts_blank 32 _ (by decide), (kts_sp _ x _ (Nat.lt_succ_self _)).1 hb, h, e2]
  rfl
theorem kts_joined : ∀ (n : Nat) (l : List UInt8), l.length < n → ktsBad l = false → kts (joined (kts l)) = kts l
  | 0, l, h, _ => by omega
  | n + 1, l, h, hb => by
    have hd := dropW_le blankB l
    have e := kts_eq l
    by_cases h0 : l.dropWhile blankB = []
    · rw [if_pos h0] at e
      rw [e]
      decide
    · have hp : 0 < (l.dropWhile blankB).length := List.length_pos_iff.2 h0
      rw [if_neg h0] at e
      have key : ∀ (k : Int) (m : Nat), 0 < m → kts ((l.dropWhile blankB).take m) = [(k, (l.dropWhile blankB).take m, true), (0, [], true)] → kts l = (k, (l.dropWhile blankB).take m, true) :: kts ((l.dropWhile blankB).drop m) → kts (joined (kts l)) = kts l := fun k m hm ho e1 => by
        have hb' : ktsBad ((l.dropWhile blankB).drop m) = false := by
          unfold ktsBad at hb ⊢
          rw [e1] at hb
          simpa using hb
        rw [e1, joined_one _ _ ho _ (kts_ne _), kts_joined n _ (by rw [List.length_drop]; omega) hb']
      by_cases h1 : 0 < nameL (l.dropWhile blankB)
      · rw [if_pos h1] at e
        exact key 1 _ h1 (kts_own_name l _ rfl h1) e
      · rw [if_neg h1] at e
        by_cases h2 : 0 < signL (l.dropWhile blankB)
        · rw [if_pos h2] at e
          exact key 2 _ h2 (kts_own_sign _ (signL_mem _ h2).1) e
        · rw [if_neg h2] at e
          unfold ktsBad at hb
          rw [e] at hb
          cases hb

/-- Where tokens stand. -/
theorem items_place : ∀ (n : Nat) (l : List UInt8) (a : Nat), l.length < n → ∀ x ∈ items l a, a ≤ x.1.place ∧ x.1.place + x.1.text.length ≤ a + l.length ∧ (l.drop (x.1.place - a)).take x.1.text.length = x.1.text ∧ (x.2 = false → x.1.place < a + l.length)
  | 0, l, a, h => by omega
  | n + 1, l, a, h => by
    have hd := dropW_le blankB l
    have hdl : l.drop (l.length - (l.dropWhile blankB).length) = l.dropWhile blankB := by
      obtain ⟨t, ht⟩ := List.dropWhile_suffix blankB (l := l)
      have : l.length - (l.dropWhile blankB).length = t.length := by
        have := congrArg List.length ht
        rw [List.length_append] at this
        omega
      rw [this]
      conv => lhs; rw [← ht]
      exact List.drop_left
    generalize hD : l.dropWhile blankB = d at hd hdl
    intro x hx
    rw [items_eq, hD] at hx
    by_cases h0 : d = []
    · rw [if_pos h0, List.mem_singleton] at hx
      subst hx
      refine ⟨by simp, by simp [h0], by simp, by simp⟩
    · have hp : 0 < d.length := List.length_pos_iff.2 h0
      rw [if_neg h0] at hx
      have key : ∀ (k : Int) (m : Nat), 0 < m → m ≤ d.length → x ∈ (((⟨k, d.take m, a + (l.length - d.length)⟩, true) : Tk × Bool) :: items (d.drop m) (a + (l.length - d.length) + m)) →
          a ≤ x.1.place ∧ x.1.place + x.1.text.length ≤ a + l.length ∧ (l.drop (x.1.place - a)).take x.1.text.length = x.1.text ∧ (x.2 = false → x.1.place < a + l.length) := fun k m hm hml hx => by
        rcases List.mem_cons.1 hx with rfl | hx
        · have e : (d.take m).length = m := by rw [List.length_take]; omega
          refine ⟨by simp, by simp only [e]; omega, ?_, by simp⟩
          simp only [e]
          rw [Nat.add_sub_cancel_left, hdl]
        · obtain ⟨p1, p2, p3, p4⟩ := items_place n (d.drop m) _ (by rw [List.length_drop]; omega) x hx
          rw [List.length_drop] at p2 p4
          refine ⟨by omega, by omega, ?_, fun h => by have := p4 h; omega⟩
          have e : l.drop (x.1.place - a) = (d.drop m).drop (x.1.place - (a + (l.length - d.length) + m)) := by
            rw [← hdl, List.drop_drop, List.drop_drop]
            congr 1
            rw [hdl]
            omega
          rw [e]
          exact p3
      by_cases h1 : 0 < nameL d
      · rw [if_pos h1] at hx
        exact key 1 _ h1 (nameL_le' d) hx
      · rw [if_neg h1] at hx
        by_cases h2 : 0 < signL d
        · rw [if_pos h2] at hx
          exact key 2 _ h2 (signL_mem d h2).2 hx
        · rw [if_neg h2, List.mem_singleton] at hx
          subst hx
          refine ⟨by simp, by simp only [List.length_nil]; omega, by simp, fun _ => by simp only []; omega⟩
end Go.Proofs.YtijecfmblddanaaDoor
