/- Tokens: plain laws for the stage's theorems. -/
import Derived.Test.YtijecfmblddanaaDoorG2
set_option linter.unusedVariables false
set_option linter.unusedSimpArgs false
namespace Go.Proofs.YtijecfmblddanaaDoor

/-- Tokens' texts, a blank ahead of each. -/
def joinT (l : List Tk) : List UInt8 := l.flatMap fun t => 32 :: t.text
theorem joinT_snoc (l : List Tk) (t : Tk) : joinT (l ++ [t]) = (joinT l ++ [32]) ++ t.text := by
  unfold joinT
  rw [List.flatMap_append]
  simp
theorem joinT_items : ∀ l : List (Tk × Bool), joinT (l.map Prod.fst) = joined (l.map strip)
  | [] => rfl
  | x :: l => by
    have ih := joinT_items l
    unfold joinT at ih ⊢
    simp only [List.map_cons, List.flatMap_cons, joined, List.cons_append]
    rw [ih]
    rfl

theorem texts_le : ∀ (n : Nat) (l : List UInt8) (a : Nat), l.length < n → ((items l a).map fun x => x.1.text.length).sum ≤ l.length
  | 0, l, a, h => by omega
  | n + 1, l, a, h => by
    have hd := dropW_le blankB l
    rw [items_eq]
    by_cases h0 : l.dropWhile blankB = []
    · rw [if_pos h0]
      simp
    · rw [if_neg h0]
      by_cases h1 : 0 < nameL (l.dropWhile blankB)
      · rw [if_pos h1, List.map_cons, List.sum_cons]
        have hl := nameL_le' (l.dropWhile blankB)
        have ih := texts_le n ((l.dropWhile blankB).drop (nameL (l.dropWhile blankB))) (a + (l.length - (l.dropWhile blankB).length) + nameL (l.dropWhile blankB)) (by rw [List.length_drop]; omega)
        rw [List.length_drop] at ih
        simp only [List.length_take]
        omega
      · rw [if_neg h1]
        by_cases h2 : 0 < signL (l.dropWhile blankB)
        · rw [if_pos h2, List.map_cons, List.sum_cons]
          have hl := (signL_mem _ h2).2
          have ih := texts_le n ((l.dropWhile blankB).drop (signL (l.dropWhile blankB))) (a + (l.length - (l.dropWhile blankB).length) + signL (l.dropWhile blankB)) (by rw [List.length_drop]; omega)
          rw [List.length_drop] at ih
          simp only [List.length_take]
          omega
        · rw [if_neg h2]
          simp
theorem joinT_len : ∀ l : List (Tk × Bool), (joinT (l.map Prod.fst)).length = (l.map fun x => x.1.text.length).sum + l.length
  | [] => rfl
  | x :: l => by
    have ih := joinT_len l
    unfold joinT at ih ⊢
    simp only [List.map_cons, List.flatMap_cons, List.length_append, List.length_cons, List.sum_cons]
    rw [ih]
    omega
theorem joinT_take (l : List Tk) (k : Nat) : (joinT (l.take k)).length ≤ (joinT l).length := by
  unfold joinT
  conv => rhs; rw [← List.take_append_drop k l]
  rw [List.flatMap_append, List.length_append]
  omega

/-- Two lists of tokens that are alike but for places. -/
def Alike (a b : List Tk) : Prop := a.length = b.length ∧ ∀ (i : Nat) (x y : Tk), a[i]? = some x → b[i]? = some y → x.kind = y.kind ∧ x.text = y.text
theorem alike_of {a b : List UInt8} (h : kts a = kts b) : Alike (lexToks a) (lexToks b) ∧ lexBad a = lexBad b := by
  have hl : (items a 0).length = (items b 0).length := by
    have := congrArg List.length h
    simpa [kts] using this
  refine ⟨⟨by simp [lexToks, hl], fun i x y hx hy => ?_⟩, by rw [lexBad_kts, lexBad_kts]; unfold ktsBad; rw [h]⟩
  have h2 : (kts a)[i]? = (kts b)[i]? := by rw [h]
  unfold kts at h2
  unfold lexToks at hx hy
  rw [List.getElem?_map] at h2 hx hy
  rw [List.getElem?_map] at h2
  cases ha : (items a 0)[i]? with
  | none => rw [ha] at hx; cases hx
  | some p =>
    cases hb : (items b 0)[i]? with
    | none => rw [hb] at hy; cases hy
    | some q =>
      rw [ha, hb] at h2
      rw [ha] at hx
      rw [hb] at hy
      simp only [Option.map_some, Option.some.injEq, strip, Prod.mk.injEq] at h2 hx hy
      subst hx hy
      exact ⟨h2.1, h2.2.1⟩

/-- TokenBack: what is printed is lexed to the same. -/
theorem back_law (l : List UInt8) (hb : lexBad l = false) : lexBad (joinT (lexToks l)) = false ∧ Alike (lexToks l) (lexToks (joinT (lexToks l))) ∧ (joinT (lexToks l)).length ≤ 2 * l.length + 1 := by
  have e : joinT (lexToks l) = joined (kts l) := joinT_items _
  have hk := kts_joined _ l (Nat.lt_succ_self _) (by rw [← lexBad_kts]; exact hb)
  obtain ⟨h1, h2⟩ := alike_of hk.symm
  refine ⟨by rw [e, ← h2]; exact hb, by rw [e]; exact h1, ?_⟩
  have h3 := joinT_len (items l 0)
  have h4 := texts_le _ l 0 (Nat.lt_succ_self _)
  have h5 : (items l 0).length ≤ l.length + 1 := by
    have : ∀ (n : Nat) (l : List UInt8) (a : Nat), l.length < n → (items l a).length ≤ l.length + 1 := by
      intro n
      induction n with
      | zero => intro l a h; omega
      | succ n ih =>
        intro l a h
        have hd := dropW_le blankB l
        rw [items_eq]
        by_cases h0 : l.dropWhile blankB = []
        · rw [if_pos h0]
          simp
        · have hp : 0 < (l.dropWhile blankB).length := List.length_pos_iff.2 h0
          rw [if_neg h0]
          by_cases h1 : 0 < nameL (l.dropWhile blankB)
          · rw [if_pos h1, List.length_cons]
            have := ih ((l.dropWhile blankB).drop (nameL (l.dropWhile blankB))) (a + (l.length - (l.dropWhile blankB).length) + nameL (l.dropWhile blankB)) (by rw [List.length_drop]; omega)
            rw [List.length_drop] at this
            omega
          · rw [if_neg h1]
            by_cases h2 : 0 < signL (l.dropWhile blankB)
            · rw [if_pos h2, List.length_cons]
              have := ih ((l.dropWhile blankB).drop (signL (l.dropWhile blankB))) (a + (l.length - (l.dropWhile blankB).length) + signL (l.dropWhile blankB)) (by rw [List.length_drop]; omega)
              rw [List.length_drop] at this
              omega
            · rw [if_neg h2]
              simp
    exact this _ l 0 (Nat.lt_succ_self _)
  have h6 : (joinT (lexToks l)).length = (joinT ((items l 0).map Prod.fst)).length := rfl
  omega

/-- A token of a text stands where it says. -/
theorem tok_place {l : List UInt8} {i : Nat} {t : Tk} (h : (lexToks l)[i]? = some t) : t.place + t.text.length ≤ l.length ∧ (l.drop t.place).take t.text.length = t.text := by
  unfold lexToks at h
  rw [List.getElem?_map] at h
  cases ha : (items l 0)[i]? with
  | none => rw [ha] at h; cases h
  | some p =>
    rw [ha] at h
    simp only [Option.map_some, Option.some.injEq] at h
    subst h
    obtain ⟨h1, h2, h3, h4⟩ := items_place _ l 0 (Nat.lt_succ_self _) p (List.mem_of_getElem? ha)
    rw [Nat.zero_add] at h2
    exact ⟨h2, h3⟩
theorem place_lt {l : List UInt8} (h : lexBad l = true) : lexPlace l < l.length := by
  unfold lexBad at h
  unfold lexPlace
  cases hf : (items l 0).find? (fun x => !x.2) with
  | none =>
    rw [List.find?_eq_none] at hf
    rw [List.any_eq_true] at h
    obtain ⟨x, hx, hx2⟩ := h
    exact absurd hx2 (hf x hx)
  | some x =>
    have hm := List.mem_of_find?_eq_some hf
    have hb := List.find?_some hf
    obtain ⟨_, _, _, h4⟩ := items_place _ l 0 (Nat.lt_succ_self _) x hm
    have := h4 (by simpa using hb)
    simpa using this

/-- TokenParts. -/
theorem parts_law (u t : List UInt8) : (lexBad u = true → lexBad (u ++ 32 :: t) = true) ∧ (lexBad u = false → lexBad t = true → lexBad (u ++ 32 :: t) = true) ∧
    (lexBad u = false → lexBad t = false → lexBad (u ++ 32 :: t) = false ∧ Alike (lexToks (u ++ 32 :: t)) ((lexToks u).dropLast ++ lexToks t) ∧ lexToks u ≠ []) := by
  have h := kts_sp _ u t (Nat.lt_succ_self _)
  simp only [lexBad_kts]
  refine ⟨h.2, fun hu ht => ?_, fun hu ht => ?_⟩
  · unfold ktsBad at ht ⊢
    rw [h.1 hu, List.any_append, ht, Bool.or_true]
  · have e := h.1 hu
    refine ⟨?_, ?_, ?_⟩
    · unfold ktsBad at hu ht ⊢
      rw [e, List.any_append, ht, Bool.or_false]
      rw [List.any_eq_false] at hu ⊢
      intro x hx
      exact hu x ((List.dropLast_sublist _).subset hx)
    · have e2 : (lexToks (u ++ 32 :: t)).map (fun x => (x.kind, x.text)) = ((lexToks u).dropLast ++ lexToks t).map (fun x => (x.kind, x.text)) := by
        have e3 : ∀ l, (lexToks l).map (fun x => (x.kind, x.text)) = (kts l).map (fun x => (x.1, x.2.1)) := fun l => by
          unfold lexToks kts
          rw [List.map_map, List.map_map]
          rfl
        rw [e3, e, List.map_append, List.map_append, List.map_dropLast, ← e3, ← e3, List.map_dropLast]
      refine ⟨by have := congrArg List.length e2; simpa using this, fun i x y hx hy => ?_⟩
      have e4 : ((lexToks (u ++ 32 :: t)).map (fun x => (x.kind, x.text)))[i]? = (((lexToks u).dropLast ++ lexToks t).map (fun x => (x.kind, x.text)))[i]? := by rw [e2]
      rw [List.getElem?_map, List.getElem?_map, hx, hy] at e4
      simp only [Option.map_some, Option.some.injEq, Prod.mk.injEq] at e4
      exact e4
    · intro hn
      have := kts_ne u
      unfold kts at this
      unfold lexToks at hn
      simp only [List.map_eq_nil_iff] at hn
      rw [hn] at this
      exact this rfl
end Go.Proofs.YtijecfmblddanaaDoor
