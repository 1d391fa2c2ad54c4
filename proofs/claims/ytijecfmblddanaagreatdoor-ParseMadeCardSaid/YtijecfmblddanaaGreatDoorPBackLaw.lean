/- Parsing: plain laws: what is printed is parsed to the same, in brackets, too. -/
import Derived.Test.YtijecfmblddanaaGreatDoorG2
import Derived.Test.YtijecfmblddanaaGreatDoorG6
set_option linter.unusedVariables false
set_option linter.unusedSimpArgs false
namespace Go.Proofs.YtijecfmblddanaaGreatDoor

theorem parseOf_of {s : List UInt8} {f : Fm} {t : List KT} (h0 : s.length ≤ 20000) (hb : lexBad s = false) (ht : (lexToks s).map ktOf = t) (hp : parseT t = (f, 0, 0)) : parseOf s = (f, 0, 0) := by
  unfold parseOf
  rw [if_neg (by omega), if_neg (by simp [hb]), ht, hp]
  rfl
theorem parseOf_txt {f : Fm} (h : f.ok = true) (hl : f.txt.length ≤ 20000) : parseOf f.txt = (f, 0, 0) :=
  parseOf_of hl (lex_ok f (ok_wf' h)).1 (lex_ok f (ok_wf' h)).2 (parseT_back h)
def inBr (s : List UInt8) : List UInt8 := [32, 40, 32, 40] ++ s ++ [41, 10, 41, 32]
theorem kts_br {f : Fm} (h : f.ok = true) : kts (inBr f.txt) = (2, [40], true) :: (2, [40], true) :: (f.tks.map up ++ [(2, [41], true), (2, [41], true), (0, [], true)]) := by
  have e : inBr f.txt = 32 :: ([40] ++ (32 :: ([40] ++ (f.txt ++ ([41] ++ (10 :: ([41] ++ [32]))))))) := by
    unfold inBr
    simp
  rw [e, kts_blank _ _ b32, kts_sign [40] _ (by decide), kts_blank _ _ b32, kts_sign [40] _ (by decide), (kts_txt _ f (Nat.lt_succ_self _) 60 (ok_wf' h)).1 _ (stopN_app s41), kts_sign [41] _ (by decide), kts_blank 10 _ (by decide), kts_sign [41] _ (by decide), kts_blank _ _ b32, kts_nil]
theorem parseT_br {f : Fm} (h : f.ok = true) : parseT ((2, [40]) :: (2, [40]) :: (f.tks ++ [(2, [41]), (2, [41]), (0, [])])) = (f, 0, 0) := by
  have s2 : ∀ r, stopT ((2, [41]) :: r) := fun r => stop_of (by decide) (by decide) (by decide) (by decide)
  have h1 : wholeP (3 * f.tks.length + 12) 2 (f.tks ++ [(2, [41]), (2, [41]), (0, [])]) = .ok f [(2, [41]), (2, [41]), (0, [])] :=
    (parse_back _ f (Nat.lt_succ_self _) 60 (ok_wf' h)).2 _ 2 _ (by decide) (by simp; omega) (s2 _)
  have h2 : wholeP (3 * f.tks.length + 15) 1 ((2, [40]) :: (f.tks ++ [(2, [41]), (2, [41]), (0, [])])) = .ok f [(2, [41]), (0, [])] :=
    whole_one (n := 3 * f.tks.length + 13) (by decide) (part_paren (by decide) h1) (s2 _)
  have h3 : wholeP (3 * f.tks.length + 18) 0 ((2, [40]) :: (2, [40]) :: (f.tks ++ [(2, [41]), (2, [41]), (0, [])])) = .ok f [(0, [])] :=
    whole_one (n := 3 * f.tks.length + 16) (by decide) (part_paren (by decide) h2) (stop_end _ _)
  unfold parseT
  rw [show 3 * ((2, [40]) :: (2, [40]) :: (f.tks ++ [(2, [41]), (2, [41]), (0, [])]) : List KT).length + 3 = 3 * f.tks.length + 18 by simp; omega, h3, finT_ok, if_neg (by decide), if_pos h]
theorem parseOf_br {f : Fm} (h : f.ok = true) (hl : f.txt.length ≤ 19000) : parseOf (inBr f.txt) = (f, 0, 0) := by
  have hk := kts_br h
  refine parseOf_of (t := (2, [40]) :: (2, [40]) :: (f.tks ++ [(2, [41]), (2, [41]), (0, [])])) (by unfold inBr; simp; omega) ?_ ?_ (parseT_br h)
  · rw [lexBad_kts]
    unfold ktsBad
    rw [hk]
    simp [up]
  · rw [lexToks_kts, hk]
    simp only [List.map_cons, List.map_append, tks_up]
    rfl
theorem made_txt (l : List UInt8) : (madeF l).txt.length ≤ 19000 := by
  have h1 := madeF_sz l
  have h2 := txt_len _ (madeF l) (Nat.lt_succ_self _) 60 (ok_wf' (madeF_ok l))
  omega
end Go.Proofs.YtijecfmblddanaaGreatDoor
