/- Tokens: the document's quoted. -/
import Derived.Test.YtijecfmblddanaaDoorTkRef
set_option linter.unusedVariables false
set_option linter.unusedSimpArgs false
namespace Go.Proofs.YtijecfmblddanaaDoor
open Go.RowKit Go.Maps

set_option maxHeartbeats 800000 in
theorem quoted_any (s : ByteArray) (hs : s.size ≤ 9223372036854775806) (w : World) : Calls Tryd.prog 53 #[.string s] w fun e w' => e = .returned (.int .i64 (quotL s.data.toList : Int)) ∧ w' = w := by
  have hsz : s.data.toList.length = s.size := Array.length_toList
  have hq : quotL s.data.toList = if 1 + runL innerB (s.data.toList.drop 1) < 2 then 0 else if (s.data.toList[1 + runL innerB (s.data.toList.drop 1)]?).map UInt8.toNat = some 34 then 1 + runL innerB (s.data.toList.drop 1) + 1 else 0 := rfl
  have HQ := Lib.hid hq
  have HSZ := Lib.hid hsz
  clear hq hsz
  go_enter Tryd.func53, Tryd.ntmps53
  go_wp2_with fail
  go_loopw [3] (fun i wr => ∃ k : Nat, 1 ≤ k ∧ (k ≤ s.size ∨ k = 1) ∧ i = .int .i64 k ∧ wr = w ∧ ∀ j b, 1 ≤ j → j < k → s.data.toList[j]? = some b → innerB b = true) (fun i _ => s.size - (intOf i).toNat)
  case atStart => exact ⟨1, Nat.le_refl _, .inr rfl, rfl, rfl, fun j b h h2 => by omega⟩
  case round =>
    obtain ⟨k, hk1, hk, rfl, rfl, hall⟩ := hrel
    have hall' : ∀ j b, j < k - 1 → (s.data.toList.drop 1)[j]? = some b → innerB b = true := fun j b hj hb => by
      rw [List.getElem?_drop] at hb
      exact hall (1 + j) b (by omega) (by omega) hb
    by_cases hlt : k < s.size
    · have hlt' : (k : Int) < (s.size : Int) := by omega
      have hb : s.data.toList[k]? = some s[k] := by
        rw [List.getElem?_eq_getElem (by have := HSZ.out; omega)]
        rfl
      have hb' : (s.data.toList.drop 1)[k - 1]? = some s[k] := by
        rw [List.getElem?_drop, show 1 + (k - 1) = k from by omega]
        exact hb
      have HB := Lib.hid hb
      have HB' := Lib.hid hb'
      have hbl := s[k].toNat_lt
      have HIN : Hid (innerB s[k] = (decide (32 < s[k].toNat) && decide (s[k].toNat ≤ 126) && !decide (s[k].toNat = 34))) := Lib.hid rfl
      have HR : Hid (innerB s[k] = false → runL innerB (s.data.toList.drop 1) = k - 1) := Lib.hid (fun hf => runL_at innerB _ _ hall' (by rw [List.length_drop, HSZ.out]; omega) (.inr ⟨_, hb', hf⟩))
      have HALL := Lib.hid hall
      clear hb hb' hall hall'
      by_cases hc : s[k].toNat = 34
      · have hcc : ((s[k].toNat : Int) == 34) = true := by simp; omega
        have hin : innerB s[k] = false := by rw [HIN.out, hc]; rfl
        have hr := HR.out hin
        by_cases h2 : k < 2
        · have h2' : (k : Int) < 2 := by omega
          have HE : Hid (quotL s.data.toList = 0) := Lib.hid (by rw [HQ.out, hr, if_pos (by omega)])
          clear hr hin hc
          go_wp2_with fail
          go_ret
          rw [HE.out]
          exact ⟨rfl, rfl⟩
        · have h2' : ¬ ((k : Int) < 2) := by omega
          have HE : Hid (quotL s.data.toList = k + 1) := Lib.hid (by
            rw [HQ.out, hr, if_neg (by omega), show 1 + (k - 1) = k from by omega, HB.out, if_pos (by simpa using hc)])
          clear hr hin hc
          go_wp2_with fail
          go_ret
          rw [HE.out]
          exact ⟨congrArg Ending.returned (congrArg (Value.int .i64) (by omega)), rfl⟩
      · have hcc : ((s[k].toNat : Int) == 34) = false := by simp; omega
        cases hin : innerB s[k] with
        | true =>
          have hin' := hin
          rw [HIN.out] at hin'
          simp only [Bool.and_eq_true, decide_eq_true_eq] at hin'
          have h3 : ¬ ((s[k].toNat : Int) < 33) := by omega
          have h4 : ¬ ((126 : Int) < (s[k].toNat : Int)) := by omega
          have HI := Lib.hid hin
          clear hin hin' hc
          go_wp2_with fail
          go_roundw
          case rel =>
            refine ⟨k + 1, by omega, .inl (by omega), by go_num, (by first | rfl | trivial), fun j b h1 hj hjb => ?_⟩
            by_cases e : j = k
            · subst e
              have := HB.out
              rw [this] at hjb
              cases hjb
              exact HI.out
            · exact HALL.out j b h1 (by omega) hjb
          case measure => simp [intOf]; omega
        | false =>
          have hr := HR.out hin
          have HE : Hid (quotL s.data.toList = 0) := Lib.hid (by
            rw [HQ.out, hr]
            by_cases h2 : 1 + (k - 1) < 2
            · rw [if_pos h2]
            · rw [if_neg h2, show 1 + (k - 1) = k from by omega, HB.out, if_neg (by simpa using hc)])
          have hin' := hin
          rw [HIN.out] at hin'
          clear hr hin
          by_cases h3 : (s[k].toNat : Int) < 33
          · clear hin' hc
            go_wp2_with fail
            go_ret
            rw [HE.out]
            exact ⟨rfl, rfl⟩
          · have h4 : (126 : Int) < (s[k].toNat : Int) := by
              have h5 : ¬ s[k].toNat ≤ 126 := fun h => by
                rw [decide_eq_true (show 32 < s[k].toNat by omega), decide_eq_true h, decide_eq_false hc] at hin'
                cases hin'
              omega
            clear hin' hc
            go_wp2_with fail
            go_ret
            rw [HE.out]
            exact ⟨rfl, rfl⟩
    · have hlt' : ¬ ((k : Int) < (s.size : Int)) := by omega
      have HE : Hid (quotL s.data.toList = 0) := Lib.hid (by
        have hsz := HSZ.out
        have hr : runL innerB (s.data.toList.drop 1) = s.size - 1 := by
          refine runL_at innerB _ _ (fun j b hj hb => hall' j b (by omega) hb) (by rw [List.length_drop]; omega) (.inl (by rw [List.length_drop]; omega))
        rw [HQ.out, hr]
        by_cases h2 : 1 + (s.size - 1) < 2
        · rw [if_pos h2]
        · rw [if_neg h2, List.getElem?_eq_none (by omega)]
          rfl)
      clear hall hall'
      go_wp2_with fail
      go_ret
      rw [HE.out]
      exact ⟨rfl, rfl⟩

theorem tk_name {c : UInt8} {d : List UInt8} (a : Nat) (hb : blankB c = false) (hn : 0 < nameL (c :: d)) : items (c :: d) a = (⟨1, (c :: d).take (nameL (c :: d)), a⟩, true) :: items ((c :: d).drop (nameL (c :: d))) (a + nameL (c :: d)) := by
  have h := items_eq (c :: d) a
  have e : (c :: d).dropWhile blankB = c :: d := by simp [List.dropWhile, hb]
  rw [e, if_neg (by simp), if_pos hn, Nat.sub_self, Nat.add_zero] at h
  exact h
theorem tk_sign {c : UInt8} {d : List UInt8} (a : Nat) (hb : blankB c = false) (hn : nameL (c :: d) = 0) (hs : 0 < signL (c :: d)) : items (c :: d) a = (⟨2, (c :: d).take (signL (c :: d)), a⟩, true) :: items ((c :: d).drop (signL (c :: d))) (a + signL (c :: d)) := by
  have h := items_eq (c :: d) a
  have e : (c :: d).dropWhile blankB = c :: d := by simp [List.dropWhile, hb]
  rw [e, if_neg (by simp), if_neg (by omega), if_pos hs, Nat.sub_self, Nat.add_zero] at h
  exact h
theorem tk_none {c : UInt8} {d : List UInt8} (a : Nat) (hb : blankB c = false) (hn : nameL (c :: d) = 0) (hs : signL (c :: d) = 0) : items (c :: d) a = [(⟨2, [], a⟩, false)] := by
  have h := items_eq (c :: d) a
  have e : (c :: d).dropWhile blankB = c :: d := by simp [List.dropWhile, hb]
  rw [e, if_neg (by simp), if_neg (by omega), if_neg (by omega), Nat.sub_self, Nat.add_zero] at h
  exact h
theorem tk_end (a : Nat) : items [] a = [(⟨0, [], a⟩, true)] := by
  have h := items_eq [] a
  simpa using h

theorem letter_not (c : UInt8) : blankB c = true → letterB c = false := by
  unfold blankB letterB
  intro h
  simp only [Bool.or_eq_true, decide_eq_true_eq] at h
  rw [Bool.eq_false_iff]
  intro h2
  simp only [Bool.or_eq_true, Bool.and_eq_true, decide_eq_true_eq] at h2
  omega
theorem letter_quote (c : UInt8) (h : c.toNat = 34) : letterB c = false := by
  unfold letterB
  rw [h]
  rfl
end Go.Proofs.YtijecfmblddanaaDoor
