/- Formulas: the document's Word and Kids. -/
import Derived.Test.YtijecfmblddanaaDoorFmWord
set_option linter.unusedVariables false
set_option linter.unusedSimpArgs false
namespace Go.Proofs.YtijecfmblddanaaDoor
open Go.RowKit Go.Maps

set_option maxHeartbeats 1000000 in
theorem rword_any (s : ByteArray) (hs : s.size ≤ 9223372036854775806) (w : World) : Calls Tryd.prog 77 #[.string s] w fun e w' => e = .returned (.bool (wordB s.data.toList)) ∧ w' = w := by
  have hsz : s.data.toList.length = s.size := Array.length_toList
  have HSZ := Lib.hid hsz
  have HW := Lib.hid (wordB_eq s.data.toList)
  clear hsz
  go_enter Tryd.func77, Tryd.ntmps77
  go_wp2_with fail
  go_loopw [3] (fun i wr => ∃ k : Nat, k ≤ s.size ∧ i = .int .i64 (k : Int) ∧ wr = w ∧ ∀ (j : Nat) (b : UInt8), j < k → s.data.toList[j]? = some b → wByte b = true) (fun i _ => s.size - (intOf i).toNat)
  case atStart => exact ⟨0, Nat.zero_le _, rfl, rfl, fun j b h => by omega⟩
  case round =>
    obtain ⟨k, hk, rfl, rfl, hall⟩ := hrel
    have HALL := Lib.hid hall
    clear hall
    by_cases hlt : k < s.size
    · have hlt' : (k : Int) < (s.size : Int) := by omega
      have hb : s.data.toList[k]? = some s[k] := by
        rw [List.getElem?_eq_getElem (by have := HSZ.out; omega)]
        rfl
      have HB := Lib.hid hb
      clear hb
      have HWB : Hid (wByte s[k] = (decide (33 ≤ s[k].toNat) && decide (s[k].toNat ≤ 126) && !decide (s[k].toNat = 34))) := Lib.hid rfl
      have HF : Hid (wByte s[k] = false → wordB s.data.toList = false) := Lib.hid (fun h => by
        rw [HW.out, all_false_at HB.out h]
        rfl)
      by_cases h1 : s[k].toNat < 33
      · have h1' : (s[k].toNat : Int) < 33 := by omega
        have HE := Lib.hid (HF.out (by rw [HWB.out, decide_eq_false (by omega)]; rfl))
        go_wp2_with fail
        go_ret
        rw [HE.out]
        exact ⟨rfl, rfl⟩
      · have h1' : ¬ ((s[k].toNat : Int) < 33) := by omega
        by_cases h2 : 126 < s[k].toNat
        · have h2' : (126 : Int) < (s[k].toNat : Int) := by omega
          have HE := Lib.hid (HF.out (by rw [HWB.out, decide_eq_false (show ¬ s[k].toNat ≤ 126 by omega), Bool.and_false]; rfl))
          go_wp2_with fail
          go_ret
          rw [HE.out]
          exact ⟨rfl, rfl⟩
        · have h2' : ¬ ((126 : Int) < (s[k].toNat : Int)) := by omega
          by_cases h3 : s[k].toNat = 34
          · have h3' : ((s[k].toNat : Int) == 34) = true := by simp; omega
            have HE := Lib.hid (HF.out (by rw [HWB.out, decide_eq_true h3]; simp))
            clear h3
            go_wp2_with fail
            go_ret
            rw [HE.out]
            exact ⟨rfl, rfl⟩
          · have h3' : ((s[k].toNat : Int) == 34) = false := by simp; omega
            have HT : Hid (wByte s[k] = true) := Lib.hid (by rw [HWB.out]; simp [h3]; omega)
            clear h3
            go_wp2_with fail
            go_roundw
            case rel =>
              refine ⟨k + 1, by omega, by go_num, (by first | rfl | trivial), fun j b hj hjb => ?_⟩
              by_cases e : j = k
              · subst e
                have := HB.out
                rw [this] at hjb
                cases hjb
                exact HT.out
              · exact HALL.out j b (by omega) hjb
            case measure => simp [intOf]; omega
    · obtain rfl : k = s.size := by omega
      have hall2 : s.data.toList.all wByte = true := all_of fun j b hb => HALL.out j b (by have := (List.getElem?_eq_some_iff.1 hb).1; have := HSZ.out; omega) hb
      have HE : Hid (wordB s.data.toList = (decide (0 < s.size) && decide (s.size ≤ 20))) := Lib.hid (by rw [HW.out, hall2, HSZ.out, Bool.true_and])
      clear hall2
      by_cases h0 : 0 < s.size
      · have h0' : 0 < (s.size : Int) := by omega
        by_cases h20 : s.size ≤ 20
        · have h20' : (s.size : Int) ≤ 20 := by omega
          have HE2 : Hid (wordB s.data.toList = true) := Lib.hid (by rw [HE.out, decide_eq_true h20, decide_eq_true h0]; rfl)
          go_wp2_with fail
          go_ret
          rw [HE2.out]
          exact ⟨rfl, rfl⟩
        · have h20' : ¬ ((s.size : Int) ≤ 20) := by omega
          have HE2 : Hid (wordB s.data.toList = false) := Lib.hid (by rw [HE.out, decide_eq_false h20]; simp)
          go_wp2_with fail
          go_ret
          rw [HE2.out]
          exact ⟨rfl, rfl⟩
      · have h0' : ¬ (0 < (s.size : Int)) := by omega
        have HE2 : Hid (wordB s.data.toList = false) := Lib.hid (by rw [HE.out, decide_eq_false h0]; simp)
        go_wp2_with fail
        go_ret
        rw [HE2.out]
        exact ⟨rfl, rfl⟩

set_option maxHeartbeats 1000000 in
theorem rkids_any (k : Int) (w : World) : Calls Tryd.prog 42 #[.int .i64 k] w fun e w' => e = .returned (.int .i64 (nk k)) ∧ w' = w := by
  have HN : Hid (nk k = if k < 1 ∨ 18 < k then -1 else if k ≤ 3 then 0 else if k = 4 ∨ (9 ≤ k ∧ k ≤ 14) then 1 else 2) := Lib.hid rfl
  generalize nk k = r at HN
  by_cases h1 : k < 1
  · have HE : Hid (r = -1) := Lib.hid (by rw [HN.out, if_pos (.inl h1)])
    go_enter Tryd.func42, Tryd.ntmps42
    go_wp2_with fail
    go_ret
    rw [HE.out]
    exact ⟨rfl, rfl⟩
  · by_cases h2 : 18 < k
    · have HE : Hid (r = -1) := Lib.hid (by rw [HN.out, if_pos (.inr h2)])
      go_enter Tryd.func42, Tryd.ntmps42
      go_wp2_with fail
      go_ret
      rw [HE.out]
      exact ⟨rfl, rfl⟩
    · by_cases h3 : k ≤ 3
      · have HE : Hid (r = 0) := Lib.hid (by rw [HN.out, if_neg (by omega), if_pos h3])
        go_enter Tryd.func42, Tryd.ntmps42
        go_wp2_with fail
        go_ret
        rw [HE.out]
        exact ⟨rfl, rfl⟩
      · by_cases h4 : k = 4
        · have HE : Hid (r = 1) := Lib.hid (by rw [HN.out, if_neg (by omega), if_neg h3, if_pos (.inl h4)])
          have h4' : (k == 4) = true := by simpa using h4
          clear h4
          go_enter Tryd.func42, Tryd.ntmps42
          go_wp2_with fail
          go_ret
          rw [HE.out]
          exact ⟨rfl, rfl⟩
        · have h4' : (k == 4) = false := by simpa using h4
          by_cases h5 : 9 ≤ k
          · by_cases h6 : k ≤ 14
            · have HE : Hid (r = 1) := Lib.hid (by rw [HN.out, if_neg (by omega), if_neg h3, if_pos (.inr ⟨h5, h6⟩)])
              clear h4
              go_enter Tryd.func42, Tryd.ntmps42
              go_wp2_with fail
              go_ret
              rw [HE.out]
              exact ⟨rfl, rfl⟩
            · have HE : Hid (r = 2) := Lib.hid (by rw [HN.out, if_neg (by omega), if_neg h3, if_neg (by omega)])
              clear h4
              go_enter Tryd.func42, Tryd.ntmps42
              go_wp2_with fail
              go_ret
              rw [HE.out]
              exact ⟨rfl, rfl⟩
          · have HE : Hid (r = 2) := Lib.hid (by rw [HN.out, if_neg (by omega), if_neg h3, if_neg (by omega)])
            clear h4
            go_enter Tryd.func42, Tryd.ntmps42
            go_wp2_with fail
            go_ret
            rw [HE.out]
            exact ⟨rfl, rfl⟩
end Go.Proofs.YtijecfmblddanaaDoor
