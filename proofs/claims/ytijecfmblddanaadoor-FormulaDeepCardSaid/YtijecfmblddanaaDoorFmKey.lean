/- Formulas: Key, the document's Key and plain. -/
import Derived.Test.YtijecfmblddanaaDoorFmWord
set_option linter.unusedVariables false
set_option linter.unusedSimpArgs false
namespace Go.Proofs.YtijecfmblddanaaDoor
open Go.RowKit Go.Maps

def keyV : List Value := keyWords.map fun x => .string ⟨x.toArray⟩
theorem keyV_arr : keyV.toArray = (#[.string ⟨#[116, 114, 117, 101]⟩, .string ⟨#[102, 97, 108, 115, 101]⟩, .string ⟨#[69]⟩, .string ⟨#[65]⟩, .string ⟨#[69, 88]⟩, .string ⟨#[65, 88]⟩, .string ⟨#[69, 70]⟩, .string ⟨#[65, 70]⟩, .string ⟨#[69, 71]⟩, .string ⟨#[65, 71]⟩, .string ⟨#[85]⟩, .string ⟨#[82]⟩] : Array Value) := rfl

set_option maxHeartbeats 1000000 in
theorem rkey_any (s : ByteArray) (w : World) : Calls Tryd.prog 99 #[.string s] w (Ret w (.bool (keyB s.data.toList))) := by
  have hB := Blk.new w 9 keyV.toArray
  have hb := stepA w (.cells keyV.toArray 9)
  obtain ⟨w1, hw1⟩ : ∃ w1, w1 = w.alloc (.cells (#[.string ⟨#[116, 114, 117, 101]⟩, .string ⟨#[102, 97, 108, 115, 101]⟩, .string ⟨#[69]⟩, .string ⟨#[65]⟩, .string ⟨#[69, 88]⟩, .string ⟨#[65, 88]⟩, .string ⟨#[69, 70]⟩, .string ⟨#[65, 70]⟩, .string ⟨#[69, 71]⟩, .string ⟨#[65, 71]⟩, .string ⟨#[85]⟩, .string ⟨#[82]⟩] : Array Value) 9) := ⟨_, rfl⟩
  rw [keyV_arr, ← hw1] at hb
  have hB2 : Blk w1 w.heap.size 9 keyV.toArray := by rw [hw1]; exact hB
  have HW1 := Lib.hid hw1
  have HB := Lib.hid hb
  have HP := Lib.hid hB2
  clear hB hB2 hb hw1
  go_enter Tryd.func99, Tryd.ntmps99
  go_wp2_with fail
  rw [← HW1.out]
  go_loopw [4] (fun i wr => ∃ k : Nat, k ≤ 12 ∧ i = .int .i64 (k : Int) ∧ wr = w1 ∧ ∀ j x, j < k → keyWords[j]? = some x → (x == s.data.toList) = false) (fun i _ => 12 - (intOf i).toNat)
  case atStart => exact ⟨0, Nat.zero_le _, rfl, rfl, fun j x h => by omega⟩
  case round =>
    obtain ⟨k, hk, rfl, rfl, hall⟩ := hrel
    have HALL := Lib.hid hall
    clear hall
    by_cases hlt : k < 12
    · have hlt' : (k : Int) < 12 := by omega
      obtain ⟨x, hx⟩ : ∃ x, keyWords[k]? = some x := ⟨_, List.getElem?_eq_getElem (by simpa [keyWords] using hlt)⟩
      have hc : wr.cell? ⟨w.heap.size, k, none⟩ = some (.string ⟨x.toArray⟩) := by
        rw [HP.out.cell, List.getElem?_toArray]
        unfold keyV
        rw [List.getElem?_map, hx]
        rfl
      have hee : ((⟨x.toArray⟩ : ByteArray).toList == s.toList) = (x == s.data.toList) := by rw [Lib.toList_data, Lib.toList_data]
      have HX := Lib.hid hx
      clear hx
      generalize (⟨x.toArray⟩ : ByteArray) = X at hc hee
      cases he : (x == s.data.toList) with
      | true =>
        rw [he] at hee
        have HE : Hid (keyB s.data.toList = true) := Lib.hid (by
          unfold keyB
          have hm := List.mem_of_getElem? HX.out
          rw [beq_iff_eq] at he
          rw [← he]
          simpa using hm)
        clear he
        go_wp2_with fail
        go_ret
        rw [HE.out]
        exact ⟨rfl, HB.out⟩
      | false =>
        rw [he] at hee
        have HE := Lib.hid he
        clear he
        go_wp2_with fail
        go_roundw
        case rel =>
          refine ⟨k + 1, by omega, by go_num, (by first | rfl | trivial), fun j y hj hjy => ?_⟩
          by_cases e : j = k
          · subst e
            have := HX.out
            rw [this] at hjy
            cases hjy
            exact HE.out
          · exact HALL.out j y (by omega) hjy
        case measure => simp [intOf]; omega
    · obtain rfl : k = 12 := by omega
      have HE : Hid (keyB s.data.toList = false) := Lib.hid (by
        unfold keyB
        rw [Bool.eq_false_iff]
        intro h
        have hm : s.data.toList ∈ keyWords := by simpa using h
        obtain ⟨j, hj⟩ := List.getElem?_of_mem hm
        have := HALL.out j _ (by have := (List.getElem?_eq_some_iff.1 hj).1; simpa [keyWords] using this) hj
        simp at this)
      go_wp2_with fail
      go_ret
      rw [HE.out]
      exact ⟨rfl, HB.out⟩

set_option maxHeartbeats 1000000 in
theorem plain_any (s : ByteArray) (hs : s.size ≤ 9223372036854775806) (w : World) : Calls Tryd.prog 75 #[.string s] w (Ret w (.bool (plainB s.data.toList))) := by
  have hsz : s.data.toList.length = s.size := Array.length_toList
  have HSZ := Lib.hid hsz
  have HPL : Hid (plainB s.data.toList = (s.data.toList.all letterB && !keyB s.data.toList)) := Lib.hid rfl
  have HK := Lib.hid (fun w => rkey_any s w)
  clear hsz
  go_enter Tryd.func75, Tryd.ntmps75
  go_wp2_with fail
  go_loopw [3] (fun i wr => ∃ k : Nat, k ≤ s.size ∧ i = .int .i64 (k : Int) ∧ wr = w ∧ ∀ (j : Nat) (b : UInt8), j < k → s.data.toList[j]? = some b → letterB b = true) (fun i _ => s.size - (intOf i).toNat)
  case atStart => exact ⟨0, Nat.zero_le _, rfl, rfl, fun j b h => by omega⟩
  case round =>
    obtain ⟨k, hk, rfl, rfl, hall⟩ := hrel
    have HALL := Lib.hid hall
    clear hall
    by_cases hlt : k < s.size
    · have hlt' : (k : Int) < (s.size : Int) := by omega
      have hb : s.data.toList[k]? = some s[k] := by
        rw [List.getElem?_eq_getElem (by have := HSZ.out; omega)]
        rfl
      have HB := Lib.hid hb
      clear hb
      have hbl := s[k].toNat_lt
      have HLB : Hid (letterB s[k] = (decide (97 ≤ s[k].toNat) && decide (s[k].toNat ≤ 122) || decide (65 ≤ s[k].toNat) && decide (s[k].toNat ≤ 90) || decide (48 ≤ s[k].toNat) && decide (s[k].toNat ≤ 57) || decide (s[k].toNat = 95))) := Lib.hid rfl
      have HREL : Hid (letterB s[k] = true → ∀ (j : Nat) (b : UInt8), j < k + 1 → s.data.toList[j]? = some b → letterB b = true) := Lib.hid (fun h j b hj hjb => by
        by_cases e : j = k
        · subst e
          have := HB.out
          rw [this] at hjb
          cases hjb
          exact h
        · exact HALL.out j b (by omega) hjb)
      have HF : Hid (letterB s[k] = false → plainB s.data.toList = false) := Lib.hid (fun h => by rw [HPL.out, all_false_at HB.out h]; rfl)
      have hcase : ∃ lo hi : Nat, lo ≤ s[k].toNat ∧ s[k].toNat ≤ hi ∧ ((lo = 0 ∧ hi = 47) ∨ (lo = 48 ∧ hi = 57) ∨ (lo = 58 ∧ hi = 64) ∨ (lo = 65 ∧ hi = 90) ∨ (lo = 91 ∧ hi = 94) ∨ (lo = 95 ∧ hi = 95) ∨ (lo = 96 ∧ hi = 96) ∨ (lo = 97 ∧ hi = 122) ∨ (lo = 123 ∧ hi = 255)) := by
        by_cases h1 : s[k].toNat ≤ 47
        · exact ⟨0, 47, by omega, by omega, by omega⟩
        by_cases h2 : s[k].toNat ≤ 57
        · exact ⟨48, 57, by omega, by omega, by omega⟩
        by_cases h3 : s[k].toNat ≤ 64
        · exact ⟨58, 64, by omega, by omega, by omega⟩
        by_cases h4 : s[k].toNat ≤ 90
        · exact ⟨65, 90, by omega, by omega, by omega⟩
        by_cases h5 : s[k].toNat ≤ 94
        · exact ⟨91, 94, by omega, by omega, by omega⟩
        by_cases h6 : s[k].toNat ≤ 95
        · exact ⟨95, 95, by omega, by omega, by omega⟩
        by_cases h7 : s[k].toNat ≤ 96
        · exact ⟨96, 96, by omega, by omega, by omega⟩
        by_cases h8 : s[k].toNat ≤ 122
        · exact ⟨97, 122, by omega, by omega, by omega⟩
        exact ⟨123, 255, by omega, by omega, by omega⟩
      obtain ⟨lo, hi, hlo, hhi, hc⟩ := hcase
      rcases hc with ⟨rfl, rfl⟩ | ⟨rfl, rfl⟩ | ⟨rfl, rfl⟩ | ⟨rfl, rfl⟩ | ⟨rfl, rfl⟩ | ⟨rfl, rfl⟩ | ⟨rfl, rfl⟩ | ⟨rfl, rfl⟩ | ⟨rfl, rfl⟩
      · have HE := Lib.hid (HF.out (by rw [HLB.out]; simp only [Bool.or_eq_false_iff, Bool.and_eq_false_iff, decide_eq_false_iff_not]; omega))
        clear HREL HLB HF
        have hq : ((s[k].toNat : Int) == 95) = false := by first | (rw [beq_iff_eq]; omega) | (rw [beq_eq_false_iff_ne]; omega)
        go_wp2_with fail
        · go_ret
          rw [HE.out]
          exact ⟨rfl, Below.refl _ _⟩
        all_goals (exfalso; rename_i hx; simp only [Bool.not_eq_false', decide_eq_true_eq] at hx; omega)
      · have HR := Lib.hid (HREL.out (by rw [HLB.out]; simp only [Bool.or_eq_true, Bool.and_eq_true, decide_eq_true_eq]; omega))
        clear HREL HLB HF
        have hq : ((s[k].toNat : Int) == 95) = false := by first | (rw [beq_iff_eq]; omega) | (rw [beq_eq_false_iff_ne]; omega)
        go_wp2_with fail
        all_goals
          go_roundw
          case rel => exact ⟨k + 1, by omega, by go_num, (by first | rfl | trivial), HR.out⟩
          case measure => simp [intOf]; omega
      · have HE := Lib.hid (HF.out (by rw [HLB.out]; simp only [Bool.or_eq_false_iff, Bool.and_eq_false_iff, decide_eq_false_iff_not]; omega))
        clear HREL HLB HF
        have hq : ((s[k].toNat : Int) == 95) = false := by first | (rw [beq_iff_eq]; omega) | (rw [beq_eq_false_iff_ne]; omega)
        go_wp2_with fail
        · go_ret
          rw [HE.out]
          exact ⟨rfl, Below.refl _ _⟩
        all_goals (exfalso; rename_i hx; simp only [Bool.not_eq_false', decide_eq_true_eq] at hx; omega)
      · have HR := Lib.hid (HREL.out (by rw [HLB.out]; simp only [Bool.or_eq_true, Bool.and_eq_true, decide_eq_true_eq]; omega))
        clear HREL HLB HF
        have hq : ((s[k].toNat : Int) == 95) = false := by first | (rw [beq_iff_eq]; omega) | (rw [beq_eq_false_iff_ne]; omega)
        go_wp2_with fail
        all_goals
          go_roundw
          case rel => exact ⟨k + 1, by omega, by go_num, (by first | rfl | trivial), HR.out⟩
          case measure => simp [intOf]; omega
      · have HE := Lib.hid (HF.out (by rw [HLB.out]; simp only [Bool.or_eq_false_iff, Bool.and_eq_false_iff, decide_eq_false_iff_not]; omega))
        clear HREL HLB HF
        have hq : ((s[k].toNat : Int) == 95) = false := by first | (rw [beq_iff_eq]; omega) | (rw [beq_eq_false_iff_ne]; omega)
        go_wp2_with fail
        · go_ret
          rw [HE.out]
          exact ⟨rfl, Below.refl _ _⟩
        all_goals (exfalso; rename_i hx; simp only [Bool.not_eq_false', decide_eq_true_eq] at hx; omega)
      · have HR := Lib.hid (HREL.out (by rw [HLB.out]; simp only [Bool.or_eq_true, Bool.and_eq_true, decide_eq_true_eq]; omega))
        clear HREL HLB HF
        have hq : ((s[k].toNat : Int) == 95) = true := by first | (rw [beq_iff_eq]; omega) | (rw [beq_eq_false_iff_ne]; omega)
        go_wp2_with fail
        all_goals
          go_roundw
          case rel => exact ⟨k + 1, by omega, by go_num, (by first | rfl | trivial), HR.out⟩
          case measure => simp [intOf]; omega
      · have HE := Lib.hid (HF.out (by rw [HLB.out]; simp only [Bool.or_eq_false_iff, Bool.and_eq_false_iff, decide_eq_false_iff_not]; omega))
        clear HREL HLB HF
        have hq : ((s[k].toNat : Int) == 95) = false := by first | (rw [beq_iff_eq]; omega) | (rw [beq_eq_false_iff_ne]; omega)
        go_wp2_with fail
        · go_ret
          rw [HE.out]
          exact ⟨rfl, Below.refl _ _⟩
        all_goals (exfalso; rename_i hx; simp only [Bool.not_eq_false', decide_eq_true_eq] at hx; omega)
      · have HR := Lib.hid (HREL.out (by rw [HLB.out]; simp only [Bool.or_eq_true, Bool.and_eq_true, decide_eq_true_eq]; omega))
        clear HREL HLB HF
        have hq : ((s[k].toNat : Int) == 95) = false := by first | (rw [beq_iff_eq]; omega) | (rw [beq_eq_false_iff_ne]; omega)
        go_wp2_with fail
        all_goals
          go_roundw
          case rel => exact ⟨k + 1, by omega, by go_num, (by first | rfl | trivial), HR.out⟩
          case measure => simp [intOf]; omega
      · have HE := Lib.hid (HF.out (by rw [HLB.out]; simp only [Bool.or_eq_false_iff, Bool.and_eq_false_iff, decide_eq_false_iff_not]; omega))
        clear HREL HLB HF
        have hq : ((s[k].toNat : Int) == 95) = false := by first | (rw [beq_iff_eq]; omega) | (rw [beq_eq_false_iff_ne]; omega)
        go_wp2_with fail
        · go_ret
          rw [HE.out]
          exact ⟨rfl, Below.refl _ _⟩
        all_goals (exfalso; rename_i hx; simp only [Bool.not_eq_false', decide_eq_true_eq] at hx; omega)
    · obtain rfl : k = s.size := by omega
      have hall2 : s.data.toList.all letterB = true := all_of fun j b hb => HALL.out j b (by have := (List.getElem?_eq_some_iff.1 hb).1; have := HSZ.out; omega) hb
      have HE : Hid (plainB s.data.toList = !keyB s.data.toList) := Lib.hid (by rw [HPL.out, hall2, Bool.true_and])
      clear hall2
      generalize keyB s.data.toList = kk at HE HK
      go_wp2_with fail
      refine (HK.out _).mono ?_
      rintro e w2 ⟨rfl, hb2⟩
      have HB2 := Lib.hid hb2
      clear hb2
      go_wp2_with fail
      go_ret
      rw [HE.out]
      exact ⟨rfl, HB2.out⟩
end Go.Proofs.YtijecfmblddanaaDoor
