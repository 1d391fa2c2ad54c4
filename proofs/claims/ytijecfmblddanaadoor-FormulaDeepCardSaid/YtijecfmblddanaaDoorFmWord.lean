/- Formulas: Word, the document's Word and Kids. -/
import Derived.Test.YtijecfmblddanaaDoorFmShelf
import Derived.Test.YtijecfmblddanaaDoorFmMem
set_option linter.unusedVariables false
set_option linter.unusedSimpArgs false
namespace Go.Proofs.YtijecfmblddanaaDoor
open Go.RowKit Go.Maps Go.Shelf

theorem indexByte_mem : ∀ (l : List UInt8) (c : UInt8), decide (0 ≤ Lib.indexByte l c) = l.contains c
  | [], c => by simp [Lib.indexByte]
  | d :: l, c => by
    have ih := indexByte_mem l c
    have hge := Lib.indexByte_ge l c
    have hu : Lib.indexByte (d :: l) c = if d == c then 0 else if Lib.indexByte l c == -1 then -1 else Lib.indexByte l c + 1 := rfl
    rw [List.contains_cons, ← ih, hu]
    generalize Lib.indexByte l c = x at hge
    by_cases h : d = c
    · subst h
      simp
    · have h2 : (d == c) = false := by simpa using h
      have h3 : (c == d) = false := by simpa using fun e => h e.symm
      rw [h2, h3, Bool.false_or, if_neg (by simp)]
      by_cases h4 : x = -1
      · subst h4
        rfl
      · rw [if_neg (by simpa using h4), decide_eq_decide]
        omega
theorem contains_any (s : ByteArray) (w : World) : Calls Tryd.prog 82 #[.string s, .string ⟨#[34]⟩] w fun e w' => e = .returned (.bool (s.data.toList.contains 34)) ∧ w' = w := by
  have h := Any.strings_Contains_one Tryd.lays144 s 34 w
  rw [indexByte_mem] at h
  exact h

/-- A byte of a name. -/
def wByte (c : UInt8) : Bool := decide (33 ≤ c.toNat) && decide (c.toNat ≤ 126) && !decide (c.toNat = 34)
theorem wordB_eq (l : List UInt8) : wordB l = (l.all wByte && decide (0 < l.length) && decide (l.length ≤ 20)) := rfl
theorem all_false_at {p : UInt8 → Bool} {l : List UInt8} {k : Nat} {b : UInt8} (h : l[k]? = some b) (hb : p b = false) : l.all p = false := by
  rw [Bool.eq_false_iff]
  intro h2
  rw [List.all_eq_true] at h2
  rw [h2 b (List.mem_of_getElem? h)] at hb
  cases hb
theorem all_of {p : UInt8 → Bool} {l : List UInt8} (h : ∀ (j : Nat) (b : UInt8), l[j]? = some b → p b = true) : l.all p = true := by
  rw [List.all_eq_true]
  intro b hb
  obtain ⟨j, hj⟩ := List.getElem?_of_mem hb
  exact h j b hj

set_option maxHeartbeats 1000000 in
theorem word_any (s : ByteArray) (hs : s.size ≤ 9223372036854775806) (w : World) : Calls Tryd.prog 62 #[.string s] w fun e w' => e = .returned (.bool (wordB s.data.toList)) ∧ w' = w := by
  have hsz : s.data.toList.length = s.size := Array.length_toList
  have HSZ := Lib.hid hsz
  have HW := Lib.hid (wordB_eq s.data.toList)
  clear hsz
  go_enter Tryd.func62, Tryd.ntmps62
  go_wp2_with fail
  go_loopw [6] (fun i wr => ∃ k : Nat, k ≤ s.size ∧ i = .int .i64 (k : Int) ∧ wr = w ∧ ∀ (j : Nat) (b : UInt8), j < k → s.data.toList[j]? = some b → 33 ≤ b.toNat ∧ b.toNat ≤ 126) (fun i _ => s.size - (intOf i).toNat)
  case atStart => exact ⟨0, Nat.zero_le _, rfl, rfl, fun j b h => by omega⟩
  case round =>
    obtain ⟨k, hk, rfl, rfl, hall⟩ := hrel
    have HALL := Lib.hid hall
    clear hall
    by_cases hlt : k < s.size
    · have hlt' : (k : Int) < (s.size : Int) := by omega
      have hb : s.data.toList[k]? = some s[k] := by
        rw [List.getElem?_eq_getElem (by have := HSZ.out; omega)]
        rfl
      have HB := Lib.hid hb
      clear hb
      by_cases h1 : s[k].toNat ≤ 32
      · have h1' : (s[k].toNat : Int) ≤ 32 := by omega
        have HE : Hid (wordB s.data.toList = false) := Lib.hid (by
          rw [HW.out, all_false_at HB.out (by unfold wByte; rw [decide_eq_false (by omega)]; rfl)]
          rfl)
        go_wp2_with fail
        go_ret
        rw [HE.out]
        exact ⟨rfl, rfl⟩
      · have h1' : ¬ ((s[k].toNat : Int) ≤ 32) := by omega
        by_cases h2 : 126 < s[k].toNat
        · have h2' : (126 : Int) < (s[k].toNat : Int) := by omega
          have HE : Hid (wordB s.data.toList = false) := Lib.hid (by
            rw [HW.out, all_false_at HB.out (by unfold wByte; rw [decide_eq_false (show ¬ s[k].toNat ≤ 126 by omega), Bool.and_false]; rfl)]
            rfl)
          go_wp2_with fail
          go_ret
          rw [HE.out]
          exact ⟨rfl, rfl⟩
        · have h2' : ¬ ((126 : Int) < (s[k].toNat : Int)) := by omega
          go_wp2_with fail
          go_roundw
          case rel =>
            refine ⟨k + 1, by omega, by go_num, (by first | rfl | trivial), fun j b hj hjb => ?_⟩
            by_cases e : j = k
            · subst e
              have := HB.out
              rw [this] at hjb
              cases hjb
              omega
            · exact HALL.out j b (by omega) hjb
          case measure => simp [intOf]; omega
    · obtain rfl : k = s.size := by omega
      have hall2 : ∀ (j : Nat) (b : UInt8), s.data.toList[j]? = some b → 33 ≤ b.toNat ∧ b.toNat ≤ 126 := fun j b hb => by
        have hj := (List.getElem?_eq_some_iff.1 hb).1
        exact HALL.out j b (by have := HSZ.out; omega) hb
      have hcon : s.data.toList.all wByte = !s.data.toList.contains 34 := by
        cases hc : s.data.toList.contains 34 with
        | true =>
          have hm : (34 : UInt8) ∈ s.data.toList := by simpa using hc
          obtain ⟨j, hj⟩ := List.getElem?_of_mem hm
          exact all_false_at hj (by decide)
        | false =>
          refine all_of fun j b hj => ?_
          obtain ⟨q1, q2⟩ := hall2 j b hj
          have q3 : b.toNat ≠ 34 := fun e => by
            have : b = 34 := UInt8.toNat_inj.1 e
            rw [this] at hj
            have hm := List.mem_of_getElem? hj
            have : s.data.toList.contains 34 = true := by simpa using hm
            rw [hc] at this
            cases this
          unfold wByte
          simp [q1, q2, q3]
      have HE : Hid (wordB s.data.toList = ((!s.data.toList.contains 34) && decide (0 < s.size) && decide (s.size ≤ 20))) := Lib.hid (by rw [HW.out, hcon, HSZ.out])
      have hemp : s.toList.isEmpty = decide (s.size = 0) := by
        rw [Lib.toList_data, ← HSZ.out]
        cases s.data.toList <;> simp
      clear hcon hall2
      by_cases h0 : s.size = 0
      · have hemp' : s.toList.isEmpty = true := by rw [hemp, decide_eq_true h0]
        clear hemp
        have HE2 : Hid (wordB s.data.toList = false) := Lib.hid (by rw [HE.out, decide_eq_false (show ¬ 0 < s.size by omega)]; simp)
        clear h0
        go_wp2_with fail
        go_ret
        rw [HE2.out]
        exact ⟨rfl, rfl⟩
      · have hemp' : s.toList.isEmpty = false := by rw [hemp, decide_eq_false h0]
        clear hemp
        by_cases h20 : s.size ≤ 20
        · have h20' : (s.size : Int) ≤ 20 := by omega
          have HE2 : Hid (wordB s.data.toList = !s.data.toList.contains 34) := Lib.hid (by rw [HE.out, decide_eq_true h20, decide_eq_true (show 0 < s.size by omega)]; simp)
          have HC := Lib.hid (contains_any s wr)
          generalize s.data.toList.contains 34 = cc at HE2 HC
          clear HE
          go_wp2_with fail
          refine HC.out.mono ?_
          rintro e w' ⟨rfl, rfl⟩
          go_wp2_with fail
          go_ret
          rw [HE2.out]
          exact ⟨rfl, rfl⟩
        · have h20' : ¬ ((s.size : Int) ≤ 20) := by omega
          have HE2 : Hid (wordB s.data.toList = false) := Lib.hid (by rw [HE.out, decide_eq_false h20]; simp)
          clear HE
          go_wp2_with fail
          go_ret
          rw [HE2.out]
          exact ⟨rfl, rfl⟩
end Go.Proofs.YtijecfmblddanaaDoor
