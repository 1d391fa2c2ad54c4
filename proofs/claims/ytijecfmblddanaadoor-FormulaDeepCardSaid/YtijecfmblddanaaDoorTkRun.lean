/- Tokens: the walks of letter, run, name, sign. -/
import Derived.WalkKit
import Derived.WalkLawsBesides
import Derived.WalkSpells
import Derived.Lib.Strings
import Derived.Shelf.Abstract
import Derived.Lib.Hide
import Derived.RangeFuncBound
import Derived.Test.YtijecfmblddanaaDoorProg
import Derived.Test.YtijecfmblddanaaDoorPTok
set_option linter.unusedVariables false
set_option linter.unusedSimpArgs false
namespace Go.Proofs.YtijecfmblddanaaDoor
open Go.RowKit

set_option maxHeartbeats 400000 in
theorem letter_any (b : UInt8) (w : World) : Calls Tryd.prog 95 #[.int .u8 (b.toNat : Int)] w fun e w' => e = .returned (.bool (letterB b)) ∧ w' = w := by
  have hlt := b.toNat_lt
  unfold letterB
  generalize b.toNat = n at hlt ⊢
  go_enter Tryd.func95, Tryd.ntmps95
  go_wp2_with fail
  all_goals go_ret
  all_goals (refine ⟨congrArg Ending.returned (congrArg Value.bool ?_), rfl⟩)
  all_goals (rw [Bool.eq_iff_iff]; simp only [Bool.or_eq_true, Bool.and_eq_true, decide_eq_true_eq, beq_iff_eq, true_iff]; omega)

set_option maxHeartbeats 400000 in
theorem run_any (s : ByteArray) (F : Nat) (p : UInt8 → Bool) (hs : s.size ≤ 9223372036854775807) (hF : ∀ b w, Calls Tryd.prog F #[.int .u8 (UInt8.toNat b : Int)] w fun e w' => e = .returned (.bool (p b)) ∧ w' = w) (hE : ∀ args w, (callFunc F args).run Tryd.prog w = .ok (.enter F args) w) (w : World) :
    Calls Tryd.prog 94 #[.string s, .func (.func F) #[] #[]] w fun e w' => e = .returned (.int .i64 (runL p s.data.toList : Int)) ∧ w' = w := by
  have hnot : ∀ (x : Bool) (w : World), (Op.unary .not (.bool x)).run Tryd.prog w = .ok (.bool (!x)) w := fun _ _ => rfl
  have hsz : s.data.toList.length = s.size := Array.length_toList
  go_enter Tryd.func94, Tryd.ntmps94
  go_wp2_with fail
  go_loopw [8] (fun i wr => ∃ k : Nat, k ≤ s.size ∧ i = .int .i64 k ∧ wr = w ∧ ∀ j b, j < k → s.data.toList[j]? = some b → p b = true) (fun i _ => s.size - (intOf i).toNat)
  case atStart => exact ⟨0, Nat.zero_le _, rfl, rfl, fun j b h => by omega⟩
  case round =>
    obtain ⟨k, hk, rfl, rfl, hall⟩ := hrel
    by_cases hlt : k < s.size
    · have hlt' : (k : Int) < (s.size : Int) := by omega
      have hb : s.data.toList[k]? = some s[k] := by
        rw [List.getElem?_eq_getElem (by simpa using hlt)]
        rfl
      go_wp2_with fail
      refine (hF _ _).mono ?_
      rintro e w' ⟨rfl, rfl⟩
      cases hp : p s[k] with
      | true =>
        go_wp2_with fail
        go_roundw
        case rel =>
          refine ⟨k + 1, by omega, by go_num, (by first | rfl | trivial), fun j b hj hjb => ?_⟩
          by_cases e : j = k
          · subst e
            rw [hb] at hjb
            cases hjb
            exact hp
          · exact hall j b (by omega) hjb
        case measure => simp [intOf]; omega
      | false =>
        have hr := runL_at p s.data.toList k hall (by omega) (.inr ⟨_, hb, hp⟩)
        go_wp2_with fail
        go_ret
        rw [hr]
        exact ⟨rfl, rfl⟩
    · have hr := runL_at p s.data.toList k hall (by omega) (.inl (by omega))
      go_wp2_with fail
      go_ret
      rw [hr]
      have e : k = s.size := by omega
      subst e
      exact ⟨rfl, rfl⟩

set_option maxHeartbeats 400000 in
theorem inner_any (b : UInt8) (w : World) : Calls Tryd.prog 96 #[.int .u8 (b.toNat : Int)] w fun e w' => e = .returned (.bool (innerB b)) ∧ w' = w := by
  have hlt := b.toNat_lt
  unfold innerB
  generalize b.toNat = n at hlt ⊢
  go_enter Tryd.func96, Tryd.ntmps96
  go_wp2_with fail
  all_goals go_ret
  all_goals (refine ⟨congrArg Ending.returned (congrArg Value.bool ?_), rfl⟩)
  all_goals (rw [Bool.eq_iff_iff]; simp only [Bool.or_eq_true, Bool.and_eq_true, Bool.not_eq_true', decide_eq_false_iff_not, decide_eq_true_eq, bne_iff_ne, beq_iff_eq, true_iff, Bool.false_eq_true, false_iff]; omega)

theorem drop1_data (s : ByteArray) : (s.extract 1 s.size).data.toList = s.data.toList.drop 1 := by
  rw [Lib.extract_data]
  exact List.take_of_length_le (by rw [List.length_drop, Lib.size_eq]; omega)

set_option maxHeartbeats 400000 in
theorem name_any (s : ByteArray) (hs : s.size ≤ 9223372036854775806) (h0 : 0 < s.size) (w : World) :
    Calls Tryd.prog 73 #[.string s] w fun e w' => e = .returned (.int .i64 (nameL s.data.toList : Int)) ∧ w' = w := by
  have hsz : s.data.toList.length = s.size := Array.length_toList
  have hb : s.data.toList[0]? = some s[0] := by
    rw [List.getElem?_eq_getElem (by omega)]
    rfl
  have h1 := fun w => run_any s 95 letterB (by omega) letter_any (enters_of Tryd.func95 (by kernel_rfl) rfl) w
  have h2 := fun w => run_any (s.extract 1 s.size) 96 innerB (by simp; omega) inner_any (enters_of Tryd.func96 (by kernel_rfl) rfl) w
  rw [drop1_data] at h2
  have hl2 : runL innerB (s.data.toList.drop 1) ≤ s.size - 1 := by
    have := (List.takeWhile_sublist innerB (l := s.data.toList.drop 1)).length_le
    rw [List.length_drop, hsz] at this
    exact this
  obtain ⟨r, hr⟩ : ∃ r, runL innerB (s.data.toList.drop 1) = r := ⟨_, rfl⟩
  rw [hr] at h2 hl2
  have hn0 : nameL s.data.toList = if s[0].toNat = 34 then quotL s.data.toList else runL letterB s.data.toList := by
    unfold nameL
    rw [hb]
    simp
  have hq : quotL s.data.toList = if 1 + r < 2 then 0 else if (s.data.toList[1 + r]?).map UInt8.toNat = some 34 then 1 + r + 1 else 0 := by
    unfold quotL
    rw [hr]
  by_cases hc : s[0].toNat = 34
  · rw [if_pos hc] at hn0
    have hc' : ((s[0].toNat : Int) != 34) = false := by simp; omega
    rw [hn0]
    generalize quotL s.data.toList = q at hq ⊢
    have HQ := Lib.hid hq
    have H2 := Lib.hid h2
    clear hn0 hq h1 h2 hr
    go_enter Tryd.func73, Tryd.ntmps73
    go_wp2_with fail
    refine (H2.out _).mono ?_
    rintro e w' ⟨rfl, rfl⟩
    by_cases h3 : 1 + r < 2
    · obtain rfl : r = 0 := by omega
      have hq0 : q = 0 := by rw [HQ.out, if_pos h3]
      subst hq0
      go_wp2_with fail
      go_ret
      exact ⟨rfl, rfl⟩
    · have h3' : ¬ (1 + (r : Int) < 2) := by omega
      by_cases h4 : 1 + r = s.size
      · have h5 : s.data.toList[1 + r]? = none := List.getElem?_eq_none (by omega)
        have h4' : (1 + (r : Int) == (s.size : Int)) = true := by simp; omega
        have hq0 : q = 0 := by rw [HQ.out, if_neg h3, h5, if_neg (by simp)]
        subst hq0
        clear HQ h5 h4
        go_wp2_with fail
        go_ret
        exact ⟨rfl, rfl⟩
      · have h6 : 1 + r < s.size := by omega
        have h5 : s.data.toList[1 + r]? = some s[1 + r] := by
          rw [List.getElem?_eq_getElem (by omega)]
          rfl
        have h4' : (1 + (r : Int) == (s.size : Int)) = false := by simp; omega
        by_cases h7 : s[1 + r].toNat = 34
        · have hq0 : q = 1 + r + 1 := by rw [HQ.out, if_neg h3, h5, if_pos (by simpa using h7)]
          subst hq0
          clear HQ
          go_wp2_with fail
          go_ret
          exact ⟨congrArg Ending.returned (congrArg (Value.int .i64) (by omega)), rfl⟩
        · have hq0 : q = 0 := by rw [HQ.out, if_neg h3, h5, if_neg (by simpa using h7)]
          subst hq0
          clear HQ
          have h7' : ((s[1 + r].toNat : Int) != 34) = true := by simp; omega
          go_wp2_with fail
          go_ret
          exact ⟨rfl, rfl⟩
  · rw [if_neg hc] at hn0
    rw [hn0]
    have hc' : ((s[0].toNat : Int) != 34) = true := by simp; omega
    clear hn0 hq h2
    go_enter Tryd.func73, Tryd.ntmps73
    go_wp2_with fail
    refine (h1 _).mono ?_
    rintro e w' ⟨rfl, rfl⟩
    go_wp2_with fail
    go_ret
    exact ⟨rfl, rfl⟩
end Go.Proofs.YtijecfmblddanaaDoor
