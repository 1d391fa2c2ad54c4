/- Tokens: the walks of letter, run, name, sign. Tokens: what is taken off the shelf. Tokens: the walks of signs, sign, first. Tokens: the iterator of tokens, its contract. Tokens: Lex. -/
import Derived.WalkKit
import Derived.WalkLawsBesides
import Derived.WalkSpells
import Derived.Lib.Strings
import Derived.Shelf.Abstract
import Derived.Lib.Hide
import Derived.RangeFuncBound
import Derived.Test.YtijecfmblddanaaDoorProg
import Derived.Test.YtijecfmblddanaaDoorG2
import Derived.Test.YtijecfmblddanaaDoorTkShelf
import Derived.Test.YtijecfmblddanaaDoorG1
import Derived.RangeFuncNested
import Derived.RangeFuncCalls
import Derived.RangeFuncLeaves
import Derived.Shelf.RegionOpen
import Derived.OwnWalkIn
import Derived.TacticsInMore
import Derived.LoopNIn
import Derived.LoopIn
import Derived.Maps.OwnIn
set_option linter.unusedVariables false
set_option linter.unusedSimpArgs false
namespace Go.Proofs.YtijecfmblddanaaDoor
open Go.RowKit

set_option maxHeartbeats 400000 in
theorem letter_any (b : UInt8) (w : World) : Calls Tryd.prog 95 #[.int .u8 (b.toNat : Int)] w fun e w' => e = .returned (.bool (letterB b)) ∧ w' = w := by
  have hlt := b.toNat_lt
  unfold letterB
  generalize b.toNat = n at hlt ⊢
  go_enter Tryd.func95, Tryd.ntmps95
  go_wp2_with fail
  all_goals go_ret
  all_goals (refine ⟨congrArg Ending.returned (congrArg Value.bool ?_), rfl⟩)
  all_goals (rw [Bool.eq_iff_iff]; simp only [Bool.or_eq_true, Bool.and_eq_true, decide_eq_true_eq, beq_iff_eq, true_iff]; omega)

set_option maxHeartbeats 400000 in
theorem run_any (s : ByteArray) (F : Nat) (p : UInt8 → Bool) (hs : s.size ≤ 9223372036854775807) (hF : ∀ b w, Calls Tryd.prog F #[.int .u8 (UInt8.toNat b : Int)] w fun e w' => e = .returned (.bool (p b)) ∧ w' = w) (hE : ∀ args w, (callFunc F args).run Tryd.prog w = .ok (.enter F args) w) (w : World) :
    Calls Tryd.prog 94 #[.string s, .func (.func F) #[] #[]] w fun e w' => e = .returned (.int .i64 (runL p s.data.toList : Int)) ∧ w' = w := by
  have hnot : ∀ (x : Bool) (w : World), (Op.unary .not (.bool x)).run Tryd.prog w = .ok (.bool (!x)) w := fun _ _ => rfl
  have hsz : s.data.toList.length = s.size := Array.length_toList
  go_enter Tryd.func94, Tryd.ntmps94
  go_wp2_with fail
  go_loopw [8] (fun i wr => ∃ k : Nat, k ≤ s.size ∧ i = .int .i64 k ∧ wr = w ∧ ∀ j b, j < k → s.data.toList[j]? = some b → p b = true) (fun i _ => s.size - (intOf i).toNat)
  case atStart => exact ⟨0, Nat.zero_le _, rfl, rfl, fun j b h => by omega⟩
  case round =>
    obtain ⟨k, hk, rfl, rfl, hall⟩ := hrel
    by_cases hlt : k < s.size
    · have hlt' : (k : Int) < (s.size : Int) := by omega
      have hb : s.data.toList[k]? = some s[k] := by
        rw [List.getElem?_eq_getElem (by simpa using hlt)]
        rfl
      go_wp2_with fail
      refine (hF _ _).mono ?_
      rintro e w' ⟨rfl, rfl⟩
      cases hp : p s[k] with
      | true =>
        go_wp2_with fail
        go_roundw
        case rel =>
          refine ⟨k + 1, by omega, by go_num, (by first | rfl | trivial), fun j b hj hjb => ?_⟩
          by_cases e : j = k
          · subst e
            rw [hb] at hjb
            cases hjb
            exact hp
          · exact hall j b (by omega) hjb
        case measure => simp [intOf]; omega
      | false =>
        have hr := runL_at p s.data.toList k hall (by omega) (.inr ⟨_, hb, hp⟩)
        go_wp2_with fail
        go_ret
        rw [hr]
        exact ⟨rfl, rfl⟩
    · have hr := runL_at p s.data.toList k hall (by omega) (.inl (by omega))
      go_wp2_with fail
      go_ret
      rw [hr]
      have e : k = s.size := by omega
      subst e
      exact ⟨rfl, rfl⟩

set_option maxHeartbeats 400000 in
theorem inner_any (b : UInt8) (w : World) : Calls Tryd.prog 96 #[.int .u8 (b.toNat : Int)] w fun e w' => e = .returned (.bool (innerB b)) ∧ w' = w := by
  have hlt := b.toNat_lt
  unfold innerB
  generalize b.toNat = n at hlt ⊢
  go_enter Tryd.func96, Tryd.ntmps96
  go_wp2_with fail
  all_goals go_ret
  all_goals (refine ⟨congrArg Ending.returned (congrArg Value.bool ?_), rfl⟩)
  all_goals (rw [Bool.eq_iff_iff]; simp only [Bool.or_eq_true, Bool.and_eq_true, Bool.not_eq_true', decide_eq_false_iff_not, decide_eq_true_eq, bne_iff_ne, beq_iff_eq, true_iff, Bool.false_eq_true, false_iff]; omega)

theorem drop1_data (s : ByteArray) : (s.extract 1 s.size).data.toList = s.data.toList.drop 1 := by
  rw [Lib.extract_data]
  exact List.take_of_length_le (by rw [List.length_drop, Lib.size_eq]; omega)

set_option maxHeartbeats 400000 in
theorem name_any (s : ByteArray) (hs : s.size ≤ 9223372036854775806) (h0 : 0 < s.size) (w : World) :
    Calls Tryd.prog 73 #[.string s] w fun e w' => e = .returned (.int .i64 (nameL s.data.toList : Int)) ∧ w' = w := by
  have hsz : s.data.toList.length = s.size := Array.length_toList
  have hb : s.data.toList[0]? = some s[0] := by
    rw [List.getElem?_eq_getElem (by omega)]
    rfl
  have h1 := fun w => run_any s 95 letterB (by omega) letter_any (enters_of Tryd.func95 (by kernel_rfl) rfl) w
  have h2 := fun w => run_any (s.extract 1 s.size) 96 innerB (by simp; omega) inner_any (enters_of Tryd.func96 (by kernel_rfl) rfl) w
  rw [drop1_data] at h2
  have hl2 : runL innerB (s.data.toList.drop 1) ≤ s.size - 1 := by
    have := (List.takeWhile_sublist innerB (l := s.data.toList.drop 1)).length_le
    rw [List.length_drop, hsz] at this
    exact this
  obtain ⟨r, hr⟩ : ∃ r, runL innerB (s.data.toList.drop 1) = r := ⟨_, rfl⟩
  rw [hr] at h2 hl2
  have hn0 : nameL s.data.toList = if s[0].toNat = 34 then quotL s.data.toList else runL letterB s.data.toList := by
    unfold nameL
    rw [hb]
    simp
  have hq : quotL s.data.toList = if 1 + r < 2 then 0 else if (s.data.toList[1 + r]?).map UInt8.toNat = some 34 then 1 + r + 1 else 0 := by
    unfold quotL
    rw [hr]
  by_cases hc : s[0].toNat = 34
  · rw [if_pos hc] at hn0
    have hc' : ((s[0].toNat : Int) != 34) = false := by simp; omega
    rw [hn0]
    generalize quotL s.data.toList = q at hq ⊢
    have HQ := Lib.hid hq
    have H2 := Lib.hid h2
    clear hn0 hq h1 h2 hr
    go_enter Tryd.func73, Tryd.ntmps73
    go_wp2_with fail
    refine (H2.out _).mono ?_
    rintro e w' ⟨rfl, rfl⟩
    by_cases h3 : 1 + r < 2
    · obtain rfl : r = 0 := by omega
      have hq0 : q = 0 := by rw [HQ.out, if_pos h3]
      subst hq0
      go_wp2_with fail
      go_ret
      exact ⟨rfl, rfl⟩
    · have h3' : ¬ (1 + (r : Int) < 2) := by omega
      by_cases h4 : 1 + r = s.size
      · have h5 : s.data.toList[1 + r]? = none := List.getElem?_eq_none (by omega)
        have h4' : (1 + (r : Int) == (s.size : Int)) = true := by simp; omega
        have hq0 : q = 0 := by rw [HQ.out, if_neg h3, h5, if_neg (by simp)]
        subst hq0
        clear HQ h5 h4
        go_wp2_with fail
        go_ret
        exact ⟨rfl, rfl⟩
      · have h6 : 1 + r < s.size := by omega
        have h5 : s.data.toList[1 + r]? = some s[1 + r] := by
          rw [List.getElem?_eq_getElem (by omega)]
          rfl
        have h4' : (1 + (r : Int) == (s.size : Int)) = false := by simp; omega
        by_cases h7 : s[1 + r].toNat = 34
        · have hq0 : q = 1 + r + 1 := by rw [HQ.out, if_neg h3, h5, if_pos (by simpa using h7)]
          subst hq0
          clear HQ
          go_wp2_with fail
          go_ret
          exact ⟨congrArg Ending.returned (congrArg (Value.int .i64) (by omega)), rfl⟩
        · have hq0 : q = 0 := by rw [HQ.out, if_neg h3, h5, if_neg (by simpa using h7)]
          subst hq0
          clear HQ
          have h7' : ((s[1 + r].toNat : Int) != 34) = true := by simp; omega
          go_wp2_with fail
          go_ret
          exact ⟨rfl, rfl⟩
  · rw [if_neg hc] at hn0
    rw [hn0]
    have hc' : ((s[0].toNat : Int) != 34) = true := by simp; omega
    clear hn0 hq h2
    go_enter Tryd.func73, Tryd.ntmps73
    go_wp2_with fail
    refine (h1 _).mono ?_
    rintro e w' ⟨rfl, rfl⟩
    go_wp2_with fail
    go_ret
    exact ⟨rfl, rfl⟩
end Go.Proofs.YtijecfmblddanaaDoor

namespace Go.Proofs.YtijecfmblddanaaDoor
open Go.RowKit Go.Shelf Go.Lib

theorem prefix_any (s p : ByteArray) (w : World) : Calls Tryd.prog 98 #[.string s, .string p] w fun e w' => e = .returned (.bool (p.data.toList.isPrefixOf s.data.toList)) ∧ w' = w := by
  have h := Any.strings_HasPrefix Tryd.lays99 s p w
  exact h

theorem trim_any (s : ByteArray) (w : World) : Calls Tryd.prog 55 #[.string s, .string ⟨#[32, 9, 10]⟩] w fun e w' => e = .returned (.string ⟨(Lib.trimLeftS s.data.toList [32, 9, 10]).toArray⟩) ∧ Below w.heap.size w w' := by
  have h := Any.strings_TrimLeft_laid Tryd.lays161 (by kernel_rfl) s ⟨#[32, 9, 10]⟩ w (by decide) (ascii_of_all (by decide))
  exact h
end Go.Proofs.YtijecfmblddanaaDoor

set_option linter.unusedVariables false
set_option linter.unusedSimpArgs false
namespace Go.Proofs.YtijecfmblddanaaDoor
open Go.RowKit

def sgv : List Value := sgs.map fun x => .string ⟨x.toArray⟩

set_option maxHeartbeats 400000 in
theorem signs_any (w : World) : Calls Tryd.prog 97 #[] w fun e w' => e = .returned (.slice (some ⟨w.heap.size, 0, none⟩) 9 9) ∧ w' = w.alloc (.cells sgv.toArray 9) := by
  go_enter Tryd.func97, Tryd.ntmps97
  go_wp2_with fail
  go_ret
  exact ⟨rfl, rfl⟩

theorem find_at {α : Type} (p : α → Bool) : ∀ (l : List α) (k : Nat) (x : α), (∀ j y, j < k → l[j]? = some y → p y = false) → l[k]? = some x → p x = true → l.find? p = some x
  | [], k, x, _, h, _ => by simp at h
  | c :: l, 0, x, _, h, hp => by
    have e : c = x := by simpa using h
    subst e
    simp [List.find?, hp]
  | c :: l, k + 1, x, hall, h, hp => by
    have hc : p c = false := hall 0 c (by omega) rfl
    simp only [List.find?, hc]
    exact find_at p l k x (fun j y hj hy => hall (j + 1) y (by omega) (by simpa using hy)) (by simpa using h) hp
theorem find_none {α : Type} (p : α → Bool) (l : List α) (h : ∀ (j : Nat) (y : α), l[j]? = some y → p y = false) : l.find? p = none := by
  rw [List.find?_eq_none]
  intro y hy
  obtain ⟨j, hj⟩ := List.getElem?_of_mem hy
  simp [h j y hj]

set_option maxHeartbeats 400000 in
theorem sign_any (s : ByteArray) (w : World) : Calls Tryd.prog 74 #[.string s] w fun e w' => e = .returned (.int .i64 (signL s.data.toList : Int)) ∧ Below w.heap.size w w' := by
  have hl : ∀ k x, sgs[k]? = some x → (w.alloc (.cells sgv.toArray 9)).cell? ⟨w.heap.size, k, none⟩ = some (.string ⟨x.toArray⟩) := fun k x h => by
    rw [cell_of_row (w.alloc (.cells sgv.toArray 9)) w.heap.size k sgv.toArray 9 (0, 0) (heap_alloc_new w _)]
    simp [sgv, h]
  have hb : Below w.heap.size w (w.alloc (.cells sgv.toArray 9)) := (Below.refl _ _).alloc (Nat.le_refl _) _
  go_enter Tryd.func74, Tryd.ntmps74
  go_wp2_with fail
  refine (signs_any w).mono ?_
  rintro e w1 ⟨rfl, rfl⟩
  generalize w.alloc (.cells sgv.toArray 9) = w1 at hl hb ⊢
  go_wp2_with fail
  go_loopw [7] (fun i wr => ∃ k : Nat, k ≤ 9 ∧ i = .int .i64 k ∧ wr = w1 ∧ ∀ j x, j < k → sgs[j]? = some x → x.isPrefixOf s.data.toList = false) (fun i _ => 9 - (intOf i).toNat)
  case atStart => exact ⟨0, by omega, rfl, rfl, fun j x h => by omega⟩
  case round =>
    obtain ⟨k, hk, rfl, rfl, hall⟩ := hrel
    by_cases hlt : k < 9
    · have hlt' : (k : Int) < 9 := by omega
      obtain ⟨x, hx⟩ : ∃ x, sgs[k]? = some x := ⟨_, List.getElem?_eq_getElem (by simpa [sgs] using hlt)⟩
      have hc := hl k x hx
      have HP := Lib.hid (prefix_any s ⟨x.toArray⟩ wr)
      go_wp2_with fail
      refine HP.out.mono ?_
      rintro e w' ⟨rfl, rfl⟩
      cases hp : x.isPrefixOf s.data.toList with
      | true =>
        have hr : signL s.data.toList = x.length := by
          unfold signL
          rw [find_at (fun x => x.isPrefixOf s.data.toList) sgs k x hall hx hp]
          rfl
        go_wp2_with fail
        go_ret
        rw [hr]
        exact ⟨rfl, hb⟩
      | false =>
        go_wp2_with fail
        go_roundw
        case rel =>
          refine ⟨k + 1, by omega, by go_num, (by first | rfl | trivial), fun j y hj hy => ?_⟩
          by_cases e : j = k
          · subst e
            rw [hx] at hy
            cases hy
            exact hp
          · exact hall j y (by omega) hy
        case measure => simp [intOf]; omega
    · obtain rfl : k = 9 := by omega
      have hr : signL s.data.toList = 0 := by
        unfold signL
        rw [find_none (fun x => x.isPrefixOf s.data.toList) sgs (fun j y hy => hall j y (by have := (List.getElem?_eq_some_iff.1 hy).1; simpa [sgs] using this) hy)]
        rfl
      go_wp2_with fail
      go_ret
      rw [hr]
      exact ⟨rfl, hb⟩

/-- What first hands back of bytes with no blank ahead. -/
def firstL (l : List UInt8) : Int × List UInt8 × Bool :=
  if l = [] then (0, [], true) else if 0 < nameL l then (1, l.take (nameL l), true) else (2, l.take (signL l), decide (0 < signL l))

theorem runL_le (p : UInt8 → Bool) (l : List UInt8) : runL p l ≤ l.length := (List.takeWhile_sublist p (l := l)).length_le
theorem nameL_le (l : List UInt8) : nameL l ≤ l.length := by
  unfold nameL
  split
  · unfold quotL
    split
    · omega
    · split
      · rename_i h
        rcases Nat.lt_or_ge (1 + runL innerB (l.drop 1)) l.length with h' | h'
        · omega
        · rw [List.getElem?_eq_none h'] at h
          simp at h
      · omega
  · exact runL_le _ _
theorem signL_le (l : List UInt8) : signL l ≤ l.length := by
  unfold signL
  cases h : sgs.find? (fun x => x.isPrefixOf l) with
  | none => simp
  | some x =>
    have hp := List.find?_some h
    have := (List.isPrefixOf_iff_prefix.1 hp).length_le
    simpa using this

theorem extract0 (s : ByteArray) (n : Nat) : s.extract 0 n = ⟨(s.data.toList.take n).toArray⟩ := by
  have h := Lib.extract_data s 0 n
  rw [List.drop_zero, Nat.sub_zero] at h
  cases hx : s.extract 0 n with
  | mk d =>
    rw [hx] at h
    rw [← h]

set_option maxHeartbeats 400000 in
theorem first_any (s : ByteArray) (hs : s.size ≤ 9223372036854775806) (w : World) : Calls Tryd.prog 56 #[.string s] w fun e w' =>
    e = .returned (.tuple #[.agg #[.int .i64 (firstL s.data.toList).1, .string ⟨(firstL s.data.toList).2.1.toArray⟩, .int .i64 0], .bool (firstL s.data.toList).2.2]) ∧ Below w.heap.size w w' := by
  have hsz : s.data.toList.length = s.size := Array.length_toList
  have hn := nameL_le s.data.toList
  have hg := signL_le s.data.toList
  have HS := Lib.hid (sign_any s)
  have hb : Below w.heap.size w (w.alloc (.cells #[.int .i64 0, .string ⟨#[]⟩, .int .i64 0] 32)) := (Below.refl _ _).alloc (Nat.le_refl _) _
  have HX := Lib.hid (Blk.new w 32 #[.int .i64 0, .string ⟨#[]⟩, .int .i64 0])
  by_cases h0 : s.data.toList = []
  · have he : s.toList.isEmpty = true := by rw [Lib.toList_data, h0]; rfl
    have hf : firstL s.data.toList = (0, [], true) := by unfold firstL; rw [if_pos h0]
    rw [hf]
    clear hf hn hg
    go_enter Tryd.func56, Tryd.ntmps56
    go_wp2_with fail
    have d0 := (HX.out).cell 0
    have d1 := (HX.out).cell 1
    have d2 := (HX.out).cell 2
    refine bodyPost_ret (v := .tuple #[.agg #[.int .i64 0, .string ⟨#[]⟩, .int .i64 0], .bool true]) (by simp [results, Tryd.results56, go_sem, d0, d1, d2]) rfl ?_
    exact ⟨rfl, hb⟩
  · have he : s.toList.isEmpty = false := by rw [Lib.toList_data]; cases h : s.data.toList with
      | nil => exact absurd h h0
      | cons => rfl
    have hpos : 0 < s.size := by rw [← hsz]; exact List.length_pos_iff.2 h0
    have HN := Lib.hid (name_any s hs hpos)
    have HF : Hid (firstL s.data.toList = if 0 < nameL s.data.toList then (1, s.data.toList.take (nameL s.data.toList), true) else (2, s.data.toList.take (signL s.data.toList), decide (0 < signL s.data.toList))) := Lib.hid (by unfold firstL; rw [if_neg h0])
    generalize firstL s.data.toList = r at HF ⊢
    obtain ⟨nn, hnn⟩ : ∃ nn, nameL s.data.toList = nn := ⟨_, rfl⟩
    obtain ⟨ns, hns⟩ : ∃ ns, signL s.data.toList = ns := ⟨_, rfl⟩
    rw [hnn] at HN HF hn
    rw [hns] at HS HF hg
    rw [hsz] at hn hg
    clear hnn hns
    go_enter Tryd.func56, Tryd.ntmps56
    go_wp2_with fail
    refine (HN.out _).mono ?_
    rintro e wx ⟨rfl, h1⟩
    subst h1
    by_cases hp : 0 < nn
    · have hr : r = (1, s.data.toList.take nn, true) := by rw [HF.out, if_pos hp]
      subst hr
      have hp' : 0 < (nn : Int) := by omega
      clear HF
      go_wp2_with fail
      have hb2 : Below w.heap.size w (w.alloc (.cells #[.int .i64 1, .string (s.extract 0 nn), .int .i64 0] 32)) := (Below.refl _ _).alloc (Nat.le_refl _) _
      have d0 := (Blk.new w 32 #[.int .i64 1, .string (s.extract 0 nn), .int .i64 0]).cell 0
      have d1 := (Blk.new w 32 #[.int .i64 1, .string (s.extract 0 nn), .int .i64 0]).cell 1
      have d2 := (Blk.new w 32 #[.int .i64 1, .string (s.extract 0 nn), .int .i64 0]).cell 2
      refine bodyPost_ret (v := .tuple #[.agg #[.int .i64 1, .string (s.extract 0 nn), .int .i64 0], .bool true]) (by simp [results, Tryd.results56, go_sem, d0, d1, d2]) rfl ?_
      rw [extract0] at hb2 ⊢
      exact ⟨rfl, hb2⟩
    · have hr : r = (2, s.data.toList.take ns, decide (0 < ns)) := by rw [HF.out, if_neg hp]
      subst hr
      obtain rfl : nn = 0 := by omega
      clear HF
      go_wp2_with fail
      refine (HS.out _).mono ?_
      rintro e w2 ⟨rfl, hb2⟩
      have HX2 := Lib.hid (HX.out.below hb2 HX.out.lt)
      have HB2 := Lib.hid (below2 hb hb.size hb2)
      have f0 := HX2.out.frozen 0
      have f1 := HX2.out.frozen 1
      have f2 := HX2.out.frozen 2
      have c0 := HX2.out.cell 0
      have c1 := HX2.out.cell 1
      have c2 := HX2.out.cell 2
      clear hb2
      go_wp2_with fail
      have HX3 := ((HX2.out.set_ 0 (.int .i64 2)).set_ 1 (.string (s.extract 0 ns))).set_ 2 (.int .i64 0)
      clear c0 c1 c2
      have d0 := (HX3).cell 0
      have d1 := (HX3).cell 1
      have d2 := (HX3).cell 2
      refine bodyPost_ret (v := .tuple #[.agg #[.int .i64 2, .string (s.extract 0 ns), .int .i64 0], .bool (decide (0 < ns))]) (by simp [results, Tryd.results56, go_sem, d0, d1, d2]) rfl ?_
      rw [extract0]
      exact ⟨rfl, ((HB2.out.setCell (p := ⟨w.heap.size, 0, none⟩) (Nat.le_refl _) _).setCell (p := ⟨w.heap.size, 1, none⟩) (Nat.le_refl _) _).setCell (p := ⟨w.heap.size, 2, none⟩) (Nat.le_refl _) _⟩
end Go.Proofs.YtijecfmblddanaaDoor

set_option linter.unusedVariables false
set_option linter.unusedSimpArgs false
namespace Go.Proofs.YtijecfmblddanaaDoor
open Go.RowKit Go.Maps Go.Shelf
attribute [local go_sem] Oper.semAt_some

/-- The box ob names block g. -/
def RowAt (ob : Nat) (W : World) (g : Nat) : Prop := ∃ o n c, W.cell? ⟨ob, 0, none⟩ = some (.slice (some ⟨g, o, none⟩) n c)
/-- The row that ob names lies from n0 on, and is there. -/
def OldRow (n0 ob : Nat) (W : World) : Prop := ∀ g, RowAt ob W g → n0 ≤ g ∧ g < W.heap.size
/-- What a round of the loop keeps: all blocks of cells, but for its three boxes and the row. -/
def LexK (n0 ob eb ab : Nat) (W W' : World) : Prop :=
  OldRow n0 ob W → OldRow n0 ob W' ∧ W.heap.size ≤ W'.heap.size ∧ (∀ g, RowAt ob W' g → RowAt ob W g ∨ W.heap.size ≤ g) ∧
    ∀ (i : Nat) (cs : Array Value) (t : TypeId) (fr : Nat × Nat), W.heap[i]? = some (.cells cs t fr) → i ≠ ob → i ≠ eb → i ≠ ab → ¬ RowAt ob W i → W'.heap[i]? = W.heap[i]?

theorem LexK.trans {n0 ob eb ab : Nat} {A B C : World} (h : LexK n0 ob eb ab A B) (k : LexK n0 ob eb ab B C) : LexK n0 ob eb ab A C := fun hA => by
  obtain ⟨b1, b2, b3, b4⟩ := h hA
  obtain ⟨c1, c2, c3, c4⟩ := k b1
  refine ⟨c1, Nat.le_trans b2 c2, fun g hg => ?_, fun i cs t fr hi h1 h2 h3 h4 => ?_⟩
  · rcases c3 g hg with h' | h'
    · exact b3 g h'
    · exact .inr (by omega)
  · have hB := b4 i cs t fr hi h1 h2 h3 h4
    have hlt := (Array.getElem?_eq_some_iff.1 hi).1
    rw [c4 i cs t fr (hB.trans hi) h1 h2 h3 (fun hr => by
      rcases b3 i hr with h' | h'
      · exact h4 h'
      · omega), hB]
theorem rowAt_same {ob : Nat} {W W' : World} (h : W'.heap[ob]? = W.heap[ob]?) (g : Nat) : RowAt ob W' g ↔ RowAt ob W g := by
  unfold RowAt
  rw [World.cell?_of_block (w := W) (w' := W') h]
theorem LexK.putObj {n0 ob eb ab : Nat} {W : World} {l : Nat} {o o' : Obj} (hl : ob < l) (h : W.heap[l]? = some o) (hc : o.isCells = false) : LexK n0 ob eb ab W (W.putObj l o') := fun hA => by
  have hlt : l < W.heap.size := (Array.getElem?_eq_some_iff.1 h).1
  have hob : (W.putObj l o').heap[ob]? = W.heap[ob]? := World.putObj_heap_other (by omega)
  have hsz : (W.putObj l o').heap.size = W.heap.size := by simp [World.putObj]
  refine ⟨fun g hg => by rw [hsz]; exact hA g ((rowAt_same hob g).1 hg), by omega, fun g hg => .inl ((rowAt_same hob g).1 hg), fun i cs t fr hi _ _ _ _ => World.putObj_heap_other (fun e => ?_)⟩
  subst e
  rw [h] at hi
  cases hi
  cases hc
theorem LexK.below {n0 ob eb ab : Nat} {W W' : World} (hob : ob < W.heap.size) (hb : Below W.heap.size W W') : LexK n0 ob eb ab W W' := fun hA => by
  have e := hb.block ob hob
  refine ⟨fun g hg => ?_, hb.size, fun g hg => .inl ((rowAt_same e g).1 hg), fun i cs t fr hi _ _ _ _ => hb.block i (Array.getElem?_eq_some_iff.1 hi).1⟩
  obtain ⟨h1, h2⟩ := hA g ((rowAt_same e g).1 hg)
  exact ⟨h1, by have := hb.size; omega⟩

set_option maxHeartbeats 400000 in
theorem tokens_in (F : Fence) (n : Nat) (hf : F.fn 34) (hro : F.round = none) (s : ByteArray) (w : World) :
    CallsIn F n Tryd.prog 34 #[.string s] w fun e w' => e = .returned (.func (.func 54) #[] #[.pointer (some ⟨w.heap.size, 0, none⟩)]) ∧ w' = w.alloc (.cells #[.string s] 9) := by
  have hmf : ∀ (fn : Fn) (first cap : Array Value) (w : World), (Instr.makeFunc fn first cap).run Tryd.prog w = .ok (.func fn first cap) w := fun _ _ _ _ => rfl
  refine callsIn_of_wp Tryd.func34 rfl hf ?_ hro
  simp only [Tryd.ntmps34, List.size_toArray, List.length_cons, List.length_nil, Nat.reduceAdd, Nat.reduceSub, Array.replicate_succ, Array.replicate_zero, List.push_toArray, List.append_toArray, List.nil_append, List.cons_append]
  gi_wp2
  go_ret
  exact ⟨rfl, rfl⟩

theorem blank_contains (c : UInt8) : ([32, 9, 10] : List UInt8).contains c = blankB c := by
  rw [Bool.eq_iff_iff]
  unfold blankB
  simp only [List.contains_cons, List.contains_nil, Bool.or_false, Bool.or_eq_true, beq_iff_eq, decide_eq_true_eq, ← UInt8.toNat_inj]
  constructor
  · rintro (h | h | h)
    · exact .inl (.inl h)
    · exact .inl (.inr h)
    · exact .inr h
  · rintro ((h | h) | h)
    · exact .inl h
    · exact .inr (.inl h)
    · exact .inr (.inr h)
theorem trim_blank (l : List UInt8) : Lib.trimLeftS l [32, 9, 10] = l.dropWhile blankB := by
  unfold Lib.trimLeftS
  congr 1
  funext c
  exact blank_contains c

theorem firstL_items (l : List UInt8) (a : Nat) : ∃ (k : Int) (x : List UInt8) (ok : Bool) (rest : List (Tk × Bool)), firstL (l.dropWhile blankB) = (k, x, ok) ∧
    items l a = ((⟨k, x, a + (l.length - (l.dropWhile blankB).length)⟩, ok) : Tk × Bool) :: rest ∧ (ok = false → rest = []) ∧ (k = 0 → rest = []) ∧ x.length ≤ (l.dropWhile blankB).length ∧
    (ok = true → k ≠ 0 → 0 < x.length ∧ rest = items ((l.dropWhile blankB).drop x.length) (a + (l.length - (l.dropWhile blankB).length) + x.length)) := by
  have hie := items_eq l a
  generalize (l.dropWhile blankB) = d at hie ⊢
  unfold firstL
  by_cases h0 : d = []
  · rw [if_pos h0] at hie
    rw [if_pos h0]
    exact ⟨0, [], true, [], rfl, hie, fun _ => rfl, fun _ => rfl, Nat.zero_le _, fun _ h => absurd rfl h⟩
  · rw [if_neg h0] at hie
    rw [if_neg h0]
    by_cases h1 : 0 < nameL d
    · rw [if_pos h1] at hie
      rw [if_pos h1]
      have hl : (d.take (nameL d)).length = nameL d := by rw [List.length_take]; have := nameL_le d; omega
      exact ⟨1, _, true, _, rfl, hie, (fun h => by cases h), (fun h => by cases h), by rw [hl]; exact nameL_le d, fun _ _ => ⟨by omega, by rw [hl]⟩⟩
    · rw [if_neg h1] at hie
      rw [if_neg h1]
      have hl : (d.take (signL d)).length = signL d := by rw [List.length_take]; have := signL_le d; omega
      by_cases h2 : 0 < signL d
      · rw [if_pos h2] at hie
        exact ⟨2, _, _, _, rfl, by rw [decide_eq_true h2]; exact hie, (fun h => by rw [decide_eq_true h2] at h; cases h), (fun h => by cases h), by rw [hl]; exact signL_le d, fun _ _ => ⟨by omega, by rw [hl]⟩⟩
      · rw [if_neg h2] at hie
        have e : signL d = 0 := by omega
        exact ⟨2, _, _, [], rfl, by rw [decide_eq_false h2, e]; exact hie, (fun h => rfl), (fun h => rfl), by rw [hl]; exact signL_le d, fun h => by rw [decide_eq_false h2] at h; cases h⟩

/-- What is handed to a round. -/
def encTk (x : Tk × Bool) : Array Value := #[.agg #[.int .i64 x.1.kind, .string ⟨x.1.text.toArray⟩, .int .i64 (x.1.place : Int)], .bool x.2]

set_option maxRecDepth 100000 in
set_option maxHeartbeats 2000000 in
theorem toks1_in (n : Nat) (hn : 1 ≤ n) (s : ByteArray) (hs : s.size ≤ 20000) (n0 l Bs ob eb ab : Nat) (J Jx : List (Tk × Bool) → World → Prop) (hBs : Bs < n0) (hbo : Bs ≠ ob ∧ Bs ≠ eb ∧ Bs ≠ ab) (hen : eb < n0) (han : ab < n0)
    (hY : ∀ pre x W, J pre W → pre.length < (items s.data.toList 0).length → YieldAt Fence.wide (n - 1) Tryd.prog l (encTk x) W fun e W' =>
      (e = .returned (.bool true) ∧ J (pre ++ [x]) W' ∧ LexK n0 ob eb ab W W') ∨ (e = .returned (.bool false) ∧ Jx (pre ++ [x]) W'))
    (W : World) (hJa : AbidesFrom W.heap.size J) (hob : ob < n0) (hn0 : n0 ≤ W.heap.size) (hOR : OldRow n0 ob W) (hB : Blk W Bs 9 #[.string s]) (h0 : J [] W) :
    CallsIn Fence.wide n Tryd.prog 54 #[.func (.yield l) #[] #[], .pointer (some ⟨Bs, 0, none⟩)] W fun e W' => (∃ v, e = .returned v) ∧
      ((∃ ys, ys = items s.data.toList 0 ∧ J ys W') ∨ (∃ pre, (∃ k, k ≤ (items s.data.toList 0).length ∧ pre = (items s.data.toList 0).take k) ∧ Jx pre W')) := by
  have hnot := @not_run Tryd.prog
  refine callsIn_of_wp Tryd.func54 rfl trivial ?_ rfl
  simp only [Tryd.ntmps54, List.size_toArray, List.length_cons, List.length_nil, Nat.reduceAdd, Nat.reduceSub, Array.replicate_succ, Array.replicate_zero, List.push_toArray, List.append_toArray, List.nil_append, List.cons_append]
  gi_wp2
  gi_loopw [3] (fun i wr => ∃ (a : Nat) (pre : List (Tk × Bool)), a ≤ s.size ∧ i = .int .i64 (a : Int) ∧ items s.data.toList 0 = pre ++ items (s.data.toList.drop a) a ∧ J pre wr ∧ OldRow n0 ob wr ∧ Blk wr Bs 9 #[.string s] ∧ W.heap.size ≤ wr.heap.size)
    (fun i _ => s.size - (intOf i).toNat)
  case atStart => exact ⟨0, [], Nat.zero_le _, rfl, rfl, h0, hOR, hB, Nat.le_refl _⟩
  case round =>
    obtain ⟨a, pre, ha, rfl, hit, hJ, hOr, hBr, hsz⟩ := hrel
    have hc0 := hBr.cell 0
    have hsd : s.data.toList.length = s.size := Array.length_toList
    have hdl : (s.data.toList.drop a).length = s.size - a := by rw [List.length_drop, hsd]
    have hdd := dropW_le blankB (s.data.toList.drop a)
    have hdr : (s.data.toList.drop a).drop ((s.data.toList.drop a).length - ((s.data.toList.drop a).dropWhile blankB).length) = (s.data.toList.drop a).dropWhile blankB := by
      obtain ⟨t, ht⟩ := List.dropWhile_suffix blankB (l := s.data.toList.drop a)
      have : (s.data.toList.drop a).length - ((s.data.toList.drop a).dropWhile blankB).length = t.length := by
        have := congrArg List.length ht
        rw [List.length_append] at this
        omega
      rw [this]
      conv => lhs; rw [← ht]
      exact List.drop_left
    obtain ⟨b, hb⟩ : ∃ b, b = a + ((s.data.toList.drop a).length - ((s.data.toList.drop a).dropWhile blankB).length) := ⟨_, rfl⟩
    have hbs : b ≤ s.size := by omega
    have hab : a ≤ b := by omega
    have HT : ∀ w, Calls Tryd.prog 55 #[.string (s.extract a s.size), .string ⟨#[32, 9, 10]⟩] w fun e w' => e = .returned (.string ⟨((s.data.toList.drop a).dropWhile blankB).toArray⟩) ∧ Below w.heap.size w w' := fun w => by
      have h := trim_any (s.extract a s.size) w
      rw [Lib.extract_to_end, trim_blank] at h
      exact h
    have htl : (⟨((s.data.toList.drop a).dropWhile blankB).toArray⟩ : ByteArray).size = s.size - b := by
      show ((s.data.toList.drop a).dropWhile blankB).toArray.size = _
      rw [List.size_toArray]
      omega
    have HX : (s.extract b s.size).data.toList = (s.data.toList.drop a).dropWhile blankB := by
      rw [Lib.extract_to_end, ← hdr, List.drop_drop]
      congr 1
    have HF : ∀ w, Calls Tryd.prog 56 #[.string (s.extract b s.size)] w fun e w' => e = .returned (.tuple #[.agg #[.int .i64 (firstL ((s.data.toList.drop a).dropWhile blankB)).1, .string ⟨(firstL ((s.data.toList.drop a).dropWhile blankB)).2.1.toArray⟩, .int .i64 0], .bool (firstL ((s.data.toList.drop a).dropWhile blankB)).2.2]) ∧ Below w.heap.size w w' := fun w => by
      have h := first_any (s.extract b s.size) (by rw [ByteArray.size_extract]; omega) w
      rw [HX] at h
      exact h
    obtain ⟨kd, tx, ok, rest, hfl, hie, hr1, hr2, hr4, hr3⟩ := firstL_items (s.data.toList.drop a) a
    rw [hfl] at HF
    rw [← hb] at hie hr3
    have hdb : (s.data.toList.drop a).dropWhile blankB = s.data.toList.drop b := by
      rw [← hdr, List.drop_drop]
      congr 1
      omega
    rw [hdb, List.drop_drop] at hr3
    generalize (s.data.toList.drop a).dropWhile blankB = d at HT htl HX HF hie hdd hb hr4 hfl hdb
    generalize (⟨d.toArray⟩ : ByteArray) = T at HT htl
    have hsub : IntKind.i64.wrap ((s.size : Int) - (T.size : Int)) = (b : Int) := by
      have : (T.size : Int) = (s.size : Int) - (b : Int) := by omega
      rw [this, IntWalk.i64_in _ (by omega)]
      omega
    have Hsub := Lib.hid hsub
    have Hit := Lib.hid hit
    have Hie := Lib.hid hie
    have Hr1 := Lib.hid hr1
    have Hr2 := Lib.hid hr2
    have Hr3 := Lib.hid hr3
    have htx : tx.length ≤ s.size - b := by omega
    have HHT := Lib.hid HT
    have HHF := Lib.hid HF
    have hbi : (b : Int) ≤ (s.size : Int) := by omega
    have hai : (a : Int) ≤ (s.size : Int) := by omega
    clear hsub hit hie HT HF HX hb htl hdr hdl hsd hdd hr1 hr2 hr3 hr4 hfl hdb
    gi_wp2
    refine wpIn_region_noPanic ?_
    refine wpIn_region_seq (fun W => W.cell? ⟨Bs, 0, none⟩ = some (.string s)) [0, 1, 2, 3, 4, 5, 6, 7, 8] [0, 1, 2, 3, 6, 7, 8] [] (by kernel_rfl) (by kernel_rfl) (by kernel_rfl) rfl (by kernel_rfl) (by kernel_rfl) (fun _ _ _ _ _ h => h) ?_ (fun hSS => ?_)
    · exact hc0
    (refine wpSeqIn_mov rfl rfl ?_; intro o ho; simp only [List.getElem?_toArray, List.getElem?_cons_zero, List.getElem?_cons_succ, Option.some.injEq] at ho; subst ho; refine ⟨?_, fun _ _ => rfl⟩; refine ⟨?_, Or.inl ⟨by rfl, fun W hSW => ?_⟩, ?_⟩; rotate_left; (focus (go_simp; first | done | with_reducible rfl)); try simp only [Act.put, List.setIfInBounds_toArray, List.set_cons_zero, List.set_cons_succ])
    (refine wpSeqIn_mov rfl rfl ?_; intro o ho; simp only [List.getElem?_toArray, List.getElem?_cons_zero, List.getElem?_cons_succ, Option.some.injEq] at ho; subst ho; refine ⟨?_, fun _ _ => rfl⟩; refine ⟨?_, Or.inl ⟨by rfl, fun W hSW => ?_⟩, ?_⟩; rotate_left; (focus (go_simp; first | done | with_reducible rfl)); try simp only [Act.put, List.setIfInBounds_toArray, List.set_cons_zero, List.set_cons_succ])
    (refine wpSeqIn_mov rfl rfl ?_; intro o ho; simp only [List.getElem?_toArray, List.getElem?_cons_zero, List.getElem?_cons_succ, Option.some.injEq] at ho; subst ho; refine ⟨?_, fun _ _ => rfl⟩; refine ⟨?_, Or.inl ⟨by rfl, fun W hSW => ?_⟩, ?_⟩; rotate_left; (focus (go_simp; first | done | with_reducible rfl)); try simp only [Act.put, List.setIfInBounds_toArray, List.set_cons_zero, List.set_cons_succ])
    (refine wpSeqIn_mov rfl rfl ?_; intro o ho; simp only [List.getElem?_toArray, List.getElem?_cons_zero, List.getElem?_cons_succ, Option.some.injEq] at ho; subst ho; refine ⟨?_, fun _ _ => rfl⟩; refine ⟨?_, Or.inl ⟨by rfl, fun W hSW => ?_⟩, ?_⟩; rotate_left; (focus (go_simp; first | done | with_reducible rfl)); try simp only [Act.put, List.setIfInBounds_toArray, List.set_cons_zero, List.set_cons_succ])
    (refine wpSeqIn_fix rfl rfl ?_; intro o ho; simp only [List.getElem?_toArray, List.getElem?_cons_zero, List.getElem?_cons_succ, Option.some.injEq] at ho; subst ho; intro K hK)
    go_simp
    (refine hK.out _ _ (fun _ => hSS) ?_; clear hK K; try simp only [Act.put, List.setIfInBounds_toArray, List.set_cons_zero, List.set_cons_succ])
    (refine wpSeqIn_fix rfl rfl ?_; intro o ho; simp only [List.getElem?_toArray, List.getElem?_cons_zero, List.getElem?_cons_succ, Option.some.injEq] at ho; subst ho; intro K hK)
    go_simp
    refine ⟨trivial, ?_⟩
    refine (callsIn_wide.2 (HHT.out _)).mono ?_
    rintro e w1 ⟨rfl, hb1⟩
    have hS1 : w1.cell? ⟨Bs, 0, none⟩ = some (.string s) := by
      rw [(bcell hb1).1 _ _ hBr.lt]
      exact hc0
    (refine hK.out _ _ (fun _ => hS1) ?_; clear hK K; try simp only [Act.put, List.setIfInBounds_toArray, List.set_cons_zero, List.set_cons_succ])
    have HS := Hsub.out
    (refine wpSeqIn_mov rfl rfl ?_; intro o ho; simp only [List.getElem?_toArray, List.getElem?_cons_zero, List.getElem?_cons_succ, Option.some.injEq] at ho; subst ho; refine ⟨?_, fun _ _ => rfl⟩; refine ⟨?_, Or.inl ⟨by rfl, fun W hSW => ?_⟩, ?_⟩; rotate_left; (focus (go_simp; first | done | with_reducible rfl)); try simp only [Act.put, List.setIfInBounds_toArray, List.set_cons_zero, List.set_cons_succ])
    (refine wpSeqIn_mov rfl rfl ?_; intro o ho; simp only [List.getElem?_toArray, List.getElem?_cons_zero, List.getElem?_cons_succ, Option.some.injEq] at ho; subst ho; refine ⟨?_, fun _ _ => rfl⟩; refine ⟨?_, Or.inl ⟨by rfl, fun W hSW => ?_⟩, ?_⟩; rotate_left; (focus (go_simp; first | done | with_reducible rfl)); try simp only [Act.put, List.setIfInBounds_toArray, List.set_cons_zero, List.set_cons_succ])
    (refine wpSeqIn_mov rfl rfl ?_; intro o ho; simp only [List.getElem?_toArray, List.getElem?_cons_zero, List.getElem?_cons_succ, Option.some.injEq] at ho; subst ho; refine ⟨?_, fun _ _ => rfl⟩; refine ⟨?_, Or.inl ⟨by rfl, fun W hSW => ?_⟩, ?_⟩; rotate_left; (focus (go_simp; first | done | with_reducible rfl)); try simp only [Act.put, List.setIfInBounds_toArray, List.set_cons_zero, List.set_cons_succ])
    clear HS
    refine wpSeqIn_done ?_
    gi_wp2
    refine ⟨trivial, ?_⟩
    refine (callsIn_wide.2 (HHF.out _)).mono ?_
    rintro e w2 ⟨rfl, hb2⟩
    have hbY : Below wr.heap.size wr (w2.alloc (.cells #[.int .i64 kd, .string ⟨tx.toArray⟩, .int .i64 (b : Int)] 32)) :=
      step2 (step2 (step2 (stepD1 wr) hb1) hb2) (stepA w2 _)
    have hsY : (w2.alloc (.cells #[.int .i64 kd, .string ⟨tx.toArray⟩, .int .i64 (b : Int)] 32)).heap.size = w2.heap.size + 1 := by simp
    have hszb : wr.heap.size ≤ w2.heap.size := (step2 (step2 (stepD1 wr) hb1) hb2).size
    have hBt := Blk.new w2 32 #[.int .i64 kd, .string ⟨tx.toArray⟩, .int .i64 (b : Int)]
    have hJY : J pre (w2.alloc (.cells #[.int .i64 kd, .string ⟨tx.toArray⟩, .int .i64 (b : Int)] 32)) :=
      hJa pre _ _ none hJ ⟨hbY.os, hbY.tape, hbY.output, hbY.size, fun i hi _ => hbY.block i hi⟩ (fun r e => by cases e)
    have hkY := LexK.below (n0 := n0) (ob := ob) (eb := eb) (ab := ab) (by omega) hbY hOr
    have hBY : Blk (w2.alloc (.cells #[.int .i64 kd, .string ⟨tx.toArray⟩, .int .i64 (b : Int)] 32)) Bs 9 #[.string s] := Blk.below hBr hbY hBr.lt
    have hrt : ¬ RowAt ob (w2.alloc (.cells #[.int .i64 kd, .string ⟨tx.toArray⟩, .int .i64 (b : Int)] 32)) w2.heap.size := fun h => by
      have := (hOr _ ((rowAt_same (hbY.block ob (by omega)) _).1 h)).2
      omega
    have hrs : ¬ RowAt ob (w2.alloc (.cells #[.int .i64 kd, .string ⟨tx.toArray⟩, .int .i64 (b : Int)] 32)) Bs := fun h => by
      have := (hkY.1 _ h).1
      omega
    obtain ⟨fn, tmps, assign, body, hy, hR⟩ := hY pre (⟨kd, tx, b⟩, ok) _ hJY (by rw [Hit.out, Hie.out]; simp)
    unfold encTk at hy
    have HkY := Lib.hid hkY
    have HBt := Lib.hid hBt
    have HBY := Lib.hid hBY
    have HrT := Lib.hid hrt
    have HrS := Lib.hid hrs
    clear hkY hBt hBY hrt hrs
    gi_wp2
    refine hR.mono ?_
    rintro e W3 (⟨rfl, hJ3, hk3⟩ | ⟨rfl, hJx3⟩)
    · obtain ⟨k1, k2, k3, k4⟩ := hk3 HkY.out.1
      have hB3 : Blk W3 Bs 9 #[.string s] := (k4 Bs _ _ _ HBY.out (by omega) (by omega) (by omega) HrS.out).trans HBY.out
      have hT3 : Blk W3 w2.heap.size 32 #[.int .i64 kd, .string ⟨tx.toArray⟩, .int .i64 (b : Int)] := (k4 w2.heap.size _ _ _ HBt.out (by omega) (by omega) (by omega) HrT.out).trans HBt.out
      have hsz3 : W.heap.size ≤ W3.heap.size := by omega
      have c0 : W3.cell? ⟨w2.heap.size, 0, none⟩ = some (.int .i64 kd) := hT3.cell 0
      have c1 : W3.cell? ⟨w2.heap.size, 1, none⟩ = some (.string ⟨tx.toArray⟩) := hT3.cell 1
      clear hy hT3 k4 k3 HHT HHF
      have HC1 := Lib.hid c1
      clear c1
      cases ok with
      | false =>
        have hall : items s.data.toList 0 = pre ++ [(⟨kd, tx, b⟩, false)] := by rw [Hit.out, Hie.out, Hr1.out rfl]
        rw [← hall] at hJ3
        have HA := Lib.hid hJ3
        gi_wp2
        refine bodyPost_ret (results_none rfl _ _ _) rfl ?_
        exact ⟨⟨_, rfl⟩, .inl ⟨_, rfl, HA.out⟩⟩
      | true =>
        by_cases hkd : kd = 0
        · have hall : items s.data.toList 0 = pre ++ [(⟨kd, tx, b⟩, true)] := by rw [Hit.out, Hie.out, Hr2.out hkd]
          rw [← hall] at hJ3
          have HA := Lib.hid hJ3
          subst hkd
          gi_wp2
          refine bodyPost_ret (results_none rfl _ _ _) rfl ?_
          exact ⟨⟨_, rfl⟩, .inl ⟨_, rfl, HA.out⟩⟩
        · obtain ⟨g1, g2⟩ := Hr3.out rfl hkd
          have hkd' : (kd == 0) = false := by simpa using hkd
          have hxs : (⟨tx.toArray⟩ : ByteArray).size = tx.length := by show tx.toArray.size = _; rw [List.size_toArray]
          have C1 := HC1.out
          have G2 := Lib.hid g2
          have HXS := Lib.hid hxs
          generalize (⟨tx.toArray⟩ : ByteArray) = TX at C1 HXS
          have hTX : (TX.size : Int) ≤ 20000 := by have := HXS.out; omega
          clear hkd g2 hxs HC1
          gi_wp2
          go_roundw
          case rel =>
            refine ⟨b + tx.length, pre ++ [(⟨kd, tx, b⟩, true)], by omega, ?_, ?_, hJ3, k1, hB3, hsz3⟩
            · rw [HXS.out]
              first | rfl | (congr 1; omega)
            · rw [Hit.out, Hie.out, G2.out, List.append_assoc]
              rfl
          case measure => first | (simp [intOf]; omega) | (have := HXS.out; simp [intOf]; omega)
    · gi_wp2
      refine bodyPost_ret (results_none rfl _ _ _) rfl ?_
      refine ⟨⟨_, rfl⟩, .inr ⟨_, ⟨pre.length + 1, ?_, ?_⟩, hJx3⟩⟩
      · rw [Hit.out, Hie.out]
        simp
      · rw [Hit.out, Hie.out, List.take_append, List.take_of_length_le (Nat.le_succ _), Nat.add_sub_cancel_left]
        rfl

/-- The value of tokens: all items, or the first of them. -/
theorem tokens_stops (n : Nat) (hn : 1 ≤ n) (s : ByteArray) (hs : s.size ≤ 20000) (Bs ob eb ab : Nat) (w : World) (hbo : Bs ≠ ob ∧ Bs ≠ eb ∧ Bs ≠ ab) (hen : eb < w.heap.size) (han : ab < w.heap.size) (ho : w.cell? ⟨ob, 0, none⟩ = some (.slice none 0 0)) (hB : Blk w Bs 9 #[.string s]) :
    SeqStopsK Fence.wide n Tryd.prog 54 #[.pointer (some ⟨Bs, 0, none⟩)] encTk (LexK w.heap.size ob eb ab) (fun ys => ys = items s.data.toList 0)
      (fun pre => ∃ k, k ≤ (items s.data.toList 0).length ∧ pre = (items s.data.toList 0).take k) (items s.data.toList 0).length w := fun l J Jx W hW hJa _ hY h0 => by
  have hob : ob < w.heap.size := block_lt_of_cell ho
  have hoW := ((bcell hW).1 ob 0 hob).trans ho
  exact toks1_in n hn s hs w.heap.size l Bs ob eb ab J Jx hB.lt hbo hen han hY W hJa hob hW.size (fun g ⟨o, m, c, h⟩ => by rw [hoW] at h; cases h) (hB.below hW hB.lt) h0
end Go.Proofs.YtijecfmblddanaaDoor

set_option linter.unusedVariables false
set_option linter.unusedSimpArgs false
namespace Go.Proofs.YtijecfmblddanaaDoor
open Go.RowKit Go.Maps Go.Shelf
attribute [local go_sem] Oper.semAt_some

/-- A token's cells; a list's, one behind the other. -/
def tkCells (t : Tk) : List Value := [.int .i64 t.kind, .string ⟨t.text.toArray⟩, .int .i64 (t.place : Int)]
def flatTk (l : List Tk) : List Value := l.flatMap tkCells
theorem flatTk_append (a b : List Tk) : flatTk (a ++ b) = flatTk a ++ flatTk b := by simp [flatTk]
theorem flatTk_length : ∀ l : List Tk, (flatTk l).length = l.length * 3
  | [] => rfl
  | t :: l => by
    have := flatTk_length l
    simp only [flatTk, List.flatMap_cons, List.length_append, List.length_cons, tkCells, List.length_nil] at this ⊢
    omega
theorem flatTk_one (l : List Tk) : ∀ u ∈ flatTk l, u.oneCell' = true := by
  intro u hu
  obtain ⟨t, _, ht⟩ := List.mem_flatMap.1 hu
  simp [tkCells] at ht
  rcases ht with rfl | rfl | rfl <;> rfl

theorem tokInfo : (Tryd.prog.info? 32).map (fun i => (i.zero, i.size, i.bytes)) = some (some (.agg #[.int .i64 0, .string ⟨#[]⟩, .int .i64 0]), 3, 32) := by kernel_rfl

/-- What Lex hands back. -/
def lexOf (l : List UInt8) : List Tk × Int × Int := if 20000 < l.length then ([], 2, 0) else if lexBad l then ([], 40, (lexPlace l : Int)) else (lexToks l, 0, 0)
def RetTk (w : World) (r : List Tk × Int × Int) (e : Ending) (w' : World) : Prop := ∃ A c, e = .returned (.tuple #[.slice A r.1.length c, .int .i64 r.2.1, .int .i64 r.2.2]) ∧ r.1.length ≤ c ∧ Vals w' w'.heap.size A (flatTk r.1) ∧ Below w.heap.size w w'

/-- Likewise; the row is new. -/
def RetTkN (w : World) (r : List Tk × Int × Int) (e : Ending) (w' : World) : Prop := ∃ A c, e = .returned (.tuple #[.slice A r.1.length c, .int .i64 r.2.1, .int .i64 r.2.2]) ∧ r.1.length ≤ c ∧ Vals w' w'.heap.size A (flatTk r.1) ∧ Below w.heap.size w w' ∧ ∀ b o, A = some ⟨b, o, none⟩ → w.heap.size ≤ b

/-- What stands when so many items have come. -/
structure LexI (w : World) (ob n0 : Nat) (pre : List (Tk × Bool)) (W : World) : Prop where
  row : ∃ v, Blk W ob 27 #[v] ∧ W.ownsRow n0 32 3 v pre.length (flatTk (pre.map Prod.fst))
  eb : Blk W (ob + 1) 28 #[.int .i64 0]
  ab : Blk W (ob + 2) 3 #[.int .i64 0]
  ok : ∀ x ∈ pre, x.2 = true
  low : Below w.heap.size w W
  n0 : n0 ≤ W.heap.size

theorem blk_keep {W W' : World} {b : Nat} {t : TypeId} {cs : Array Value} {row : Option Nat} (h : Blk W b t cs) (hg : W.grownBy W' row) (hr : ∀ r, row = some r → ∃ o : Obj, W.heap[r]? = some o ∧ o.isCells = false) : Blk W' b t cs := by
  refine h.grown hg fun e => ?_
  obtain ⟨o, ho, hc⟩ := hr b e.symm
  unfold Blk at h
  rw [ho] at h
  cases h
  cases hc
theorem own_keep {W W' : World} {base : Nat} {e : TypeId} {sz n : Nat} {v : Value} {xs : List Value} {row : Option Nat} (h : W.ownsRow base e sz v n xs) (hg : W.grownBy W' row) (hr : ∀ r, row = some r → ∃ o : Obj, W.heap[r]? = some o ∧ o.isCells = false) : W'.ownsRow base e sz v n xs := by
  obtain ⟨h1, h2⟩ := h
  refine ⟨h1, ?_⟩
  rcases h2 with h2 | ⟨g, cap, cur, hv, hgb, hh, r⟩
  · exact .inl h2
  · exact .inr ⟨g, cap, cur, hv, hgb, blk_keep (cs := cur) hh hg hr, r⟩

theorem lexI_own (w : World) (ob n0 : Nat) (hw : w.heap.size ≤ n0) : OwnFrom n0 (LexI w ob n0) := fun pre X Y row hs hg hr => by
  obtain ⟨⟨v, h1, h2⟩, h3, h4, h5, h6, h7⟩ := hs
  exact ⟨⟨v, blk_keep h1 hg (fun r e => (hr r e).2), own_keep h2 hg (fun r e => (hr r e).2)⟩, blk_keep h3 hg (fun r e => (hr r e).2), blk_keep h4 hg (fun r e => (hr r e).2), h5, h6.grown hg h6.size (fun k e => by have := (hr k e).1; omega), by have := hg.size; omega⟩

/-- What stands when the loop has been left. -/
structure LexX (w : World) (ob n0 : Nat) (pre : List (Tk × Bool)) (W : World) : Prop where
  last : ∃ x ∈ pre, x.2 = false ∧ Blk W (ob + 2) 3 #[.int .i64 (x.1.place : Int)]
  row : Blk W ob 27 #[.slice none 0 0]
  eb : Blk W (ob + 1) 28 #[.int .i64 40]
  low : Below w.heap.size w W
theorem lexX_own (w : World) (ob n0 : Nat) (hw : w.heap.size ≤ n0) : OwnFrom n0 (LexX w ob n0) := fun pre X Y row hs hg hr => by
  obtain ⟨⟨x, h1, h2, h3⟩, h4, h5, h6⟩ := hs
  exact ⟨⟨x, h1, h2, blk_keep h3 hg (fun r e => (hr r e).2)⟩, blk_keep h4 hg (fun r e => (hr r e).2), blk_keep h5 hg (fun r e => (hr r e).2), h6.grown hg h6.size (fun k e => by have := (hr k e).1; omega)⟩

theorem items_bad : ∀ (n : Nat) (l : List UInt8) (a : Nat), l.length < n → ∀ x ∈ items l a, x.2 = false → (items l a).find? (fun x => !x.2) = some x
  | 0, l, a, h => by omega
  | n + 1, l, a, h => by
    have hd := dropW_le blankB l
    intro x hx hf
    obtain ⟨k, t, ok, rest, _, e, h1, h2, h3, h4⟩ := firstL_items l a
    rw [e] at hx ⊢
    cases ok with
    | false =>
      rw [h1 rfl] at hx
      have e2 : x = _ := List.mem_singleton.1 hx
      rw [e2]
      rfl
    | true =>
      rcases List.mem_cons.1 hx with rfl | hx
      · cases hf
      · by_cases hk : k = 0
        · rw [h2 hk] at hx
          cases hx
        · obtain ⟨g1, g2⟩ := h4 rfl hk
          rw [g2] at hx ⊢
          exact items_bad n _ _ (by rw [List.length_drop]; omega) x hx hf
theorem items_len : ∀ (n : Nat) (l : List UInt8) (a : Nat), l.length < n → (items l a).length ≤ l.length + 1
  | 0, l, a, h => by omega
  | n + 1, l, a, h => by
    have hd := dropW_le blankB l
    obtain ⟨k, t, ok, rest, _, e, h1, h2, h3, h4⟩ := firstL_items l a
    rw [e]
    cases ok with
    | false =>
      rw [h1 rfl]
      simp
    | true =>
      by_cases hk : k = 0
      · rw [h2 hk]
        simp
      · obtain ⟨g1, g2⟩ := h4 rfl hk
        have := items_len n ((l.dropWhile blankB).drop t.length) (a + (l.length - (l.dropWhile blankB).length) + t.length) (by rw [List.length_drop]; omega)
        rw [g2, List.length_cons]
        rw [List.length_drop] at this
        omega
theorem lexOf_bad {l : List UInt8} (hl : l.length ≤ 20000) {x : Tk × Bool} (hx : x ∈ items l 0) (hf : x.2 = false) : lexOf l = ([], 40, (x.1.place : Int)) := by
  unfold lexOf
  rw [if_neg (by omega)]
  have hb : lexBad l = true := by
    unfold lexBad
    rw [List.any_eq_true]
    exact ⟨x, hx, by simp [hf]⟩
  rw [hb]
  unfold lexPlace
  rw [items_bad _ l 0 (Nat.lt_succ_self _) x hx hf]
  rfl
theorem lexOf_good {l : List UInt8} (hl : l.length ≤ 20000) (hx : ∀ x ∈ items l 0, x.2 = true) : lexOf l = ((items l 0).map Prod.fst, 0, 0) := by
  unfold lexOf
  rw [if_neg (by omega)]
  have hb : lexBad l = false := by
    unfold lexBad
    rw [List.any_eq_false]
    intro x h
    simp [hx x h]
  rw [hb]
  rfl

theorem own_addr {w : World} {base : Nat} {e : TypeId} {sz n c m : Nat} {A : Option Addr} {xs : List Value} (h : w.ownsRow base e sz (.slice A n c) m xs) {g : Nat} (hg : (Value.slice A n c).ownBlock = some g) : A = some ⟨g, 0, none⟩ ∧ base ≤ g ∧ g < w.heap.size := by
  rcases h.2 with ⟨hv, _⟩ | ⟨g', cap, cur, hv, hb, hh, _⟩
  · rw [hv] at hg
    simp [Value.ownBlock] at hg
  · injection hv with hA
    subst hA
    simp [Value.ownBlock] at hg
    subst hg
    exact ⟨rfl, hb, Blk.lt (t := e) (cs := cur) hh⟩
theorem own_cells {w : World} {base : Nat} {e : TypeId} {sz n : Nat} {v : Value} {xs : List Value} (h : w.ownsRow base e sz v n xs) : ∀ (j : Nat) (o : Obj), v.ownBlock = some j → w.heap[j]? = some o → o.isCells = true := by
  intro j o hj ho
  rcases h.2 with ⟨hv, _⟩ | ⟨g', cap, cur, hv, hb, hh, _⟩
  · rw [hv] at hj
    simp [Value.ownBlock] at hj
  · rw [hv] at hj
    simp [Value.ownBlock] at hj
    subst hj
    rw [hh] at ho
    cases ho
    rfl
theorem lexK_push {n0 ob eb ab n c m k6 sz : Nat} {W X w6 : World} {t e : TypeId} {A A6 : Option Addr} {xs ys : List Value} (hX : Below W.heap.size W X) (h1 : Blk W ob t #[.slice A n c]) (hO : X.ownsRow n0 e sz (.slice A n c) n xs)
    (hg : X.grownBy w6 (Value.slice A n c).ownBlock) (hO6 : w6.ownsRow n0 e sz (.slice A6 m k6) m ys) (hat : (Value.slice A6 m k6).ownBlock = (Value.slice A n c).ownBlock ∨ (Value.slice A6 m k6).ownBlock = some X.heap.size) (h6 : Blk w6 ob t #[.slice A n c]) :
    LexK n0 ob eb ab W (w6.setCell ⟨ob, 0, none⟩ (.slice A6 m k6)) := fun hOld => by
  have hY : Blk (w6.setCell ⟨ob, 0, none⟩ (.slice A6 m k6)) ob t #[.slice A6 m k6] := h6.set_ 0 _
  have hsz : (w6.setCell ⟨ob, 0, none⟩ (.slice A6 m k6)).heap.size = w6.heap.size := by simp [World.setCell]
  have hrow : ∀ g, RowAt ob (w6.setCell ⟨ob, 0, none⟩ (.slice A6 m k6)) g → (Value.slice A6 m k6).ownBlock = some g := fun g ⟨o, n', c', h⟩ => by
    rw [hY.cell 0] at h
    simp at h
    rw [h.1]
    rfl
  have h2 : X.heap.size ≤ w6.heap.size := hg.size
  have h3 := hX.size
  refine ⟨fun g hr => ?_, by omega, fun g hr => ?_, fun i cs t' fr hi e1 e2 e3 e4 => ?_⟩
  · obtain ⟨_, q1, q2⟩ := own_addr hO6 (hrow g hr)
    exact ⟨q1, by omega⟩
  · have hb := hrow g hr
    rcases hat with h | h
    · rw [hb] at h
      obtain ⟨q1, _, _⟩ := own_addr hO h.symm
      refine .inl ⟨0, n, c, ?_⟩
      rw [h1.cell 0, q1]
      rfl
    · rw [hb] at h
      injection h with h
      exact .inr (by omega)
  · have hlt := (Array.getElem?_eq_some_iff.1 hi).1
    rw [Below.heap_setCell w6 ⟨ob, 0, none⟩ _ i e1, hg.block i (by omega) (fun h => ?_), hX.block i hlt]
    obtain ⟨q1, _, _⟩ := own_addr hO h.symm
    refine e4 ⟨0, n, c, ?_⟩
    rw [h1.cell 0, q1]
    rfl

set_option maxRecDepth 100000 in
set_option maxHeartbeats 2000000 in
theorem lex_new (s : ByteArray) (hs : s.size ≤ 140737488355328) (w : World) : Calls Tryd.prog 19 #[.string s] w (RetTkN w (lexOf s.data.toList)) := by
  have hmf : ∀ (fn : Fn) (first cap : Array Value) (w : World), (Instr.makeFunc fn first cap).run Tryd.prog w = .ok (.func fn first cap) w := fun _ _ _ _ => rfl
  have hsd : s.data.toList.length = s.size := Array.length_toList
  refine (callsIn_wide (n := 3)).1 ?_
  refine callsIn_of_wp_marks Tryd.func19 rfl trivial ?_ rfl
  simp only [Tryd.ntmps19, List.size_toArray, List.length_cons, List.length_nil, Nat.reduceAdd, Nat.reduceSub, Array.replicate_succ, Array.replicate_zero, List.push_toArray, List.append_toArray, List.nil_append, List.cons_append]
  by_cases hlong : 20000 < s.size
  · have hlong' : (20000 : Int) < (s.size : Int) := by omega
    have HL : Hid (lexOf s.data.toList = ([], 2, 0)) := by show lexOf _ = _; unfold lexOf; rw [hsd, if_pos hlong]
    clear hsd
    have hB : Below w.heap.size w (((w.alloc (.cells #[.slice none 0 0] 27)).alloc (.cells #[.int .i64 2] 28)).alloc (.cells #[.int .i64 0] 3)) := step2 (step2 (stepA w _) (stepA _ _)) (stepA _ _)
    have B1 := Blk.new w 27 #[.slice none 0 0]
    replace B1 := (B1.alloc (.cells #[.int .i64 2] 28)).alloc (.cells #[.int .i64 0] 3)
    have B2 := Blk.new (w.alloc (.cells #[.slice none 0 0] 27)) 28 #[.int .i64 2]
    replace B2 := B2.alloc (.cells #[.int .i64 0] 3)
    have B3 := Blk.new ((w.alloc (.cells #[.slice none 0 0] 27)).alloc (.cells #[.int .i64 2] 28)) 3 #[.int .i64 0]
    simp only [World.size_alloc] at B2 B3
    gi_wp2
    have d0 := B1.cell 0
    have d1 := B2.cell 0
    have d2 := B3.cell 0
    refine ⟨.tuple #[.slice none 0 0, .int .i64 2, .int .i64 0], by simp [results, Tryd.results19, go_sem, d0, d1, d2], ?_⟩
    rw [HL.out]
    exact ⟨none, 0, rfl, Nat.le_refl _, Vals.nil, hB, fun b o e => by cases e⟩
  · have hlong' : ¬ ((20000 : Int) < (s.size : Int)) := by omega
    have hL : lexOf s.data.toList = if lexBad s.data.toList then ([], 40, (lexPlace s.data.toList : Int)) else (lexToks s.data.toList, 0, 0) := by unfold lexOf; rw [hsd, if_neg hlong]
    have HL := Lib.hid hL
    have B1 := Blk.new w 27 #[.slice none 0 0]
    replace B1 := (B1.alloc (.cells #[.int .i64 0] 28)).alloc (.cells #[.int .i64 0] 3)
    have B2 := Blk.new (w.alloc (.cells #[.slice none 0 0] 27)) 28 #[.int .i64 0]
    replace B2 := B2.alloc (.cells #[.int .i64 0] 3)
    have B3 := Blk.new ((w.alloc (.cells #[.slice none 0 0] 27)).alloc (.cells #[.int .i64 0] 28)) 3 #[.int .i64 0]
    have B4 := Blk.new (((w.alloc (.cells #[.slice none 0 0] 27)).alloc (.cells #[.int .i64 0] 28)).alloc (.cells #[.int .i64 0] 3)) 9 #[.string s]
    have hB0 : Below w.heap.size w ((((w.alloc (.cells #[.slice none 0 0] 27)).alloc (.cells #[.int .i64 0] 28)).alloc (.cells #[.int .i64 0] 3)).alloc (.cells #[.string s] 9)) := step2 (step2 (step2 (stepA w _) (stepA _ _)) (stepA _ _)) (stepA _ _)
    simp only [World.size_alloc] at B2 B3 B4
    replace B1 := B1.alloc (.cells #[.string s] 9)
    replace B2 := B2.alloc (.cells #[.string s] 9)
    replace B3 := B3.alloc (.cells #[.string s] 9)
    have hsz : ((((w.alloc (.cells #[.slice none 0 0] 27)).alloc (.cells #[.int .i64 0] 28)).alloc (.cells #[.int .i64 0] 3)).alloc (.cells #[.string s] 9)).heap.size = w.heap.size + 4 := by simp
    clear hsd hL
    gi_wp2_with (refine ⟨trivial, ?_⟩; gi_at_call 34; refine (tokens_in Fence.wide 2 trivial rfl _ _).mono ?_; rintro e w' ⟨rfl, rfl⟩)
    obtain ⟨W0, hW0⟩ : ∃ W0, ((((w.alloc (.cells #[.slice none 0 0] 27)).alloc (.cells #[.int .i64 0] 28)).alloc (.cells #[.int .i64 0] 3)).alloc (.cells #[.string s] 9)) = W0 := ⟨_, rfl⟩
    rw [hW0] at B1 B2 B3 B4 hB0 hsz ⊢
    clear hW0
    have hws : w.heap.size ≤ W0.heap.size := by omega
    have HI0 : Hid (LexI w w.heap.size W0.heap.size [] W0) := Lib.hid ⟨⟨_, B1, World.ownsRow_nil _ _ _ _⟩, B2, B3, (fun x h => by cases h), hB0, Nat.le_refl _⟩
    have hlen : s.data.toList.length ≤ 20000 := by rw [show s.data.toList.length = s.size from Array.length_toList]; omega
    have HLen := Lib.hid hlen
    have hsz' : w.heap.size + 4 ≤ W0.heap.size := by omega
    clear hlen hsz
    refine wpIn_rangeFunc_ownH (w := W0) rfl (by omega) (gf := 54) (lb := #[.pointer (some ⟨w.heap.size + 1 + 1 + 1, 0, none⟩)]) rfl trivial (enters_of Tryd.func54 (by kernel_rfl) rfl)
      (tokens_stops 2 (by omega) s (by omega) (w.heap.size + 1 + 1 + 1) w.heap.size (w.heap.size + 1) (w.heap.size + 2) W0 (by omega) (by omega) (by omega) (B1.cell 0) B4)
      LexK.trans (fun W l o o' hl h hc _ => LexK.putObj (by omega) h hc) (Below.refl _ _) (fun _ => rfl)
      (LexI w w.heap.size W0.heap.size) (fun c pre W => c = .ret ∧ LexX w w.heap.size W0.heap.size pre W)
      (lexI_own w _ _ hws) (fun c s A B row hs hg hr => ⟨hs.1, lexX_own w _ _ hws s A B row hs.2 hg hr⟩) HI0.out
      (fun x a' W => ∃ Bx, W0.heap.size ≤ Bx ∧ Blk W Bx 32 (tkCells x.1).toArray ∧ a' = { tmps := #[.string s, undef, .pointer (some ⟨w.heap.size, 0, none⟩), .pointer (some ⟨w.heap.size + 1, 0, none⟩), .pointer (some ⟨w.heap.size + 1 + 1, 0, none⟩), .pointer (some ⟨Bx, 0, none⟩), .bool x.2, .string s, .int .i64 (s.size : Int), .bool false, .string s, .func (.func 54) #[] #[.pointer (some ⟨w.heap.size + 1 + 1 + 1, 0, none⟩)], .agg (tkCells x.1).toArray, .bool x.2, undef, undef, undef, undef, undef, undef, undef, undef, undef], defers := [] })
      (fun x a' _ X Y row hs hg hr => by obtain ⟨Bx, h1, h2, h3⟩ := hs; exact ⟨Bx, h1, blk_keep h2 hg (fun r e => (hr r e).2), h3⟩)
      ?assign ?body ?done ?stop
    case assign =>
      rintro l' pre x W K HI hK
      have hst := stepA W (.cells (tkCells x.1).toArray 32)
      have hI2 : LexI w w.heap.size W0.heap.size pre (W.alloc (.cells (tkCells x.1).toArray 32)) :=
        lexI_own w _ _ hws pre _ _ none HI ⟨hst.os, hst.tape, hst.output, hst.size, fun i hi _ => hst.block i hi⟩ (fun r e => by cases e)
      have hkk : LexK W0.heap.size w.heap.size (w.heap.size + 1) (w.heap.size + 2) W (W.alloc (.cells (tkCells x.1).toArray 32)) := LexK.below (by have := HI.n0; omega) hst
      have hbn : W0.heap.size ≤ W.heap.size := HI.n0
      unfold encTk
      gi_wp2
      exact hK _ _ ((KeepsOthers.alloc _ _).from _) hkk hI2 ⟨W.heap.size, hbn, Blk.new W _ _, rfl⟩
    case body =>
      rintro l' pre ⟨⟨kd, tx, pl⟩, ok⟩ a' W hl' ⟨r, hr⟩ HI ⟨Bx, hBx, bX, rfl⟩ hlt
      have hil := items_len _ s.data.toList 0 (Nat.lt_succ_self _)
      have hLen := HLen.out
      have cX0 : W.cell? ⟨Bx, 0, none⟩ = some (.int .i64 kd) := bX.cell 0
      have cX1 : W.cell? ⟨Bx, 1, none⟩ = some (.string ⟨tx.toArray⟩) := bX.cell 1
      have cX2 : W.cell? ⟨Bx, 2, none⟩ = some (.int .i64 (pl : Int)) := bX.cell 2
      obtain ⟨v, hv1, hv2⟩ := HI.row
      have hvc : W.cell? ⟨w.heap.size, 0, none⟩ = some v := hv1.cell 0
      have hvf : W.frozen? ⟨w.heap.size, 0, none⟩ = false := hv1.frozen 0
      cases ok with
      | false =>
        have hec : W.cell? ⟨w.heap.size + 1, 0, none⟩ = some (.int .i64 0) := HI.eb.cell 0
        have hef : W.frozen? ⟨w.heap.size + 1, 0, none⟩ = false := HI.eb.frozen 0
        have hac : W.cell? ⟨w.heap.size + 1 + 1, 0, none⟩ = some (.int .i64 0) := HI.ab.cell 0
        have haf : W.frozen? ⟨w.heap.size + 1 + 1, 0, none⟩ = false := HI.ab.frozen 0
        have HSS : Hid (∀ (j : Nat) (W' : World) (u : Value), j ≤ 2 → W'.cell? ⟨Bx, 2, none⟩ = some (.int .i64 (pl : Int)) → (W'.setCell ⟨w.heap.size + j, 0, none⟩ u).cell? ⟨Bx, 2, none⟩ = some (.int .i64 (pl : Int))) := fun j W' u hj h => by
          rw [World.cell?_setCell_far _ _ _ _ (by simp; omega)]
          exact h
        have hb0 := HI.row
        have HE := Lib.hid HI
        have hWs := HI.low.size
        gi_wp2
        refine wpIn_region_noPanic ?_
        refine wpIn_region_seq (fun W => W.cell? ⟨Bx, 2, none⟩ = some (.int .i64 (pl : Int))) [0, 1, 2, 3, 4] [0, 1] [] (by kernel_rfl) (by kernel_rfl) (by kernel_rfl) rfl (by kernel_rfl) (by kernel_rfl) (fun _ _ _ _ _ h => h) ?_ (fun hSS => ?_)
        · exact cX2
        (refine wpSeqIn_mov rfl rfl ?_; intro o ho; simp only [List.getElem?_toArray, List.getElem?_cons_zero, List.getElem?_cons_succ, Option.some.injEq] at ho; subst ho; refine ⟨?_, fun _ _ => rfl⟩; refine ⟨?_, Or.inl ⟨by rfl, fun W hSW => ?_⟩, ?_⟩; rotate_left; (focus (go_simp; first | done | with_reducible rfl)); try simp only [Act.put, List.setIfInBounds_toArray, List.set_cons_zero, List.set_cons_succ])
        (refine wpSeqIn_mov rfl rfl ?_; intro o ho; simp only [List.getElem?_toArray, List.getElem?_cons_zero, List.getElem?_cons_succ, Option.some.injEq] at ho; subst ho; refine ⟨?_, fun _ _ => rfl⟩; refine ⟨?_, Or.inl ⟨by rfl, fun W hSW => ?_⟩, ?_⟩; rotate_left; (focus (go_simp; first | done | with_reducible rfl)); try simp only [Act.put, List.setIfInBounds_toArray, List.set_cons_zero, List.set_cons_succ])
        (refine wpSeqIn_fix rfl rfl ?_; intro o ho; simp only [List.getElem?_toArray, List.getElem?_cons_zero, List.getElem?_cons_succ, Option.some.injEq] at ho; subst ho; intro K hK)
        go_simp
        (refine hK.out _ _ (fun _ => HSS.out 0 _ _ (by omega) hSS) ?_; clear hK K; try simp only [Act.put, List.setIfInBounds_toArray, List.set_cons_zero, List.set_cons_succ])
        (refine wpSeqIn_fix rfl rfl ?_; intro o ho; simp only [List.getElem?_toArray, List.getElem?_cons_zero, List.getElem?_cons_succ, Option.some.injEq] at ho; subst ho; intro K hK)
        go_simp
        (refine hK.out _ _ (fun _ => HSS.out 1 _ _ (by omega) (HSS.out 0 _ _ (by omega) hSS)) ?_; clear hK K; try simp only [Act.put, List.setIfInBounds_toArray, List.set_cons_zero, List.set_cons_succ])
        (refine wpSeqIn_fix rfl rfl ?_; intro o ho; simp only [List.getElem?_toArray, List.getElem?_cons_zero, List.getElem?_cons_succ, Option.some.injEq] at ho; subst ho; intro K hK)
        go_simp
        (refine hK.out _ _ (fun _ => HSS.out 2 _ _ (by omega) (HSS.out 1 _ _ (by omega) (HSS.out 0 _ _ (by omega) hSS))) ?_; clear hK K; try simp only [Act.put, List.setIfInBounds_toArray, List.set_cons_zero, List.set_cons_succ])
        refine wpSeqIn_done ?_
        gi_wp2
        have hK1 : KeepsOthers W ((((W.setCell ⟨w.heap.size, 0, none⟩ (.slice none 0 0)).setCell ⟨w.heap.size + 1, 0, none⟩ (.int .i64 40)).setCell ⟨w.heap.size + 1 + 1, 0, none⟩ (.int .i64 (pl : Int))).drew) :=
          (((KeepsOthers.setCell _ _ _).trans (KeepsOthers.setCell _ _ _)).trans (KeepsOthers.setCell _ _ _)).trans (KeepsOthers.drew _)
        refine ⟨hK1.from _, rfl, ⟨⟨(⟨kd, tx, pl⟩, false), by simp, rfl, ?_⟩, ?_, ?_, ?_⟩⟩
        · exact ((HE.out.ab.far (p := ⟨w.heap.size, 0, none⟩) (by simp) _).far (p := ⟨w.heap.size + 1, 0, none⟩) (by simp) _).set_ 0 _
        · exact ((hv1.set_ 0 (.slice none 0 0)).far (p := ⟨w.heap.size + 1, 0, none⟩) (by simp) _).far (p := ⟨w.heap.size + 1 + 1, 0, none⟩) (by simp; omega) _
        · exact ((HE.out.eb.far (p := ⟨w.heap.size, 0, none⟩) (by simp) _).set_ 0 _).far (p := ⟨w.heap.size + 1 + 1, 0, none⟩) (by simp) _
        · exact (((HE.out.low.setCell (p := ⟨w.heap.size, 0, none⟩) (by simp) _).setCell (p := ⟨w.heap.size + 1, 0, none⟩) (by simp) _).setCell (p := ⟨w.heap.size + 1 + 1, 0, none⟩) (by simp; omega) _).drew
      | true =>
        obtain ⟨i0, hi0, hz0, hz1, hz2⟩ := info_parts tokInfo
        have HE := Lib.hid HI
        have hWs := HI.low.size
        have hn0 := HI.n0
        have hV := stepA W (.cells #[.int .i64 kd, .string ⟨tx.toArray⟩, .int .i64 (pl : Int)] 32)
        obtain ⟨A, c, rfl, hcn⟩ := own_form hv2
        have HOwn := Lib.hid (own_below hv2 hV)
        have HVB : Hid (Blk (W.alloc (.cells #[.int .i64 kd, .string ⟨tx.toArray⟩, .int .i64 (pl : Int)] 32)) w.heap.size 27 #[.slice A pre.length c]) := Lib.hid (hv1.alloc _)
        have HV := Lib.hid hV
        have hne : (32 : Nat) ≠ 27 := by decide
        have hpl : pre.length ≤ 20001 := by omega
        clear hV
        gi_wp2_with ((gi_at_builtin; go_loud (refine wpListIn_append_own_at (o := ⟨some 21, _, _, _, _, _⟩) _ rfl (.tmp 18) (.tmp 20) _ rfl W0.heap.size 32 i0 _ 3 32 Tryd.underlying27 hi0 hz0 hz1 hz2 rfl (by omega) (.slice A pre.length c) pre.length (flatTk (pre.map Prod.fst)) rfl HOwn.out _ 1 1 (tkCells ⟨kd, tx, pl⟩) rfl rfl (cells_new W (tkCells ⟨kd, tx, pl⟩) 32) (by intro u hu; simp [tkCells] at hu; rcases hu with rfl | rfl | rfl <;> rfl) (by unfold maxLen; omega) (by omega) (by simp; omega) ?_); intro v6 w6 hown6 hg6 _ hat6; go_loud (have hk6 := HVB.out.by_ hg6 (own_ne HOwn.out HVB.out hne)); go_loud (have c6 : w6.cell? ⟨w.heap.size, 0, none⟩ = some (.slice A pre.length c) := hk6.cell 0); go_loud (obtain ⟨A6, k6, hv6, hkc6⟩ := own_form hown6); go_loud (rw [hv6] at hown6 hat6 ⊢); clear hv6; go_loud (have f6 := hk6.frozen 0); have HG6 := Lib.hid hg6; have HO6 := Lib.hid hown6; have HK6 := Lib.hid hk6; have HA6 := Lib.hid hat6; clear hg6 hown6 hk6 hat6))
        have hY : Below w.heap.size W (w6.setCell ⟨w.heap.size, 0, none⟩ (.slice A6 (pre.length + 1) k6)) := (((HV.out.mono hWs).grown HG6.out (by have := HV.out.size; omega) (fun k hk => by have := (own_addr HOwn.out hk).2.1; omega)).setCell (p := ⟨w.heap.size, 0, none⟩) (by simp) _)
        refine ⟨(((KeepsOthers.alloc _ _).trans (KeepsOthers.of_grownBy HG6.out (own_cells HOwn.out))).trans (KeepsOthers.setCell _ _ _)).from _, lexK_push HV.out hv1 HOwn.out HG6.out HO6.out HA6.out HK6.out, ⟨⟨_, HK6.out.set_ 0 _, ?_⟩, ?_, ?_, ?_, HE.out.low.trans hY, by have := hY.size; omega⟩⟩
        · have e : flatTk (List.map Prod.fst (pre ++ [((⟨kd, tx, pl⟩, true) : Tk × Bool)])) = flatTk (List.map Prod.fst pre) ++ tkCells ⟨kd, tx, pl⟩ := by
            rw [List.map_append, flatTk_append]
            simp [flatTk]
          rw [e, List.length_append]
          exact own_set HO6.out HK6.out hne 0 _
        · exact ((HE.out.eb.alloc _).by_ HG6.out (own_ne HOwn.out (HE.out.eb.alloc _) (by decide))).far (p := ⟨w.heap.size, 0, none⟩) (by simp) _
        · exact ((HE.out.ab.alloc _).by_ HG6.out (own_ne HOwn.out (HE.out.ab.alloc _) (by decide))).far (p := ⟨w.heap.size, 0, none⟩) (by simp) _
        · intro x hx
          rcases List.mem_append.1 hx with hx | hx
          · exact HE.out.ok x hx
          · rw [List.mem_singleton.1 hx]
    case done =>
      rintro D ys W hD rfl HI hK
      obtain ⟨v, hv1, hv2⟩ := HI.row
      obtain ⟨A, c, rfl, hcn⟩ := own_form hv2
      have cv : W.cell? ⟨w.heap.size, 0, none⟩ = some (.slice A (items s.data.toList 0).length c) := hv1.cell 0
      have fv : W.frozen? ⟨w.heap.size, 0, none⟩ = false := hv1.frozen 0
      have hec : W.cell? ⟨w.heap.size + 1, 0, none⟩ = some (.int .i64 0) := HI.eb.cell 0
      have hef : W.frozen? ⟨w.heap.size + 1, 0, none⟩ = false := HI.eb.frozen 0
      have hac : W.cell? ⟨w.heap.size + 1 + 1, 0, none⟩ = some (.int .i64 0) := HI.ab.cell 0
      have haf : W.frozen? ⟨w.heap.size + 1 + 1, 0, none⟩ = false := HI.ab.frozen 0
      have HE := Lib.hid HI
      have hws2 := HI.low.size
      gi_wp2
      have hY : Below w.heap.size w (((W.setCell ⟨w.heap.size, 0, none⟩ (.slice A (items s.data.toList 0).length c)).setCell ⟨w.heap.size + 1, 0, none⟩ (.int .i64 0)).setCell ⟨w.heap.size + 1 + 1, 0, none⟩ (.int .i64 0)) :=
        ((HE.out.low.setCell (p := ⟨w.heap.size, 0, none⟩) (by simp) _).setCell (p := ⟨w.heap.size + 1, 0, none⟩) (by simp) _).setCell (p := ⟨w.heap.size + 1 + 1, 0, none⟩) (by simp; omega) _
      have k1 := ((hv1.set_ 0 (.slice A (items s.data.toList 0).length c)).far (p := ⟨w.heap.size + 1, 0, none⟩) (by simp) (.int .i64 0)).far (p := ⟨w.heap.size + 1 + 1, 0, none⟩) (by simp; omega) (.int .i64 0)
      have k2 := ((HE.out.eb.far (p := ⟨w.heap.size, 0, none⟩) (by simp) (.slice A (items s.data.toList 0).length c)).set_ 0 (.int .i64 0)).far (p := ⟨w.heap.size + 1 + 1, 0, none⟩) (by simp) (.int .i64 0)
      have k3 := ((HE.out.ab.far (p := ⟨w.heap.size, 0, none⟩) (by simp) (.slice A (items s.data.toList 0).length c)).far (p := ⟨w.heap.size + 1, 0, none⟩) (by simp) (.int .i64 0)).set_ 0 (.int .i64 0)
      have o1 := own_set hv2 hv1 (by decide) 0 (.slice A (items s.data.toList 0).length c)
      have o2 := own_set o1 (HE.out.eb.far (p := ⟨w.heap.size, 0, none⟩) (by simp) _) (by decide) 0 (.int .i64 0)
      have o3 := own_set o2 ((HE.out.ab.far (p := ⟨w.heap.size, 0, none⟩) (by simp) _).far (p := ⟨w.heap.size + 1, 0, none⟩) (by simp) _) (by decide) 0 (.int .i64 0)
      have hD' : (((W.setCell ⟨w.heap.size, 0, none⟩ (.slice A (items s.data.toList 0).length c)).setCell ⟨w.heap.size + 1, 0, none⟩ (.int .i64 0)).setCell ⟨w.heap.size + 1 + 1, 0, none⟩ (.int .i64 0)).heap[D]? = some (.deferred (some [])) := by
        rw [Below.heap_setCell _ _ _ D (by simp; omega), Below.heap_setCell _ _ _ D (by simp; omega), Below.heap_setCell _ _ _ D (by simp; omega)]
        exact hK
      generalize ((W.setCell ⟨w.heap.size, 0, none⟩ (.slice A (items s.data.toList 0).length c)).setCell ⟨w.heap.size + 1, 0, none⟩ (.int .i64 0)).setCell ⟨w.heap.size + 1 + 1, 0, none⟩ (.int .i64 0) = Y at hY k1 k2 k3 o3 hD' ⊢
      refine ⟨by simp, .inl ⟨_, _, rfl, run_takeDeferred hD', ?_⟩⟩
      have d0 : (Y.putObj D (.deferred none)).cell? ⟨w.heap.size, 0, none⟩ = some (.slice A (items s.data.toList 0).length c) := (blk_put k1 hD' rfl).cell 0
      have d1 : (Y.putObj D (.deferred none)).cell? ⟨w.heap.size + 1, 0, none⟩ = some (.int .i64 0) := (blk_put k2 hD' rfl).cell 0
      have d2 : (Y.putObj D (.deferred none)).cell? ⟨w.heap.size + 1 + 1, 0, none⟩ = some (.int .i64 0) := (blk_put k3 hD' rfl).cell 0
      refine ⟨.tuple #[.slice A (items s.data.toList 0).length c, .int .i64 0, .int .i64 0], by simp [results, Tryd.results19, go_sem, d0, d1, d2], ?_⟩
      rw [lexOf_good HLen.out HE.out.ok]
      have o4 := own_keep o3 (grownBy_putObj' Y D (.deferred none)) (fun r e => by cases e; exact ⟨_, hD', rfl⟩)
      refine ⟨A, c, by rw [List.length_map], by rw [List.length_map]; exact hcn, Vals.of_own o4, hY.trans (belowK_b (w := w) (Nat.le_refl _) Y D _ _ (by omega) hD' rfl rfl), fun b o e => ?_⟩
      subst e
      have h1 := o4.lt b rfl
      have h2 := hB0.size
      omega
    case stop =>
      rintro D c' pre W hD ⟨k, hk, rfl⟩ ⟨rfl, HX⟩ hK
      obtain ⟨x, hx, hxf, hx2⟩ := HX.last
      have hxi : x ∈ items s.data.toList 0 := List.mem_of_mem_take hx
      have HLX := Lib.hid (lexOf_bad HLen.out hxi hxf)
      have d0 : (W.putObj D (.deferred none)).cell? ⟨w.heap.size, 0, none⟩ = some (.slice none 0 0) := (blk_put HX.row hK rfl).cell 0
      have d1 : (W.putObj D (.deferred none)).cell? ⟨w.heap.size + 1, 0, none⟩ = some (.int .i64 40) := (blk_put HX.eb hK rfl).cell 0
      have d2 : (W.putObj D (.deferred none)).cell? ⟨w.heap.size + 1 + 1, 0, none⟩ = some (.int .i64 (x.1.place : Int)) := (blk_put hx2 hK rfl).cell 0
      have hY := HX.low
      gi_wp2
      refine ⟨by simp, .inl ⟨_, _, rfl, run_takeDeferred hK, ?_⟩⟩
      refine ⟨.tuple #[.slice none 0 0, .int .i64 40, .int .i64 (x.1.place : Int)], by simp [results, Tryd.results19, go_sem, d0, d1, d2], ?_⟩
      rw [HLX.out]
      exact ⟨none, 0, rfl, Nat.le_refl _, Vals.nil, hY.trans (belowK_b (w := w) (Nat.le_refl _) W D _ _ (by omega) hK rfl rfl), fun b o e => by cases e⟩
theorem lex_any (s : ByteArray) (hs : s.size ≤ 140737488355328) (w : World) : Calls Tryd.prog 19 #[.string s] w (RetTk w (lexOf s.data.toList)) :=
  (lex_new s hs w).mono fun e w' ⟨A, c, h1, h2, h3, h4, _⟩ => ⟨A, c, h1, h2, h3, h4⟩
end Go.Proofs.YtijecfmblddanaaDoor
