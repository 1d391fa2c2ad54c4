/- Tokens: the walks of signs, sign, first. -/
import Derived.Test.YtijecfmblddanaaDoorTkRun
import Derived.Test.YtijecfmblddanaaDoorTkLib
import Derived.Test.YtijecfmblddanaaDoorMem
set_option linter.unusedVariables false
set_option linter.unusedSimpArgs false
namespace Go.Proofs.YtijecfmblddanaaDoor
open Go.RowKit

def sgv : List Value := sgs.map fun x => .string ⟨x.toArray⟩

set_option maxHeartbeats 400000 in
theorem signs_any (w : World) : Calls Tryd.prog 97 #[] w fun e w' => e = .returned (.slice (some ⟨w.heap.size, 0, none⟩) 9 9) ∧ w' = w.alloc (.cells sgv.toArray 9) := by
  go_enter Tryd.func97, Tryd.ntmps97
  go_wp2_with fail
  go_ret
  exact ⟨rfl, rfl⟩

theorem find_at {α : Type} (p : α → Bool) : ∀ (l : List α) (k : Nat) (x : α), (∀ j y, j < k → l[j]? = some y → p y = false) → l[k]? = some x → p x = true → l.find? p = some x
  | [], k, x, _, h, _ => by simp at h
  | c :: l, 0, x, _, h, hp => by
    have e : c = x := by simpa using h
    subst e
    simp [List.find?, hp]
  | c :: l, k + 1, x, hall, h, hp => by
    have hc : p c = false := hall 0 c (by omega) rfl
    simp only [List.find?, hc]
    exact find_at p l k x (fun j y hj hy => hall (j + 1) y (by omega) (by simpa using hy)) (by simpa using h) hp
theorem find_none {α : Type} (p : α → Bool) (l : List α) (h : ∀ (j : Nat) (y : α), l[j]? = some y → p y = false) : l.find? p = none := by
  rw [List.find?_eq_none]
  intro y hy
  obtain ⟨j, hj⟩ := List.getElem?_of_mem hy
  simp [h j y hj]

set_option maxHeartbeats 400000 in
theorem sign_any (s : ByteArray) (w : World) : Calls Tryd.prog 74 #[.string s] w fun e w' => e = .returned (.int .i64 (signL s.data.toList : Int)) ∧ Below w.heap.size w w' := by
  have hl : ∀ k x, sgs[k]? = some x → (w.alloc (.cells sgv.toArray 9)).cell? ⟨w.heap.size, k, none⟩ = some (.string ⟨x.toArray⟩) := fun k x h => by
    rw [cell_of_row (w.alloc (.cells sgv.toArray 9)) w.heap.size k sgv.toArray 9 (0, 0) (heap_alloc_new w _)]
    simp [sgv, h]
  have hb : Below w.heap.size w (w.alloc (.cells sgv.toArray 9)) := (Below.refl _ _).alloc (Nat.le_refl _) _
  go_enter Tryd.func74, Tryd.ntmps74
  go_wp2_with fail
  refine (signs_any w).mono ?_
  rintro e w1 ⟨rfl, rfl⟩
  generalize w.alloc (.cells sgv.toArray 9) = w1 at hl hb ⊢
  go_wp2_with fail
  go_loopw [7] (fun i wr => ∃ k : Nat, k ≤ 9 ∧ i = .int .i64 k ∧ wr = w1 ∧ ∀ j x, j < k → sgs[j]? = some x → x.isPrefixOf s.data.toList = false) (fun i _ => 9 - (intOf i).toNat)
  case atStart => exact ⟨0, by omega, rfl, rfl, fun j x h => by omega⟩
  case round =>
    obtain ⟨k, hk, rfl, rfl, hall⟩ := hrel
    by_cases hlt : k < 9
    · have hlt' : (k : Int) < 9 := by omega
      obtain ⟨x, hx⟩ : ∃ x, sgs[k]? = some x := ⟨_, List.getElem?_eq_getElem (by simpa [sgs] using hlt)⟩
      have hc := hl k x hx
      have HP := Lib.hid (prefix_any s ⟨x.toArray⟩ wr)
      go_wp2_with fail
      refine HP.out.mono ?_
      rintro e w' ⟨rfl, rfl⟩
      cases hp : x.isPrefixOf s.data.toList with
      | true =>
        have hr : signL s.data.toList = x.length := by
          unfold signL
          rw [find_at (fun x => x.isPrefixOf s.data.toList) sgs k x hall hx hp]
          rfl
        go_wp2_with fail
        go_ret
        rw [hr]
        exact ⟨rfl, hb⟩
      | false =>
        go_wp2_with fail
        go_roundw
        case rel =>
          refine ⟨k + 1, by omega, by go_num, (by first | rfl | trivial), fun j y hj hy => ?_⟩
          by_cases e : j = k
          · subst e
            rw [hx] at hy
            cases hy
            exact hp
          · exact hall j y (by omega) hy
        case measure => simp [intOf]; omega
    · obtain rfl : k = 9 := by omega
      have hr : signL s.data.toList = 0 := by
        unfold signL
        rw [find_none (fun x => x.isPrefixOf s.data.toList) sgs (fun j y hy => hall j y (by have := (List.getElem?_eq_some_iff.1 hy).1; simpa [sgs] using this) hy)]
        rfl
      go_wp2_with fail
      go_ret
      rw [hr]
      exact ⟨rfl, hb⟩

/-- What first hands back of bytes with no blank ahead. -/
def firstL (l : List UInt8) : Int × List UInt8 × Bool :=
  if l = [] then (0, [], true) else if 0 < nameL l then (1, l.take (nameL l), true) else (2, l.take (signL l), decide (0 < signL l))

theorem runL_le (p : UInt8 → Bool) (l : List UInt8) : runL p l ≤ l.length := (List.takeWhile_sublist p (l := l)).length_le
theorem nameL_le (l : List UInt8) : nameL l ≤ l.length := by
  unfold nameL
  split
  · unfold quotL
    split
    · omega
    · split
      · rename_i h
        rcases Nat.lt_or_ge (1 + runL innerB (l.drop 1)) l.length with h' | h'
        · omega
        · rw [List.getElem?_eq_none h'] at h
          simp at h
      · omega
  · exact runL_le _ _
theorem signL_le (l : List UInt8) : signL l ≤ l.length := by
  unfold signL
  cases h : sgs.find? (fun x => x.isPrefixOf l) with
  | none => simp
  | some x =>
    have hp := List.find?_some h
    have := (List.isPrefixOf_iff_prefix.1 hp).length_le
    simpa using this

theorem extract0 (s : ByteArray) (n : Nat) : s.extract 0 n = ⟨(s.data.toList.take n).toArray⟩ := by
  have h := Lib.extract_data s 0 n
  rw [List.drop_zero, Nat.sub_zero] at h
  cases hx : s.extract 0 n with
  | mk d =>
    rw [hx] at h
    rw [← h]

set_option maxHeartbeats 400000 in
theorem first_any (s : ByteArray) (hs : s.size ≤ 9223372036854775806) (w : World) : Calls Tryd.prog 56 #[.string s] w fun e w' =>
    e = .returned (.tuple #[.agg #[.int .i64 (firstL s.data.toList).1, .string ⟨(firstL s.data.toList).2.1.toArray⟩, .int .i64 0], .bool (firstL s.data.toList).2.2]) ∧ Below w.heap.size w w' := by
  have hsz : s.data.toList.length = s.size := Array.length_toList
  have hn := nameL_le s.data.toList
  have hg := signL_le s.data.toList
  have HS := Lib.hid (sign_any s)
  have hb : Below w.heap.size w (w.alloc (.cells #[.int .i64 0, .string ⟨#[]⟩, .int .i64 0] 32)) := (Below.refl _ _).alloc (Nat.le_refl _) _
  have HX := Lib.hid (Blk.new w 32 #[.int .i64 0, .string ⟨#[]⟩, .int .i64 0])
  by_cases h0 : s.data.toList = []
  · have he : s.toList.isEmpty = true := by rw [Lib.toList_data, h0]; rfl
    have hf : firstL s.data.toList = (0, [], true) := by unfold firstL; rw [if_pos h0]
    rw [hf]
    clear hf hn hg
    go_enter Tryd.func56, Tryd.ntmps56
    go_wp2_with fail
    have d0 := (HX.out).cell 0
    have d1 := (HX.out).cell 1
    have d2 := (HX.out).cell 2
    refine bodyPost_ret (v := .tuple #[.agg #[.int .i64 0, .string ⟨#[]⟩, .int .i64 0], .bool true]) (by simp [results, Tryd.results56, go_sem, d0, d1, d2]) rfl ?_
    exact ⟨rfl, hb⟩
  · have he : s.toList.isEmpty = false := by rw [Lib.toList_data]; cases h : s.data.toList with
      | nil => exact absurd h h0
      | cons => rfl
    have hpos : 0 < s.size := by rw [← hsz]; exact List.length_pos_iff.2 h0
    have HN := Lib.hid (name_any s hs hpos)
    have HF : Hid (firstL s.data.toList = if 0 < nameL s.data.toList then (1, s.data.toList.take (nameL s.data.toList), true) else (2, s.data.toList.take (signL s.data.toList), decide (0 < signL s.data.toList))) := Lib.hid (by unfold firstL; rw [if_neg h0])
    generalize firstL s.data.toList = r at HF ⊢
    obtain ⟨nn, hnn⟩ : ∃ nn, nameL s.data.toList = nn := ⟨_, rfl⟩
    obtain ⟨ns, hns⟩ : ∃ ns, signL s.data.toList = ns := ⟨_, rfl⟩
    rw [hnn] at HN HF hn
    rw [hns] at HS HF hg
    rw [hsz] at hn hg
    clear hnn hns
    go_enter Tryd.func56, Tryd.ntmps56
    go_wp2_with fail
    refine (HN.out _).mono ?_
    rintro e wx ⟨rfl, h1⟩
    subst h1
    by_cases hp : 0 < nn
    · have hr : r = (1, s.data.toList.take nn, true) := by rw [HF.out, if_pos hp]
      subst hr
      have hp' : 0 < (nn : Int) := by omega
      clear HF
      go_wp2_with fail
      have hb2 : Below w.heap.size w (w.alloc (.cells #[.int .i64 1, .string (s.extract 0 nn), .int .i64 0] 32)) := (Below.refl _ _).alloc (Nat.le_refl _) _
      have d0 := (Blk.new w 32 #[.int .i64 1, .string (s.extract 0 nn), .int .i64 0]).cell 0
      have d1 := (Blk.new w 32 #[.int .i64 1, .string (s.extract 0 nn), .int .i64 0]).cell 1
      have d2 := (Blk.new w 32 #[.int .i64 1, .string (s.extract 0 nn), .int .i64 0]).cell 2
      refine bodyPost_ret (v := .tuple #[.agg #[.int .i64 1, .string (s.extract 0 nn), .int .i64 0], .bool true]) (by simp [results, Tryd.results56, go_sem, d0, d1, d2]) rfl ?_
      rw [extract0] at hb2 ⊢
      exact ⟨rfl, hb2⟩
    · have hr : r = (2, s.data.toList.take ns, decide (0 < ns)) := by rw [HF.out, if_neg hp]
      subst hr
      obtain rfl : nn = 0 := by omega
      clear HF
      go_wp2_with fail
      refine (HS.out _).mono ?_
      rintro e w2 ⟨rfl, hb2⟩
      have HX2 := Lib.hid (HX.out.below hb2 HX.out.lt)
      have HB2 := Lib.hid (below2 hb hb.size hb2)
      have f0 := HX2.out.frozen 0
      have f1 := HX2.out.frozen 1
      have f2 := HX2.out.frozen 2
      have c0 := HX2.out.cell 0
      have c1 := HX2.out.cell 1
      have c2 := HX2.out.cell 2
      clear hb2
      go_wp2_with fail
      have HX3 := ((HX2.out.set_ 0 (.int .i64 2)).set_ 1 (.string (s.extract 0 ns))).set_ 2 (.int .i64 0)
      clear c0 c1 c2
      have d0 := (HX3).cell 0
      have d1 := (HX3).cell 1
      have d2 := (HX3).cell 2
      refine bodyPost_ret (v := .tuple #[.agg #[.int .i64 2, .string (s.extract 0 ns), .int .i64 0], .bool (decide (0 < ns))]) (by simp [results, Tryd.results56, go_sem, d0, d1, d2]) rfl ?_
      rw [extract0]
      exact ⟨rfl, ((HB2.out.setCell (p := ⟨w.heap.size, 0, none⟩) (Nat.le_refl _) _).setCell (p := ⟨w.heap.size, 1, none⟩) (Nat.le_refl _) _).setCell (p := ⟨w.heap.size, 2, none⟩) (Nat.le_refl _) _⟩
end Go.Proofs.YtijecfmblddanaaDoor
