/- Formulas: Key, an atom's text. -/
import Derived.Laws.RangeString
import Derived.Test.YtijecfmblddanaaDoorFmShelf2
import Derived.Test.YtijecfmblddanaaDoorFmKey
set_option linter.unusedVariables false
set_option linter.unusedSimpArgs false
namespace Go.Proofs.YtijecfmblddanaaDoor
open Go.RowKit Go.Maps

def keyBA : List ByteArray := keyWords.map fun x => ⟨x.toArray⟩
theorem keyBA_iff (s : ByteArray) : Lib.containsS (keyBA.take 12) s = keyB s.data.toList := by
  rw [Bool.eq_iff_iff, Lib.containsS_iff]
  unfold keyB
  have h12 : keyBA.take 12 = keyBA := rfl
  rw [h12, List.contains_iff_mem]
  unfold keyBA
  rw [List.mem_map]
  constructor
  · rintro ⟨x, hx, rfl⟩
    simpa using hx
  · intro h
    exact ⟨s.data.toList, h, rfl⟩

set_option maxHeartbeats 1000000 in
theorem key_any (s : ByteArray) (w : World) : Calls Tryd.prog 80 #[.string s] w (Ret w (.bool (keyB s.data.toList))) := by
  have hB := Blk.new w 9 keyV.toArray
  have hb := stepA w (.cells keyV.toArray 9)
  obtain ⟨w1, hw1⟩ : ∃ w1, w1 = w.alloc (.cells (#[.string ⟨#[116, 114, 117, 101]⟩, .string ⟨#[102, 97, 108, 115, 101]⟩, .string ⟨#[69]⟩, .string ⟨#[65]⟩, .string ⟨#[69, 88]⟩, .string ⟨#[65, 88]⟩, .string ⟨#[69, 70]⟩, .string ⟨#[65, 70]⟩, .string ⟨#[69, 71]⟩, .string ⟨#[65, 71]⟩, .string ⟨#[85]⟩, .string ⟨#[82]⟩] : Array Value) 9) := ⟨_, rfl⟩
  rw [keyV_arr, ← hw1] at hb
  have hB2 : Blk w1 w.heap.size 9 keyV.toArray := by rw [hw1]; exact hB
  have hcall : Calls Tryd.prog 101 #[.slice (some ⟨w.heap.size, 0, none⟩) 12 12, .string s] w1 (fun e w' => e = .returned (.bool (keyB s.data.toList)) ∧ w' = w1) := by
    have h := Any.slices_Contains_string Tryd.lays110 w.heap.size 0 12 12 keyBA s w1 (by decide) (by decide) (fun j hj => by
      rw [hB2.cell, List.getElem?_toArray]
      have hj2 : j < 12 := hj
      have hx : keyBA[j]? = some (keyBA.getD j ByteArray.empty) := by
        rw [List.getD_eq_getElem?_getD, List.getElem?_eq_getElem hj]; rfl
      have hv : keyV = keyBA.map Value.string := rfl
      rw [hv, List.getElem?_map, Nat.zero_add, hx]
      rfl)
    rw [keyBA_iff] at h
    exact h
  generalize keyB s.data.toList = kk at hcall ⊢
  have HW1 := Lib.hid hw1
  have HB := Lib.hid hb
  have HC := Lib.hid hcall
  clear hcall hB hB2 hb hw1
  go_enter Tryd.func80, Tryd.ntmps80
  go_wp2_with fail
  rw [← HW1.out]
  refine HC.out.mono ?_
  rintro e w2 ⟨rfl, rfl⟩
  go_wp2_with fail
  go_ret
  exact ⟨rfl, HB.out⟩

/-- A rune that a name cannot stand with without quotes. -/
def oddN (n : Nat) : Bool := !(decide (97 ≤ n) && decide (n ≤ 122) || decide (65 ≤ n) && decide (n ≤ 90) || decide (48 ≤ n) && decide (n ≤ 57) || decide (n = 95))
theorem oddN_byte (c : UInt8) : oddN c.toNat = !letterB c := rfl

set_option maxHeartbeats 400000 in
theorem odd_any (n : Nat) (w : World) : Calls Tryd.prog 79 #[.int .i32 (n : Int)] w fun e w' => e = .returned (.bool (oddN n)) ∧ w' = w := by
  unfold oddN
  go_enter Tryd.func79, Tryd.ntmps79
  go_wp2_with fail
  all_goals go_ret
  all_goals (refine ⟨congrArg Ending.returned (congrArg Value.bool ?_), rfl⟩)
  all_goals (rw [Bool.eq_iff_iff]; simp only [Bool.not_eq_true', Bool.or_eq_false_iff, Bool.and_eq_false_iff, decide_eq_false_iff_not, Bool.not_eq_true, beq_eq_false_iff_ne, true_iff, ne_eq, Bool.or_eq_true, Bool.and_eq_true, decide_eq_true_eq, beq_iff_eq, Bool.false_eq_true, false_iff, Bool.true_eq_false, Bool.false_eq_true, iff_false, iff_true]; omega)

theorem idxFuncFrom_ascii (s : ByteArray) (ha : ∀ b ∈ s.data.toList, b.toNat < 128) : ∀ (f pos : Nat), s.size ≤ pos + f → (decide (0 ≤ Lib.idxFuncFrom oddN true s f pos) = !((s.data.toList.drop pos).all letterB))
  | 0, pos, h => by
    have hl : s.data.toList.length = s.size := Array.length_toList
    rw [List.drop_eq_nil_of_le (by omega)]
    rfl
  | f + 1, pos, h => by
    have hl : s.data.toList.length = s.size := Array.length_toList
    unfold Lib.idxFuncFrom
    by_cases hp : pos < s.size
    · have hd : s.data.toList.drop pos = s[pos] :: s.data.toList.drop (pos + 1) := by
        rw [List.drop_eq_getElem_cons (by omega)]
        rfl
      have hmem : s[pos] ∈ s.data.toList := by
        have : s[pos] ∈ s.data.toList.drop pos := by rw [hd]; exact List.mem_cons_self
        exact List.mem_of_mem_drop this
      rw [if_pos hp, decode_ascii s pos hp (ha _ hmem), hd, List.all_cons]
      show decide (0 ≤ if oddN s[pos].toNat = true then (pos : Int) else Lib.idxFuncFrom oddN true s f (pos + 1)) = _
      rw [oddN_byte]
      cases letterB s[pos] with
      | true =>
        rw [if_neg (by simp), idxFuncFrom_ascii s ha f (pos + 1) (by omega), Bool.true_and]
      | false =>
        rw [if_pos (by simp)]
        simp
    · rw [if_neg hp, List.drop_eq_nil_of_le (by omega)]
      rfl

theorem indexFunc_any (s : ByteArray) (ha : ∀ b ∈ s.data.toList, b.toNat < 128) (w : World) : ∃ i : Int, (decide (0 ≤ i) = !(s.data.toList.all letterB)) ∧ Calls Tryd.prog 81 #[.string s, .func (.func 79) #[] #[]] w (Ret w (.int .i64 i)) := by
  refine ⟨Lib.idxFunc oddN true s, ?_, ?_⟩
  · have h := idxFuncFrom_ascii s ha s.size 0 (by omega)
    exact h
  · have h := Any.strings_IndexFunc Tryd.laysGw15 79 #[] (enters_of Tryd.func79 (by kernel_rfl) rfl) oddN s w (fun W x hb => Calls.mono (odd_any x W) (by rintro e w' ⟨rfl, rfl⟩; exact ⟨rfl, 0, rfl⟩))
    exact h

set_option maxHeartbeats 1000000 in
theorem atom_any (s : ByteArray) (ha : ∀ b ∈ s.data.toList, b.toNat < 128) (hs : s.size ≤ 140737488355328) (w : World) : Calls Tryd.prog 60 #[.string s] w fun e w' => ∃ t : ByteArray, e = .returned (.string t) ∧ t.data.toList = atomT s.data.toList ∧ Below w.heap.size w w' := by
  have HI := Lib.hid (fun w => indexFunc_any s ha w)
  have HK := Lib.hid (fun w => key_any s w)
  have HT : Hid (atomT s.data.toList = if s.data.toList.all letterB && !keyB s.data.toList then s.data.toList else 34 :: (s.data.toList ++ [34])) := Lib.hid rfl
  clear ha
  generalize keyB s.data.toList = kk at HK HT
  generalize s.data.toList.all letterB = aa at HI HT
  go_enter Tryd.func60, Tryd.ntmps60
  go_wp2_with fail
  refine (HK.out _).mono ?_
  rintro e w2 ⟨rfl, hb2⟩
  have HB2 := Lib.hid hb2
  clear hb2
  cases kk with
  | true =>
    go_wp2_with fail
    go_ret
    refine ⟨_, rfl, ?_, HB2.out⟩
    rw [HT.out]
    simp
  | false =>
    obtain ⟨i, hi, hcall⟩ := HI.out w2
    have HCA := Lib.hid hcall
    have HII := Lib.hid hi
    clear hi hcall
    go_wp2_with fail
    refine HCA.out.mono ?_
    rintro e w3 ⟨rfl, hb3⟩
    have hb23 := HB2.out.trans (hb3.mono HB2.out.size)
    have HB3 := Lib.hid hb23
    clear hb3 hb23
    have hi := HII.out
    cases aa with
    | true =>
      have hn : i < 0 := by simpa using hi
      clear hi
      go_wp2_with fail
      go_ret
      refine ⟨_, rfl, ?_, HB3.out⟩
      rw [HT.out]
      simp
    | false =>
      have hn : 0 ≤ i := by simpa using hi
      clear hi
      go_wp2_with fail
      go_ret
      refine ⟨_, rfl, ?_, HB3.out⟩
      rw [HT.out]
      simp
end Go.Proofs.YtijecfmblddanaaDoor
