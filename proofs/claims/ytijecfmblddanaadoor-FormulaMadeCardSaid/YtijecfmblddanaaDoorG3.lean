/- Formulas: Word, the document's Word and Kids. Formulas: the document's Word and Kids. Formulas: shapes. Formulas: right, Size, Right. Formulas by numbers: make, Made. -/
import Derived.Test.YtijecfmblddanaaDoorFmShelf
import Derived.Test.YtijecfmblddanaaDoorG2
import Derived.Test.YtijecfmblddanaaDoorG1
import Derived.Test.YtijecfmblddanaaDoorProg
set_option linter.unusedVariables false
set_option linter.unusedSimpArgs false
namespace Go.Proofs.YtijecfmblddanaaDoor
open Go.RowKit Go.Maps Go.Shelf

theorem indexByte_mem : ∀ (l : List UInt8) (c : UInt8), decide (0 ≤ Lib.indexByte l c) = l.contains c
  | [], c => by simp [Lib.indexByte]
  | d :: l, c => by
    have ih := indexByte_mem l c
    have hge := Lib.indexByte_ge l c
    have hu : Lib.indexByte (d :: l) c = if d == c then 0 else if Lib.indexByte l c == -1 then -1 else Lib.indexByte l c + 1 := rfl
    rw [List.contains_cons, ← ih, hu]
    generalize Lib.indexByte l c = x at hge
    by_cases h : d = c
    · subst h
      simp
    · have h2 : (d == c) = false := by simpa using h
      have h3 : (c == d) = false := by simpa using fun e => h e.symm
      rw [h2, h3, Bool.false_or, if_neg (by simp)]
      by_cases h4 : x = -1
      · subst h4
        rfl
      · rw [if_neg (by simpa using h4), decide_eq_decide]
        omega
theorem contains_any (s : ByteArray) (w : World) : Calls Tryd.prog 82 #[.string s, .string ⟨#[34]⟩] w fun e w' => e = .returned (.bool (s.data.toList.contains 34)) ∧ w' = w := by
  have h := Any.strings_Contains_one Tryd.lays144 s 34 w
  rw [indexByte_mem] at h
  exact h

/-- A byte of a name. -/
def wByte (c : UInt8) : Bool := decide (33 ≤ c.toNat) && decide (c.toNat ≤ 126) && !decide (c.toNat = 34)
theorem wordB_eq (l : List UInt8) : wordB l = (l.all wByte && decide (0 < l.length) && decide (l.length ≤ 20)) := rfl
theorem all_false_at {p : UInt8 → Bool} {l : List UInt8} {k : Nat} {b : UInt8} (h : l[k]? = some b) (hb : p b = false) : l.all p = false := by
  rw [Bool.eq_false_iff]
  intro h2
  rw [List.all_eq_true] at h2
  rw [h2 b (List.mem_of_getElem? h)] at hb
  cases hb
theorem all_of {p : UInt8 → Bool} {l : List UInt8} (h : ∀ (j : Nat) (b : UInt8), l[j]? = some b → p b = true) : l.all p = true := by
  rw [List.all_eq_true]
  intro b hb
  obtain ⟨j, hj⟩ := List.getElem?_of_mem hb
  exact h j b hj

set_option maxHeartbeats 1000000 in
theorem word_any (s : ByteArray) (hs : s.size ≤ 9223372036854775806) (w : World) : Calls Tryd.prog 62 #[.string s] w fun e w' => e = .returned (.bool (wordB s.data.toList)) ∧ w' = w := by
  have hsz : s.data.toList.length = s.size := Array.length_toList
  have HSZ := Lib.hid hsz
  have HW := Lib.hid (wordB_eq s.data.toList)
  clear hsz
  go_enter Tryd.func62, Tryd.ntmps62
  go_wp2_with fail
  go_loopw [6] (fun i wr => ∃ k : Nat, k ≤ s.size ∧ i = .int .i64 (k : Int) ∧ wr = w ∧ ∀ (j : Nat) (b : UInt8), j < k → s.data.toList[j]? = some b → 33 ≤ b.toNat ∧ b.toNat ≤ 126) (fun i _ => s.size - (intOf i).toNat)
  case atStart => exact ⟨0, Nat.zero_le _, rfl, rfl, fun j b h => by omega⟩
  case round =>
    obtain ⟨k, hk, rfl, rfl, hall⟩ := hrel
    have HALL := Lib.hid hall
    clear hall
    by_cases hlt : k < s.size
    · have hlt' : (k : Int) < (s.size : Int) := by omega
      have hb : s.data.toList[k]? = some s[k] := by
        rw [List.getElem?_eq_getElem (by have := HSZ.out; omega)]
        rfl
      have HB := Lib.hid hb
      clear hb
      by_cases h1 : s[k].toNat ≤ 32
      · have h1' : (s[k].toNat : Int) ≤ 32 := by omega
        have HE : Hid (wordB s.data.toList = false) := Lib.hid (by
          rw [HW.out, all_false_at HB.out (by unfold wByte; rw [decide_eq_false (by omega)]; rfl)]
          rfl)
        go_wp2_with fail
        go_ret
        rw [HE.out]
        exact ⟨rfl, rfl⟩
      · have h1' : ¬ ((s[k].toNat : Int) ≤ 32) := by omega
        by_cases h2 : 126 < s[k].toNat
        · have h2' : (126 : Int) < (s[k].toNat : Int) := by omega
          have HE : Hid (wordB s.data.toList = false) := Lib.hid (by
            rw [HW.out, all_false_at HB.out (by unfold wByte; rw [decide_eq_false (show ¬ s[k].toNat ≤ 126 by omega), Bool.and_false]; rfl)]
            rfl)
          go_wp2_with fail
          go_ret
          rw [HE.out]
          exact ⟨rfl, rfl⟩
        · have h2' : ¬ ((126 : Int) < (s[k].toNat : Int)) := by omega
          go_wp2_with fail
          go_roundw
          case rel =>
            refine ⟨k + 1, by omega, by go_num, (by first | rfl | trivial), fun j b hj hjb => ?_⟩
            by_cases e : j = k
            · subst e
              have := HB.out
              rw [this] at hjb
              cases hjb
              omega
            · exact HALL.out j b (by omega) hjb
          case measure => simp [intOf]; omega
    · obtain rfl : k = s.size := by omega
      have hall2 : ∀ (j : Nat) (b : UInt8), s.data.toList[j]? = some b → 33 ≤ b.toNat ∧ b.toNat ≤ 126 := fun j b hb => by
        have hj := (List.getElem?_eq_some_iff.1 hb).1
        exact HALL.out j b (by have := HSZ.out; omega) hb
      have hcon : s.data.toList.all wByte = !s.data.toList.contains 34 := by
        cases hc : s.data.toList.contains 34 with
        | true =>
          have hm : (34 : UInt8) ∈ s.data.toList := by simpa using hc
          obtain ⟨j, hj⟩ := List.getElem?_of_mem hm
          exact all_false_at hj (by decide)
        | false =>
          refine all_of fun j b hj => ?_
          obtain ⟨q1, q2⟩ := hall2 j b hj
          have q3 : b.toNat ≠ 34 := fun e => by
            have : b = 34 := UInt8.toNat_inj.1 e
            rw [this] at hj
            have hm := List.mem_of_getElem? hj
            have : s.data.toList.contains 34 = true := by simpa using hm
            rw [hc] at this
            cases this
          unfold wByte
          simp [q1, q2, q3]
      have HE : Hid (wordB s.data.toList = ((!s.data.toList.contains 34) && decide (0 < s.size) && decide (s.size ≤ 20))) := Lib.hid (by rw [HW.out, hcon, HSZ.out])
      have hemp : s.toList.isEmpty = decide (s.size = 0) := by
        rw [Lib.toList_data, ← HSZ.out]
        cases s.data.toList <;> simp
      clear hcon hall2
      by_cases h0 : s.size = 0
      · have hemp' : s.toList.isEmpty = true := by rw [hemp, decide_eq_true h0]
        clear hemp
        have HE2 : Hid (wordB s.data.toList = false) := Lib.hid (by rw [HE.out, decide_eq_false (show ¬ 0 < s.size by omega)]; simp)
        clear h0
        go_wp2_with fail
        go_ret
        rw [HE2.out]
        exact ⟨rfl, rfl⟩
      · have hemp' : s.toList.isEmpty = false := by rw [hemp, decide_eq_false h0]
        clear hemp
        by_cases h20 : s.size ≤ 20
        · have h20' : (s.size : Int) ≤ 20 := by omega
          have HE2 : Hid (wordB s.data.toList = !s.data.toList.contains 34) := Lib.hid (by rw [HE.out, decide_eq_true h20, decide_eq_true (show 0 < s.size by omega)]; simp)
          have HC := Lib.hid (contains_any s wr)
          generalize s.data.toList.contains 34 = cc at HE2 HC
          clear HE
          go_wp2_with fail
          refine HC.out.mono ?_
          rintro e w' ⟨rfl, rfl⟩
          go_wp2_with fail
          go_ret
          rw [HE2.out]
          exact ⟨rfl, rfl⟩
        · have h20' : ¬ ((s.size : Int) ≤ 20) := by omega
          have HE2 : Hid (wordB s.data.toList = false) := Lib.hid (by rw [HE.out, decide_eq_false h20]; simp)
          clear HE
          go_wp2_with fail
          go_ret
          rw [HE2.out]
          exact ⟨rfl, rfl⟩
end Go.Proofs.YtijecfmblddanaaDoor

set_option linter.unusedVariables false
set_option linter.unusedSimpArgs false
namespace Go.Proofs.YtijecfmblddanaaDoor
open Go.RowKit Go.Maps

set_option maxHeartbeats 1000000 in
theorem rword_any (s : ByteArray) (hs : s.size ≤ 9223372036854775806) (w : World) : Calls Tryd.prog 77 #[.string s] w fun e w' => e = .returned (.bool (wordB s.data.toList)) ∧ w' = w := by
  have hsz : s.data.toList.length = s.size := Array.length_toList
  have HSZ := Lib.hid hsz
  have HW := Lib.hid (wordB_eq s.data.toList)
  clear hsz
  go_enter Tryd.func77, Tryd.ntmps77
  go_wp2_with fail
  go_loopw [3] (fun i wr => ∃ k : Nat, k ≤ s.size ∧ i = .int .i64 (k : Int) ∧ wr = w ∧ ∀ (j : Nat) (b : UInt8), j < k → s.data.toList[j]? = some b → wByte b = true) (fun i _ => s.size - (intOf i).toNat)
  case atStart => exact ⟨0, Nat.zero_le _, rfl, rfl, fun j b h => by omega⟩
  case round =>
    obtain ⟨k, hk, rfl, rfl, hall⟩ := hrel
    have HALL := Lib.hid hall
    clear hall
    by_cases hlt : k < s.size
    · have hlt' : (k : Int) < (s.size : Int) := by omega
      have hb : s.data.toList[k]? = some s[k] := by
        rw [List.getElem?_eq_getElem (by have := HSZ.out; omega)]
        rfl
      have HB := Lib.hid hb
      clear hb
      have HWB : Hid (wByte s[k] = (decide (33 ≤ s[k].toNat) && decide (s[k].toNat ≤ 126) && !decide (s[k].toNat = 34))) := Lib.hid rfl
      have HF : Hid (wByte s[k] = false → wordB s.data.toList = false) := Lib.hid (fun h => by
        rw [HW.out, all_false_at HB.out h]
        rfl)
      by_cases h1 : s[k].toNat < 33
      · have h1' : (s[k].toNat : Int) < 33 := by omega
        have HE := Lib.hid (HF.out (by rw [HWB.out, decide_eq_false (by omega)]; rfl))
        go_wp2_with fail
        go_ret
        rw [HE.out]
        exact ⟨rfl, rfl⟩
      · have h1' : ¬ ((s[k].toNat : Int) < 33) := by omega
        by_cases h2 : 126 < s[k].toNat
        · have h2' : (126 : Int) < (s[k].toNat : Int) := by omega
          have HE := Lib.hid (HF.out (by rw [HWB.out, decide_eq_false (show ¬ s[k].toNat ≤ 126 by omega), Bool.and_false]; rfl))
          go_wp2_with fail
          go_ret
          rw [HE.out]
          exact ⟨rfl, rfl⟩
        · have h2' : ¬ ((126 : Int) < (s[k].toNat : Int)) := by omega
          by_cases h3 : s[k].toNat = 34
          · have h3' : ((s[k].toNat : Int) == 34) = true := by simp; omega
            have HE := Lib.hid (HF.out (by rw [HWB.out, decide_eq_true h3]; simp))
            clear h3
            go_wp2_with fail
            go_ret
            rw [HE.out]
            exact ⟨rfl, rfl⟩
          · have h3' : ((s[k].toNat : Int) == 34) = false := by simp; omega
            have HT : Hid (wByte s[k] = true) := Lib.hid (by rw [HWB.out]; simp [h3]; omega)
            clear h3
            go_wp2_with fail
            go_roundw
            case rel =>
              refine ⟨k + 1, by omega, by go_num, (by first | rfl | trivial), fun j b hj hjb => ?_⟩
              by_cases e : j = k
              · subst e
                have := HB.out
                rw [this] at hjb
                cases hjb
                exact HT.out
              · exact HALL.out j b (by omega) hjb
            case measure => simp [intOf]; omega
    · obtain rfl : k = s.size := by omega
      have hall2 : s.data.toList.all wByte = true := all_of fun j b hb => HALL.out j b (by have := (List.getElem?_eq_some_iff.1 hb).1; have := HSZ.out; omega) hb
      have HE : Hid (wordB s.data.toList = (decide (0 < s.size) && decide (s.size ≤ 20))) := Lib.hid (by rw [HW.out, hall2, HSZ.out, Bool.true_and])
      clear hall2
      by_cases h0 : 0 < s.size
      · have h0' : 0 < (s.size : Int) := by omega
        by_cases h20 : s.size ≤ 20
        · have h20' : (s.size : Int) ≤ 20 := by omega
          have HE2 : Hid (wordB s.data.toList = true) := Lib.hid (by rw [HE.out, decide_eq_true h20, decide_eq_true h0]; rfl)
          go_wp2_with fail
          go_ret
          rw [HE2.out]
          exact ⟨rfl, rfl⟩
        · have h20' : ¬ ((s.size : Int) ≤ 20) := by omega
          have HE2 : Hid (wordB s.data.toList = false) := Lib.hid (by rw [HE.out, decide_eq_false h20]; simp)
          go_wp2_with fail
          go_ret
          rw [HE2.out]
          exact ⟨rfl, rfl⟩
      · have h0' : ¬ (0 < (s.size : Int)) := by omega
        have HE2 : Hid (wordB s.data.toList = false) := Lib.hid (by rw [HE.out, decide_eq_false h0]; simp)
        go_wp2_with fail
        go_ret
        rw [HE2.out]
        exact ⟨rfl, rfl⟩

set_option maxHeartbeats 1000000 in
theorem rkids_any (k : Int) (w : World) : Calls Tryd.prog 42 #[.int .i64 k] w fun e w' => e = .returned (.int .i64 (nk k)) ∧ w' = w := by
  have HN : Hid (nk k = if k < 1 ∨ 18 < k then -1 else if k ≤ 3 then 0 else if k = 4 ∨ (9 ≤ k ∧ k ≤ 14) then 1 else 2) := Lib.hid rfl
  generalize nk k = r at HN
  by_cases h1 : k < 1
  · have HE : Hid (r = -1) := Lib.hid (by rw [HN.out, if_pos (.inl h1)])
    go_enter Tryd.func42, Tryd.ntmps42
    go_wp2_with fail
    go_ret
    rw [HE.out]
    exact ⟨rfl, rfl⟩
  · by_cases h2 : 18 < k
    · have HE : Hid (r = -1) := Lib.hid (by rw [HN.out, if_pos (.inr h2)])
      go_enter Tryd.func42, Tryd.ntmps42
      go_wp2_with fail
      go_ret
      rw [HE.out]
      exact ⟨rfl, rfl⟩
    · by_cases h3 : k ≤ 3
      · have HE : Hid (r = 0) := Lib.hid (by rw [HN.out, if_neg (by omega), if_pos h3])
        go_enter Tryd.func42, Tryd.ntmps42
        go_wp2_with fail
        go_ret
        rw [HE.out]
        exact ⟨rfl, rfl⟩
      · by_cases h4 : k = 4
        · have HE : Hid (r = 1) := Lib.hid (by rw [HN.out, if_neg (by omega), if_neg h3, if_pos (.inl h4)])
          have h4' : (k == 4) = true := by simpa using h4
          clear h4
          go_enter Tryd.func42, Tryd.ntmps42
          go_wp2_with fail
          go_ret
          rw [HE.out]
          exact ⟨rfl, rfl⟩
        · have h4' : (k == 4) = false := by simpa using h4
          by_cases h5 : 9 ≤ k
          · by_cases h6 : k ≤ 14
            · have HE : Hid (r = 1) := Lib.hid (by rw [HN.out, if_neg (by omega), if_neg h3, if_pos (.inr ⟨h5, h6⟩)])
              clear h4
              go_enter Tryd.func42, Tryd.ntmps42
              go_wp2_with fail
              go_ret
              rw [HE.out]
              exact ⟨rfl, rfl⟩
            · have HE : Hid (r = 2) := Lib.hid (by rw [HN.out, if_neg (by omega), if_neg h3, if_neg (by omega)])
              clear h4
              go_enter Tryd.func42, Tryd.ntmps42
              go_wp2_with fail
              go_ret
              rw [HE.out]
              exact ⟨rfl, rfl⟩
          · have HE : Hid (r = 2) := Lib.hid (by rw [HN.out, if_neg (by omega), if_neg h3, if_neg (by omega)])
            clear h4
            go_enter Tryd.func42, Tryd.ntmps42
            go_wp2_with fail
            go_ret
            rw [HE.out]
            exact ⟨rfl, rfl⟩
end Go.Proofs.YtijecfmblddanaaDoor

set_option linter.unusedVariables false
set_option linter.unusedSimpArgs false
namespace Go.Proofs.YtijecfmblddanaaDoor
open Go.RowKit Go.Maps

/-- What lies under a kind. -/
def shapeV (k : Int) : Value := .agg #[.int .i64 (nk k), .string ⟨(shp k).1.toArray⟩, .string ⟨(shp k).2.1.toArray⟩, .string ⟨(shp k).2.2.toArray⟩]
def shapeF (k : Int) : Option Value := if (1 ≤ k ∧ k ≤ 18) ∧ k ≠ 3 then some (shapeV k) else none

set_option maxRecDepth 100000 in
set_option maxHeartbeats 2000000 in
theorem shapes_any (w : World) : Calls Tryd.prog 44 #[] w fun e w' => e = .returned (.map (some w.heap.size)) ∧ IMap Tryd.prog 3 w' w.heap.size 17 shapeF ∧ Below w.heap.size w w' := by
  have hmm := @run_makeMap Tryd.prog
  have H0 := Lib.hid (IMap.made Tryd.prog 3 w)
  have HB0 := Lib.hid (stepA w (.map #[] 0))
  go_enter Tryd.func44, Tryd.ntmps44
  go_wp2_with fail
  obtain ⟨w1, hr, h1, hg⟩ := (H0.out).store Tryd.underlying3 Tryd.underlying65 (by unfold maxLen; omega) (i := 1) (by omega) (by omega) (shapeV 1)
  rw [show shapeV 1 = .agg #[.int .i64 0, .string ⟨#[102, 97, 108, 115, 101]⟩, .string ⟨#[]⟩, .string ⟨#[]⟩] from rfl] at hr
  have H1 := Lib.hid h1
  have HB1 := Lib.hid ((HB0.out).grown hg (HB0.out).size (fun k e => by cases e; exact Nat.le_refl _))
  clear h1 hg
  rw [hr]
  clear hr
  go_wp2_with fail
  obtain ⟨w2, hr, h2, hg⟩ := (H1.out).store Tryd.underlying3 Tryd.underlying65 (by unfold maxLen; omega) (i := 2) (by omega) (by omega) (shapeV 2)
  rw [show shapeV 2 = .agg #[.int .i64 0, .string ⟨#[116, 114, 117, 101]⟩, .string ⟨#[]⟩, .string ⟨#[]⟩] from rfl] at hr
  have H2 := Lib.hid h2
  have HB2 := Lib.hid ((HB1.out).grown hg (HB1.out).size (fun k e => by cases e; exact Nat.le_refl _))
  clear h2 hg
  rw [hr]
  clear hr
  go_wp2_with fail
  obtain ⟨w3, hr, h3, hg⟩ := (H2.out).store Tryd.underlying3 Tryd.underlying65 (by unfold maxLen; omega) (i := 4) (by omega) (by omega) (shapeV 4)
  rw [show shapeV 4 = .agg #[.int .i64 1, .string ⟨#[33]⟩, .string ⟨#[]⟩, .string ⟨#[]⟩] from rfl] at hr
  have H3 := Lib.hid h3
  have HB3 := Lib.hid ((HB2.out).grown hg (HB2.out).size (fun k e => by cases e; exact Nat.le_refl _))
  clear h3 hg
  rw [hr]
  clear hr
  go_wp2_with fail
  obtain ⟨w4, hr, h4, hg⟩ := (H3.out).store Tryd.underlying3 Tryd.underlying65 (by unfold maxLen; omega) (i := 5) (by omega) (by omega) (shapeV 5)
  rw [show shapeV 5 = .agg #[.int .i64 2, .string ⟨#[]⟩, .string ⟨#[32, 38, 32]⟩, .string ⟨#[]⟩] from rfl] at hr
  have H4 := Lib.hid h4
  have HB4 := Lib.hid ((HB3.out).grown hg (HB3.out).size (fun k e => by cases e; exact Nat.le_refl _))
  clear h4 hg
  rw [hr]
  clear hr
  go_wp2_with fail
  obtain ⟨w5, hr, h5, hg⟩ := (H4.out).store Tryd.underlying3 Tryd.underlying65 (by unfold maxLen; omega) (i := 6) (by omega) (by omega) (shapeV 6)
  rw [show shapeV 6 = .agg #[.int .i64 2, .string ⟨#[]⟩, .string ⟨#[32, 124, 32]⟩, .string ⟨#[]⟩] from rfl] at hr
  have H5 := Lib.hid h5
  have HB5 := Lib.hid ((HB4.out).grown hg (HB4.out).size (fun k e => by cases e; exact Nat.le_refl _))
  clear h5 hg
  rw [hr]
  clear hr
  go_wp2_with fail
  obtain ⟨w6, hr, h6, hg⟩ := (H5.out).store Tryd.underlying3 Tryd.underlying65 (by unfold maxLen; omega) (i := 7) (by omega) (by omega) (shapeV 7)
  rw [show shapeV 7 = .agg #[.int .i64 2, .string ⟨#[]⟩, .string ⟨#[32, 45, 62, 32]⟩, .string ⟨#[]⟩] from rfl] at hr
  have H6 := Lib.hid h6
  have HB6 := Lib.hid ((HB5.out).grown hg (HB5.out).size (fun k e => by cases e; exact Nat.le_refl _))
  clear h6 hg
  rw [hr]
  clear hr
  go_wp2_with fail
  obtain ⟨w7, hr, h7, hg⟩ := (H6.out).store Tryd.underlying3 Tryd.underlying65 (by unfold maxLen; omega) (i := 8) (by omega) (by omega) (shapeV 8)
  rw [show shapeV 8 = .agg #[.int .i64 2, .string ⟨#[]⟩, .string ⟨#[32, 60, 45, 62, 32]⟩, .string ⟨#[]⟩] from rfl] at hr
  have H7 := Lib.hid h7
  have HB7 := Lib.hid ((HB6.out).grown hg (HB6.out).size (fun k e => by cases e; exact Nat.le_refl _))
  clear h7 hg
  rw [hr]
  clear hr
  go_wp2_with fail
  obtain ⟨w8, hr, h8, hg⟩ := (H7.out).store Tryd.underlying3 Tryd.underlying65 (by unfold maxLen; omega) (i := 9) (by omega) (by omega) (shapeV 9)
  rw [show shapeV 9 = .agg #[.int .i64 1, .string ⟨#[69, 88, 32]⟩, .string ⟨#[]⟩, .string ⟨#[]⟩] from rfl] at hr
  have H8 := Lib.hid h8
  have HB8 := Lib.hid ((HB7.out).grown hg (HB7.out).size (fun k e => by cases e; exact Nat.le_refl _))
  clear h8 hg
  rw [hr]
  clear hr
  go_wp2_with fail
  obtain ⟨w9, hr, h9, hg⟩ := (H8.out).store Tryd.underlying3 Tryd.underlying65 (by unfold maxLen; omega) (i := 10) (by omega) (by omega) (shapeV 10)
  rw [show shapeV 10 = .agg #[.int .i64 1, .string ⟨#[65, 88, 32]⟩, .string ⟨#[]⟩, .string ⟨#[]⟩] from rfl] at hr
  have H9 := Lib.hid h9
  have HB9 := Lib.hid ((HB8.out).grown hg (HB8.out).size (fun k e => by cases e; exact Nat.le_refl _))
  clear h9 hg
  rw [hr]
  clear hr
  go_wp2_with fail
  obtain ⟨w10, hr, h10, hg⟩ := (H9.out).store Tryd.underlying3 Tryd.underlying65 (by unfold maxLen; omega) (i := 11) (by omega) (by omega) (shapeV 11)
  rw [show shapeV 11 = .agg #[.int .i64 1, .string ⟨#[69, 70, 32]⟩, .string ⟨#[]⟩, .string ⟨#[]⟩] from rfl] at hr
  have H10 := Lib.hid h10
  have HB10 := Lib.hid ((HB9.out).grown hg (HB9.out).size (fun k e => by cases e; exact Nat.le_refl _))
  clear h10 hg
  rw [hr]
  clear hr
  go_wp2_with fail
  obtain ⟨w11, hr, h11, hg⟩ := (H10.out).store Tryd.underlying3 Tryd.underlying65 (by unfold maxLen; omega) (i := 12) (by omega) (by omega) (shapeV 12)
  rw [show shapeV 12 = .agg #[.int .i64 1, .string ⟨#[65, 70, 32]⟩, .string ⟨#[]⟩, .string ⟨#[]⟩] from rfl] at hr
  have H11 := Lib.hid h11
  have HB11 := Lib.hid ((HB10.out).grown hg (HB10.out).size (fun k e => by cases e; exact Nat.le_refl _))
  clear h11 hg
  rw [hr]
  clear hr
  go_wp2_with fail
  obtain ⟨w12, hr, h12, hg⟩ := (H11.out).store Tryd.underlying3 Tryd.underlying65 (by unfold maxLen; omega) (i := 13) (by omega) (by omega) (shapeV 13)
  rw [show shapeV 13 = .agg #[.int .i64 1, .string ⟨#[69, 71, 32]⟩, .string ⟨#[]⟩, .string ⟨#[]⟩] from rfl] at hr
  have H12 := Lib.hid h12
  have HB12 := Lib.hid ((HB11.out).grown hg (HB11.out).size (fun k e => by cases e; exact Nat.le_refl _))
  clear h12 hg
  rw [hr]
  clear hr
  go_wp2_with fail
  obtain ⟨w13, hr, h13, hg⟩ := (H12.out).store Tryd.underlying3 Tryd.underlying65 (by unfold maxLen; omega) (i := 14) (by omega) (by omega) (shapeV 14)
  rw [show shapeV 14 = .agg #[.int .i64 1, .string ⟨#[65, 71, 32]⟩, .string ⟨#[]⟩, .string ⟨#[]⟩] from rfl] at hr
  have H13 := Lib.hid h13
  have HB13 := Lib.hid ((HB12.out).grown hg (HB12.out).size (fun k e => by cases e; exact Nat.le_refl _))
  clear h13 hg
  rw [hr]
  clear hr
  go_wp2_with fail
  obtain ⟨w14, hr, h14, hg⟩ := (H13.out).store Tryd.underlying3 Tryd.underlying65 (by unfold maxLen; omega) (i := 15) (by omega) (by omega) (shapeV 15)
  rw [show shapeV 15 = .agg #[.int .i64 2, .string ⟨#[69, 32, 91]⟩, .string ⟨#[32, 85, 32]⟩, .string ⟨#[93]⟩] from rfl] at hr
  have H14 := Lib.hid h14
  have HB14 := Lib.hid ((HB13.out).grown hg (HB13.out).size (fun k e => by cases e; exact Nat.le_refl _))
  clear h14 hg
  rw [hr]
  clear hr
  go_wp2_with fail
  obtain ⟨w15, hr, h15, hg⟩ := (H14.out).store Tryd.underlying3 Tryd.underlying65 (by unfold maxLen; omega) (i := 16) (by omega) (by omega) (shapeV 16)
  rw [show shapeV 16 = .agg #[.int .i64 2, .string ⟨#[65, 32, 91]⟩, .string ⟨#[32, 85, 32]⟩, .string ⟨#[93]⟩] from rfl] at hr
  have H15 := Lib.hid h15
  have HB15 := Lib.hid ((HB14.out).grown hg (HB14.out).size (fun k e => by cases e; exact Nat.le_refl _))
  clear h15 hg
  rw [hr]
  clear hr
  go_wp2_with fail
  obtain ⟨w16, hr, h16, hg⟩ := (H15.out).store Tryd.underlying3 Tryd.underlying65 (by unfold maxLen; omega) (i := 17) (by omega) (by omega) (shapeV 17)
  rw [show shapeV 17 = .agg #[.int .i64 2, .string ⟨#[69, 32, 91]⟩, .string ⟨#[32, 82, 32]⟩, .string ⟨#[93]⟩] from rfl] at hr
  have H16 := Lib.hid h16
  have HB16 := Lib.hid ((HB15.out).grown hg (HB15.out).size (fun k e => by cases e; exact Nat.le_refl _))
  clear h16 hg
  rw [hr]
  clear hr
  go_wp2_with fail
  obtain ⟨w17, hr, h17, hg⟩ := (H16.out).store Tryd.underlying3 Tryd.underlying65 (by unfold maxLen; omega) (i := 18) (by omega) (by omega) (shapeV 18)
  rw [show shapeV 18 = .agg #[.int .i64 2, .string ⟨#[65, 32, 91]⟩, .string ⟨#[32, 82, 32]⟩, .string ⟨#[93]⟩] from rfl] at hr
  have H17 := Lib.hid h17
  have HB17 := Lib.hid ((HB16.out).grown hg (HB16.out).size (fun k e => by cases e; exact Nat.le_refl _))
  clear h17 hg
  rw [hr]
  clear hr
  go_wp2_with fail
  go_ret
  refine ⟨rfl, H17.out.congr fun i => ?_, HB17.out⟩
  simp only [putI]
  unfold shapeF
  by_cases h : (1 ≤ i ∧ i ≤ 18) ∧ i ≠ 3
  · rw [if_pos h]
    obtain ⟨⟨h1, h2⟩, h3⟩ := h
    have hi : i = 1 ∨ i = 2 ∨ i = 4 ∨ i = 5 ∨ i = 6 ∨ i = 7 ∨ i = 8 ∨ i = 9 ∨ i = 10 ∨ i = 11 ∨ i = 12 ∨ i = 13 ∨ i = 14 ∨ i = 15 ∨ i = 16 ∨ i = 17 ∨ i = 18 := by omega
    rcases hi with rfl | rfl | rfl | rfl | rfl | rfl | rfl | rfl | rfl | rfl | rfl | rfl | rfl | rfl | rfl | rfl | rfl <;> rfl
  · rw [if_neg h]
    repeat (rw [if_neg (by omega)])
end Go.Proofs.YtijecfmblddanaaDoor

set_option linter.unusedVariables false
set_option linter.unusedSimpArgs false
namespace Go.Proofs.YtijecfmblddanaaDoor
open Go.RowKit Go.Maps

theorem below_grown {w w' : World} (h : Below w.heap.size w w') (row : Option Nat) : w.grownBy w' row := ⟨h.os, h.tape, h.output, h.size, fun i hi _ => h.block i hi⟩

/-- What right leaves. -/
structure RightP (f : Fm) (d m0 : Int) (xb mb : Nat) (w w' : World) (m1 : Int) : Prop where
  lo : m0 ≤ m1
  hi : m1 ≤ 2001
  eq : (f.wf d && decide (m0 + f.sz ≤ 2000)) = true → m1 = m0 + f.sz
  blk : Blk w' xb 70 #[.map (some mb), .int .i64 m1]
  grown : w.grownBy w' (some xb)
def RightPost (f : Fm) (d m0 : Int) (xb mb : Nat) (w : World) (e : Ending) (w' : World) : Prop := ∃ m1, e = .returned (.bool (f.wf d && decide (m0 + f.sz ≤ 2000))) ∧ RightP f d m0 xb mb w w' m1

theorem zeroShape (w : World) : (zeroValue 93).run Tryd.prog w = .ok (.agg #[.int .i64 0, .string ⟨#[]⟩, .string ⟨#[]⟩, .string ⟨#[]⟩]) w := by kernel_rfl

theorem wf_false1 {f : Fm} {d : Int} (h : d < 1 ∨ f.lit ≠ 0) : f.wf d = false := by
  rw [f.wf_eq]
  rcases h with h | h
  · rw [decide_eq_false (by omega)]
    rfl
  · rw [decide_eq_false h, Bool.and_false]
    rfl

set_option maxRecDepth 100000 in
set_option maxHeartbeats 4000000 in
theorem right_any : ∀ (n : Nat) (f : Fm), f.sz < n → ∀ (w : World) (xb mb B : Nat) (m0 d : Int) (A : Option Addr) (c : Nat), Blk w xb 70 #[.map (some mb), .int .i64 m0] → IMap Tryd.prog 3 w mb 17 shapeF → mb ≠ xb → FmV w B f A c → B ≤ xb → 0 ≤ m0 → m0 ≤ 2000 → -1000 ≤ d → d ≤ 60 →
    Calls Tryd.prog 46 #[.pointer (some ⟨xb, 0, none⟩), fmA f A c, .int .i64 d] w (RightPost f d m0 xb mb w)
  | 0, f, h => by omega
  | n + 1, f, hn => by
    intro w xb mb B m0 d A c hx hm hmx hf hB h0 h1 hd0 hd1
    have HIH := Lib.hid (right_any n)
    have hlt := hx.lt
    have hk1 := hf.kind.1
    have hk2 := hf.kind.2
    have hss : (w.setCell ⟨xb, 1, none⟩ (.int .i64 (m0 + 1))).heap.size = w.heap.size := by simp [World.setCell]
    have HX := Lib.hid ((hx.set_ 1 (.int .i64 (m0 + 1))).alloc (.cells #[.int .i64 f.kind, .string ⟨f.name.toArray⟩, .int .i64 f.lit, .slice A f.kids.length c] 37))
    have hT := Blk.new (w.setCell ⟨xb, 1, none⟩ (.int .i64 (m0 + 1))) 37 #[.int .i64 f.kind, .string ⟨f.name.toArray⟩, .int .i64 f.lit, .slice A f.kids.length c]
    rw [hss] at hT
    have HT := Lib.hid hT
    have HG := Lib.hid (grown_trans (grown_set (World.grownBy.refl w (some xb)) 1 (.int .i64 (m0 + 1))) (below_grown (stepA (w.setCell ⟨xb, 1, none⟩ (.int .i64 (m0 + 1))) (.cells #[.int .i64 f.kind, .string ⟨f.name.toArray⟩, .int .i64 f.lit, .slice A f.kids.length c] 37)) (some xb)))
    have HM := Lib.hid ((hm.far (p := ⟨xb, 1, none⟩) (by simpa using hmx) (.int .i64 (m0 + 1))).alloc (.cells #[.int .i64 f.kind, .string ⟨f.name.toArray⟩, .int .i64 f.lit, .slice A f.kids.length c] 37))
    clear hT hss
    have x0 : w.cell? ⟨xb, 0, none⟩ = some (.map (some mb)) := hx.cell 0
    have x1 : w.cell? ⟨xb, 1, none⟩ = some (.int .i64 m0) := hx.cell 1
    have xf : w.frozen? ⟨xb, 1, none⟩ = false := hx.frozen 1
    have HF := Lib.hid hf
    have HMW := Lib.hid hm
    have HWF := Lib.hid (f.wf_eq d)
    have HSZ := Lib.hid f.sz_eq
    clear hx hm hf
    unfold fmA
    have hszp := f.sz_pos
    by_cases hA : 2000 < m0 + 1
    · have HE : Hid ((f.wf d && decide (m0 + (f.sz : Int) ≤ 2000)) = false) := Lib.hid (by rw [decide_eq_false (by omega), Bool.and_false])
      go_enter Tryd.func46, Tryd.ntmps46
      go_wp2_with fail
      go_ret
      refine ⟨m0 + 1, by rw [HE.out]; rfl, by omega, by omega, (fun h => by rw [HE.out] at h; cases h), HX.out, HG.out⟩
    · have hA' : ¬ (2000 < m0 + 1) := hA
      by_cases hD : d < 1
      · have HE : Hid ((f.wf d && decide (m0 + (f.sz : Int) ≤ 2000)) = false) := Lib.hid (by rw [wf_false1 (.inl hD), Bool.false_and])
        go_enter Tryd.func46, Tryd.ntmps46
        go_wp2_with fail
        go_ret
        refine ⟨m0 + 1, by rw [HE.out]; rfl, by omega, by omega, (fun h => by rw [HE.out] at h; cases h), HX.out, HG.out⟩
      · by_cases hL : f.lit = 0
        · have hL' : (f.lit != 0) = false := by simp [hL]
          by_cases hK : f.kind = 3
          · have hK' : (f.kind == 3) = true := by simp [hK]
            have HWD := Lib.hid (fun w => word_any ⟨f.name.toArray⟩ (by show f.name.toArray.size ≤ _; rw [List.size_toArray]; have := HF.out.name; omega) w)
            have HE0 : Hid (f.wf d = (wordB f.name && decide (f.kids.length = 0))) := Lib.hid (by
              rw [HWF.out, decide_eq_true hL, decide_eq_true (show 1 ≤ d by omega), if_pos hK, hK, show nk 3 = 0 from rfl]
              cases hkk : f.kids with
              | nil => simp [wfL]
              | cons a l => simp; omega)
            clear hL hK
            have HW1 := HX
            go_enter Tryd.func46, Tryd.ntmps46
            go_wp2_with fail
            refine (HWD.out _).mono ?_
            rintro e w' ⟨rfl, hw'⟩
            have hw2 := hw'.symm
            subst hw2
            have hcap := HF.out.cap
            cases hwb : wordB f.name with
            | false =>
              have HE : Hid ((f.wf d && decide (m0 + (f.sz : Int) ≤ 2000)) = false) := Lib.hid (by rw [HE0.out, hwb]; rfl)
              clear hwb
              go_wp2_with fail
              go_ret
              refine ⟨m0 + 1, by rw [HE.out]; rfl, by omega, by omega, (fun h => by rw [HE.out] at h; cases h), HX.out, HG.out⟩
            | true =>
              by_cases hkl : f.kids.length = 0
              · have hsz1 : f.sz = 1 := by
                  rw [HSZ.out, List.eq_nil_of_length_eq_zero hkl]
                  rfl
                have HE : Hid ((f.wf d && decide (m0 + (f.sz : Int) ≤ 2000)) = true) := Lib.hid (by
                  rw [HE0.out, hwb, decide_eq_true hkl, hsz1, decide_eq_true (by omega)]
                  rfl)
                have hkl' : ((f.kids.length : Int) == 0) = true := by rw [beq_iff_eq]; omega
                have HS1 := Lib.hid hsz1
                clear hwb hkl hsz1
                go_wp2_with fail
                go_ret
                refine ⟨m0 + 1, by rw [HE.out]; rfl, by omega, by omega, (fun h => by rw [HS1.out]; rfl), HX.out, HG.out⟩
              · have HE : Hid ((f.wf d && decide (m0 + (f.sz : Int) ≤ 2000)) = false) := Lib.hid (by
                  rw [HE0.out, decide_eq_false hkl, Bool.and_false]
                  rfl)
                have hkl' : ((f.kids.length : Int) == 0) = false := by rw [beq_eq_false_iff_ne]; omega
                clear hwb hkl
                go_wp2_with fail
                go_ret
                refine ⟨m0 + 1, by rw [HE.out]; rfl, by omega, by omega, (fun h => by rw [HE.out] at h; cases h), HX.out, HG.out⟩
          · have hK' : (f.kind == 3) = false := by simpa using hK
            have HLK := Lib.hid (fun W (h : IMap Tryd.prog 3 W mb 17 shapeF) => h.look_ok Tryd.underlying3 Tryd.underlying65 (zeroShape W) hk1 hk2)
            have hMd := HM.out.drew
            have c0 := HX.out.cell 0
            have e0 := HT.out.cell 0
            have e1 := HT.out.cell 1
            have e3 := HT.out.cell 3
            by_cases hin : 1 ≤ f.kind ∧ f.kind ≤ 18
            · have hsh : shapeF f.kind = some (shapeV f.kind) := by unfold shapeF; rw [if_pos ⟨hin, hK⟩]
              rw [hsh] at HLK
              have hlk := HLK.out _ hMd
              have HE0 : Hid (f.wf d = (decide (nk f.kind = (f.kids.length : Int)) && decide (f.name = []) && wfL f.kids (d - 1))) := Lib.hid (by
                rw [HWF.out, decide_eq_true hL, decide_eq_true (show 1 ≤ d by omega), if_neg hK]
                simp)
              clear hL hK hsh hMd
              unfold shapeV at hlk HLK
              simp only [Option.getD_some, Option.isSome_some] at hlk HLK
              go_enter Tryd.func46, Tryd.ntmps46
              go_wp2_with fail
              refine wp_region_noPanic ?_
              refine wp_region_seq (fun W => (W.cell? ⟨xb, 0, none⟩ = some (.map (some mb)) ∧ W.cell? ⟨w.heap.size, 0, none⟩ = some (.int .i64 f.kind)) ∧ (Instr.lookup 65 (.map (some mb)) (.int .i64 f.kind) true).run Tryd.prog W = .ok (.tuple #[.agg #[.int .i64 (nk f.kind), .string ⟨(shp f.kind).1.toArray⟩, .string ⟨(shp f.kind).2.1.toArray⟩, .string ⟨(shp f.kind).2.2.toArray⟩], .bool true]) W) [0, 4, 5, 1, 2, 3, 6, 7, 8, 9, 10, 11, 12] [0, 4, 5, 1, 2, 3, 6, 7, 8, 9, 12] [] (by kernel_rfl) (by kernel_rfl) rfl (by kernel_rfl) (by kernel_rfl) (fun _ _ _ _ _ h => h) ?_ (fun hSS => ?_)
              · exact ⟨⟨c0, e0⟩, hlk⟩
              (refine wpSeq_mov rfl rfl ?_; intro o ho; simp only [List.getElem?_toArray, List.getElem?_cons_zero, List.getElem?_cons_succ, Option.some.injEq] at ho; subst ho; refine ⟨?_, Or.inl ⟨by rfl, fun W hSW => ?_⟩, ?_⟩; rotate_left; (focus (go_simp; first | done | with_reducible rfl)); try simp only [Act.put, List.setIfInBounds_toArray, List.set_cons_zero, List.set_cons_succ])
              (refine wpSeq_mov rfl rfl ?_; intro o ho; simp only [List.getElem?_toArray, List.getElem?_cons_zero, List.getElem?_cons_succ, Option.some.injEq] at ho; subst ho; refine ⟨?_, Or.inl ⟨by rfl, fun W hSW => ?_⟩, ?_⟩; rotate_left; (focus (go_simp; first | done | with_reducible rfl)); try simp only [Act.put, List.setIfInBounds_toArray, List.set_cons_zero, List.set_cons_succ])
              (refine wpSeq_mov rfl rfl ?_; intro o ho; simp only [List.getElem?_toArray, List.getElem?_cons_zero, List.getElem?_cons_succ, Option.some.injEq] at ho; subst ho; refine ⟨?_, Or.inl ⟨by rfl, fun W hSW => ?_⟩, ?_⟩; rotate_left; (focus (go_simp; first | done | with_reducible rfl)); try simp only [Act.put, List.setIfInBounds_toArray, List.set_cons_zero, List.set_cons_succ])
              (refine wpSeq_mov rfl rfl ?_; intro o ho; simp only [List.getElem?_toArray, List.getElem?_cons_zero, List.getElem?_cons_succ, Option.some.injEq] at ho; subst ho; refine ⟨?_, Or.inl ⟨by rfl, fun W hSW => ?_⟩, ?_⟩; rotate_left; (focus (go_simp; first | done | with_reducible rfl)); try simp only [Act.put, List.setIfInBounds_toArray, List.set_cons_zero, List.set_cons_succ])
              (refine wpSeq_mov rfl rfl ?_; intro o ho; simp only [List.getElem?_toArray, List.getElem?_cons_zero, List.getElem?_cons_succ, Option.some.injEq] at ho; subst ho; refine ⟨?_, Or.inl ⟨by rfl, fun W hSW => ?_⟩, ?_⟩; rotate_left; (focus (go_simp; first | done | with_reducible rfl)); try simp only [Act.put, List.setIfInBounds_toArray, List.set_cons_zero, List.set_cons_succ])
              (refine wpSeq_mov rfl rfl ?_; intro o ho; simp only [List.getElem?_toArray, List.getElem?_cons_zero, List.getElem?_cons_succ, Option.some.injEq] at ho; subst ho; refine ⟨?_, Or.inl ⟨by rfl, fun W hSW => ?_⟩, ?_⟩; rotate_left; (focus (go_simp; first | done | with_reducible rfl)); try simp only [Act.put, List.setIfInBounds_toArray, List.set_cons_zero, List.set_cons_succ])
              (refine wpSeq_mov rfl rfl ?_; intro o ho; simp only [List.getElem?_toArray, List.getElem?_cons_zero, List.getElem?_cons_succ, Option.some.injEq] at ho; subst ho; refine ⟨?_, Or.inl ⟨by rfl, fun W hSW => ?_⟩, ?_⟩; rotate_left; (focus (go_simp; first | done | with_reducible rfl)); try simp only [Act.put, List.setIfInBounds_toArray, List.set_cons_zero, List.set_cons_succ])
              (refine wpSeq_mov rfl rfl ?_; intro o ho; simp only [List.getElem?_toArray, List.getElem?_cons_zero, List.getElem?_cons_succ, Option.some.injEq] at ho; subst ho; refine ⟨?_, Or.inl ⟨by rfl, fun W hSW => ?_⟩, ?_⟩; rotate_left; (focus (go_simp; first | done | with_reducible rfl)); try simp only [Act.put, List.setIfInBounds_toArray, List.set_cons_zero, List.set_cons_succ])
              (refine wpSeq_mov rfl rfl ?_; intro o ho; simp only [List.getElem?_toArray, List.getElem?_cons_zero, List.getElem?_cons_succ, Option.some.injEq] at ho; subst ho; refine ⟨?_, Or.inl ⟨by rfl, fun W hSW => ?_⟩, ?_⟩; rotate_left; (focus (go_simp; first | done | with_reducible rfl)); try simp only [Act.put, List.setIfInBounds_toArray, List.set_cons_zero, List.set_cons_succ])
              (refine wpSeq_mov rfl rfl ?_; intro o ho; simp only [List.getElem?_toArray, List.getElem?_cons_zero, List.getElem?_cons_succ, Option.some.injEq] at ho; subst ho; refine ⟨?_, Or.inl ⟨by rfl, fun W hSW => ?_⟩, ?_⟩; rotate_left; (focus (go_simp; first | done | with_reducible rfl)); try simp only [Act.put, List.setIfInBounds_toArray, List.set_cons_zero, List.set_cons_succ])
              (refine wpSeq_fix rfl rfl ?_; intro o ho; simp only [List.getElem?_toArray, List.getElem?_cons_zero, List.getElem?_cons_succ, Option.some.injEq] at ho; subst ho; intro K hK)
              go_simp
              (refine hK.out _ _ (fun _ => ⟨⟨(HX.out.alloc _).cell 0, (HT.out.alloc _).cell 0⟩, HLK.out _ (HM.out.alloc _).drew⟩) ?_; clear hK K; try simp only [Act.put, List.setIfInBounds_toArray, List.set_cons_zero, List.set_cons_succ])
              (refine wpSeq_fix rfl rfl ?_; intro o ho; simp only [List.getElem?_toArray, List.getElem?_cons_zero, List.getElem?_cons_succ, Option.some.injEq] at ho; subst ho; intro K hK)
              go_simp
              (refine hK.out _ _ (fun _ => ⟨⟨(HX.out.alloc _).cell 0, (HT.out.alloc _).cell 0⟩, HLK.out _ (HM.out.alloc _).drew⟩) ?_; clear hK K; try simp only [Act.put, List.setIfInBounds_toArray, List.set_cons_zero, List.set_cons_succ])
              (refine wpSeq_mov rfl rfl ?_; intro o ho; simp only [List.getElem?_toArray, List.getElem?_cons_zero, List.getElem?_cons_succ, Option.some.injEq] at ho; subst ho; refine ⟨?_, Or.inl ⟨by rfl, fun W hSW => ?_⟩, ?_⟩; rotate_left; (focus (go_simp; first | done | with_reducible rfl)); try simp only [Act.put, List.setIfInBounds_toArray, List.set_cons_zero, List.set_cons_succ])
              refine wpSeq_done ?_
              have hXV := (HX.out.alloc (.cells #[.int .i64 (nk f.kind), .string ⟨(shp f.kind).1.toArray⟩, .string ⟨(shp f.kind).2.1.toArray⟩, .string ⟨(shp f.kind).2.2.toArray⟩] 93)).drew
              have hTV := (HT.out.alloc (.cells #[.int .i64 (nk f.kind), .string ⟨(shp f.kind).1.toArray⟩, .string ⟨(shp f.kind).2.1.toArray⟩, .string ⟨(shp f.kind).2.2.toArray⟩] 93)).drew
              have hYV := (Blk.new ((w.setCell ⟨xb, 1, none⟩ (.int .i64 (m0 + 1))).alloc (.cells #[.int .i64 f.kind, .string ⟨f.name.toArray⟩, .int .i64 f.lit, .slice A f.kids.length c] 37)) 93 #[.int .i64 (nk f.kind), .string ⟨(shp f.kind).1.toArray⟩, .string ⟨(shp f.kind).2.1.toArray⟩, .string ⟨(shp f.kind).2.2.toArray⟩]).drew
              rw [show ((w.setCell ⟨xb, 1, none⟩ (.int .i64 (m0 + 1))).alloc (.cells #[.int .i64 f.kind, .string ⟨f.name.toArray⟩, .int .i64 f.lit, .slice A f.kids.length c] 37)).heap.size = w.heap.size + 1 by simp [World.setCell]] at hYV
              have hGV : w.grownBy (((w.setCell ⟨xb, 1, none⟩ (.int .i64 (m0 + 1))).alloc (.cells #[.int .i64 f.kind, .string ⟨f.name.toArray⟩, .int .i64 f.lit, .slice A f.kids.length c] 37)).alloc (.cells #[.int .i64 (nk f.kind), .string ⟨(shp f.kind).1.toArray⟩, .string ⟨(shp f.kind).2.1.toArray⟩, .string ⟨(shp f.kind).2.2.toArray⟩] 93)).drew (some xb) := grown_trans HG.out (below_grown (step2 (stepA _ _) (stepD1 _)) _)
              generalize (((w.setCell ⟨xb, 1, none⟩ (.int .i64 (m0 + 1))).alloc (.cells #[.int .i64 f.kind, .string ⟨f.name.toArray⟩, .int .i64 f.lit, .slice A f.kids.length c] 37)).alloc (.cells #[.int .i64 (nk f.kind), .string ⟨(shp f.kind).1.toArray⟩, .string ⟨(shp f.kind).2.1.toArray⟩, .string ⟨(shp f.kind).2.2.toArray⟩] 93)).drew = V at hXV hTV hYV hGV ⊢
              have g1 : V.cell? ⟨w.heap.size, 1, none⟩ = some (.string ⟨f.name.toArray⟩) := hTV.cell 1
              have g3 : V.cell? ⟨w.heap.size, 3, none⟩ = some (.slice A f.kids.length c) := hTV.cell 3
              have y0 : V.cell? ⟨w.heap.size + 1, 0, none⟩ = some (.int .i64 (nk f.kind)) := hYV.cell 0
              have HXV := Lib.hid hXV
              have HGV := Lib.hid hGV
              clear hXV hTV hYV hGV hSS
              have hkb : f.kids.length ≤ 140737488355328 := HF.out.big
              have hemp : (⟨f.name.toArray⟩ : ByteArray).toList.isEmpty = decide (f.name = []) := by
                rw [Lib.toList_data]
                show f.name.isEmpty = _
                cases f.name <;> simp
              by_cases hnm : f.name = []
              · have hemp' : (⟨f.name.toArray⟩ : ByteArray).toList.isEmpty = true := by rw [hemp, decide_eq_true hnm]
                have HNM := Lib.hid hnm
                clear hemp hnm
                by_cases hkl : nk f.kind = (f.kids.length : Int)
                · have hkl' : ((f.kids.length : Int) != nk f.kind) = false := by rw [hkl]; simp
                  have HKL := Lib.hid hkl
                  have HT0 : Hid (f.wf d = wfL f.kids (d - 1)) := Lib.hid (by rw [HE0.out, decide_eq_true HNM.out, decide_eq_true hkl]; simp)
                  clear hkl
                  go_wp2_with fail
                  go_loopw [72] (fun iv wr => ∃ (i : Nat) (m : Int), i ≤ f.kids.length ∧ iv = .int .i64 (i : Int) ∧ m = m0 + 1 + (szL (f.kids.take i) : Nat) ∧ m ≤ 2000 ∧ wfL (f.kids.take i) (d - 1) = true ∧ Blk wr xb 70 #[.map (some mb), .int .i64 m] ∧ w.grownBy wr (some xb)) (fun iv _ => f.kids.length - (intOf iv).toNat)
                  case atStart => exact ⟨0, m0 + 1, Nat.zero_le _, rfl, by simp [szL], by omega, rfl, HXV.out, HGV.out⟩
                  case round =>
                    obtain ⟨i, m, hi, rfl, hm, hm2, hwf, hxr, hgr⟩ := hrel
                    have HXR := Lib.hid hxr
                    have HGR := Lib.hid hgr
                    have HWFI := Lib.hid hwf
                    have HMI := Lib.hid hm
                    have hsr := hgr.size
                    clear hwf hxr hgr
                    by_cases hlt : i < f.kids.length
                    · have hlt' : (i : Int) < (f.kids.length : Int) := by omega
                      obtain ⟨k, hk⟩ : ∃ k, f.kids[i]? = some k := ⟨_, List.getElem?_eq_getElem hlt⟩
                      have hksz : k.sz < n := by
                        have := Fm.kid_sz (List.mem_of_getElem? hk)
                        omega
                      obtain ⟨b, o, A', c', rfl, hb, ⟨q0, q1, q2, q3⟩, hv⟩ := (HF.out.kids.grown (by omega) HGR.out (fun r e => by cases e; exact hB)).v hk
                      have hst := stepA wr (.cells #[.int .i64 k.kind, .string ⟨k.name.toArray⟩, .int .i64 k.lit, .slice A' k.kids.length c'] 37)
                      have hcall := HIH.out k hksz (wr.alloc (.cells #[.int .i64 k.kind, .string ⟨k.name.toArray⟩, .int .i64 k.lit, .slice A' k.kids.length c'] 37)) xb mb B m (d - 1) A' c' (HXR.out.alloc _) ((HMW.out.same (HGR.out.block mb HMW.out.lt (fun e => hmx (by cases e; rfl)))).alloc _) hmx (hv.low (hst.mono (by omega))) hB (by omega) hm2 (by omega) (by omega)
                      have HC := Lib.hid hcall
                      have HST := Lib.hid hst
                      have HK := Lib.hid hk
                      clear hcall hst hk hv hm
                      unfold fmA at HC
                      go_wp2_with fail
                      refine HC.out.mono ?_
                      rintro e w3 ⟨m1, rfl, hP⟩
                      have HP := Lib.hid hP
                      clear hP
                      have HG3 := Lib.hid (grown_trans HGR.out (grown_trans (below_grown HST.out (some xb)) HP.out.grown))
                      have hszi : szL (f.kids.take (i + 1)) = szL (f.kids.take i) + k.sz := by rw [List.take_add_one, HK.out]; exact szL_snoc _ _
                      have hszle := szL_take_le f.kids (i + 1)
                      have hsf := HSZ.out
                      have hwi : wfL (f.kids.take (i + 1)) (d - 1) = (wfL (f.kids.take i) (d - 1) && k.wf (d - 1)) := by rw [List.take_add_one, HK.out]; exact wfL_snoc _ _ _
                      cases hres : (k.wf (d - 1) && decide (m + (k.sz : Int) ≤ 2000)) with
                      | true =>
                        have hm1 := HP.out.eq hres
                        have hres2 := hres
                        simp only [Bool.and_eq_true, decide_eq_true_eq] at hres2
                        have HR2 := Lib.hid hres2
                        have HM1 := Lib.hid hm1
                        have HWI := Lib.hid hwi
                        have HSZI := Lib.hid hszi
                        clear hres hres2 hm1 hwi hszi hsf
                        go_wp2_with fail
                        go_roundw
                        case rel =>
                          refine ⟨i + 1, m1, by omega, by go_num, ?_, ?_, ?_, HP.out.blk, HG3.out⟩
                          · rw [HM1.out, HMI.out, HSZI.out]
                            omega
                          · rw [HM1.out]
                            exact HR2.out.2
                          · rw [HWI.out, HWFI.out, HR2.out.1]
                            rfl
                        case measure => simp [intOf]; omega
                      | false =>
                        have HE : Hid ((f.wf d && decide (m0 + (f.sz : Int) ≤ 2000)) = false) := Lib.hid (by
                          rw [HT0.out]
                          cases hkw : k.wf (d - 1) with
                          | true =>
                            rw [hkw, Bool.true_and, decide_eq_false_iff_not] at hres
                            have hmm := HMI.out
                            rw [decide_eq_false (by omega), Bool.and_false]
                          | false =>
                            have : wfL f.kids (d - 1) = false := by
                              rw [wfL_all, Bool.eq_false_iff]
                              intro h2
                              rw [List.all_eq_true] at h2
                              have := h2 k (List.mem_of_getElem? HK.out)
                              rw [hkw] at this
                              cases this
                            rw [this, Bool.false_and])
                        have hm0 : m0 ≤ m1 := by
                          have := HP.out.lo
                          have := HMI.out
                          omega
                        clear hres hwi hszi hsf
                        go_wp2_with fail
                        go_ret
                        refine ⟨m1, by rw [HE.out]; rfl, hm0, HP.out.hi, (fun h => by rw [HE.out] at h; cases h), HP.out.blk, HG3.out⟩
                    · obtain rfl : i = f.kids.length := by omega
                      have hsf := HSZ.out
                      have hmm := HMI.out
                      rw [List.take_length] at hmm
                      have hw3 := HWFI.out
                      rw [List.take_length] at hw3
                      have hme : m = m0 + (f.sz : Int) := by omega
                      have HE : Hid ((f.wf d && decide (m0 + (f.sz : Int) ≤ 2000)) = true) := Lib.hid (by rw [HT0.out, hw3, decide_eq_true (by omega)]; rfl)
                      have HME := Lib.hid hme
                      clear hsf hmm hw3 hme hm
                      go_wp2_with fail
                      go_ret
                      refine ⟨m, by rw [HE.out]; rfl, by have := HMI.out; omega, by omega, (fun _ => HME.out), HXR.out, HGR.out⟩
                · have hkl' : ((f.kids.length : Int) != nk f.kind) = true := by rw [bne_iff_ne]; exact fun e => hkl e.symm
                  have HE : Hid ((f.wf d && decide (m0 + (f.sz : Int) ≤ 2000)) = false) := Lib.hid (by rw [HE0.out, decide_eq_false hkl]; rfl)
                  clear hkl
                  go_wp2_with fail
                  go_ret
                  refine ⟨m0 + 1, by rw [HE.out]; rfl, by omega, by omega, (fun h => by rw [HE.out] at h; cases h), HXV.out, HGV.out⟩
              · have hnm' : ¬ f.name = [] := hnm
                have HE : Hid ((f.wf d && decide (m0 + (f.sz : Int) ≤ 2000)) = false) := Lib.hid (by rw [HE0.out, decide_eq_false hnm, Bool.and_false]; rfl)
                clear hemp
                go_wp2_with fail
                go_ret
                refine ⟨m0 + 1, by rw [HE.out]; rfl, by omega, by omega, (fun h => by rw [HE.out] at h; cases h), HXV.out, HGV.out⟩
            · have hsh : shapeF f.kind = none := by unfold shapeF; rw [if_neg (fun h => hin h.1)]
              rw [hsh] at HLK
              have hlk := HLK.out _ hMd
              have HE : Hid ((f.wf d && decide (m0 + (f.sz : Int) ≤ 2000)) = false) := Lib.hid (by
                rw [HWF.out, show nk f.kind = -1 by unfold nk; rw [if_pos (by omega)], decide_eq_false (show ¬ (-1 : Int) = (f.kids.length : Int) by omega)]
                simp)
              clear hL hK hsh hMd
              simp only [Option.getD_none, Option.isSome_none] at hlk HLK
              go_enter Tryd.func46, Tryd.ntmps46
              go_wp2_with fail
              refine wp_region_noPanic ?_
              refine wp_region_seq (fun W => (W.cell? ⟨xb, 0, none⟩ = some (.map (some mb)) ∧ W.cell? ⟨w.heap.size, 0, none⟩ = some (.int .i64 f.kind)) ∧ (Instr.lookup 65 (.map (some mb)) (.int .i64 f.kind) true).run Tryd.prog W = .ok (.tuple #[.agg #[.int .i64 0, .string ⟨#[]⟩, .string ⟨#[]⟩, .string ⟨#[]⟩], .bool false]) W) [0, 4, 5, 1, 2, 3, 6, 7, 8, 9, 10, 11, 12] [0, 4, 5, 1, 2, 3, 6, 7, 8, 9, 12] [] (by kernel_rfl) (by kernel_rfl) rfl (by kernel_rfl) (by kernel_rfl) (fun _ _ _ _ _ h => h) ?_ (fun hSS => ?_)
              · exact ⟨⟨c0, e0⟩, hlk⟩
              (refine wpSeq_mov rfl rfl ?_; intro o ho; simp only [List.getElem?_toArray, List.getElem?_cons_zero, List.getElem?_cons_succ, Option.some.injEq] at ho; subst ho; refine ⟨?_, Or.inl ⟨by rfl, fun W hSW => ?_⟩, ?_⟩; rotate_left; (focus (go_simp; first | done | with_reducible rfl)); try simp only [Act.put, List.setIfInBounds_toArray, List.set_cons_zero, List.set_cons_succ])
              (refine wpSeq_mov rfl rfl ?_; intro o ho; simp only [List.getElem?_toArray, List.getElem?_cons_zero, List.getElem?_cons_succ, Option.some.injEq] at ho; subst ho; refine ⟨?_, Or.inl ⟨by rfl, fun W hSW => ?_⟩, ?_⟩; rotate_left; (focus (go_simp; first | done | with_reducible rfl)); try simp only [Act.put, List.setIfInBounds_toArray, List.set_cons_zero, List.set_cons_succ])
              (refine wpSeq_mov rfl rfl ?_; intro o ho; simp only [List.getElem?_toArray, List.getElem?_cons_zero, List.getElem?_cons_succ, Option.some.injEq] at ho; subst ho; refine ⟨?_, Or.inl ⟨by rfl, fun W hSW => ?_⟩, ?_⟩; rotate_left; (focus (go_simp; first | done | with_reducible rfl)); try simp only [Act.put, List.setIfInBounds_toArray, List.set_cons_zero, List.set_cons_succ])
              (refine wpSeq_mov rfl rfl ?_; intro o ho; simp only [List.getElem?_toArray, List.getElem?_cons_zero, List.getElem?_cons_succ, Option.some.injEq] at ho; subst ho; refine ⟨?_, Or.inl ⟨by rfl, fun W hSW => ?_⟩, ?_⟩; rotate_left; (focus (go_simp; first | done | with_reducible rfl)); try simp only [Act.put, List.setIfInBounds_toArray, List.set_cons_zero, List.set_cons_succ])
              (refine wpSeq_mov rfl rfl ?_; intro o ho; simp only [List.getElem?_toArray, List.getElem?_cons_zero, List.getElem?_cons_succ, Option.some.injEq] at ho; subst ho; refine ⟨?_, Or.inl ⟨by rfl, fun W hSW => ?_⟩, ?_⟩; rotate_left; (focus (go_simp; first | done | with_reducible rfl)); try simp only [Act.put, List.setIfInBounds_toArray, List.set_cons_zero, List.set_cons_succ])
              (refine wpSeq_mov rfl rfl ?_; intro o ho; simp only [List.getElem?_toArray, List.getElem?_cons_zero, List.getElem?_cons_succ, Option.some.injEq] at ho; subst ho; refine ⟨?_, Or.inl ⟨by rfl, fun W hSW => ?_⟩, ?_⟩; rotate_left; (focus (go_simp; first | done | with_reducible rfl)); try simp only [Act.put, List.setIfInBounds_toArray, List.set_cons_zero, List.set_cons_succ])
              (refine wpSeq_mov rfl rfl ?_; intro o ho; simp only [List.getElem?_toArray, List.getElem?_cons_zero, List.getElem?_cons_succ, Option.some.injEq] at ho; subst ho; refine ⟨?_, Or.inl ⟨by rfl, fun W hSW => ?_⟩, ?_⟩; rotate_left; (focus (go_simp; first | done | with_reducible rfl)); try simp only [Act.put, List.setIfInBounds_toArray, List.set_cons_zero, List.set_cons_succ])
              (refine wpSeq_mov rfl rfl ?_; intro o ho; simp only [List.getElem?_toArray, List.getElem?_cons_zero, List.getElem?_cons_succ, Option.some.injEq] at ho; subst ho; refine ⟨?_, Or.inl ⟨by rfl, fun W hSW => ?_⟩, ?_⟩; rotate_left; (focus (go_simp; first | done | with_reducible rfl)); try simp only [Act.put, List.setIfInBounds_toArray, List.set_cons_zero, List.set_cons_succ])
              (refine wpSeq_mov rfl rfl ?_; intro o ho; simp only [List.getElem?_toArray, List.getElem?_cons_zero, List.getElem?_cons_succ, Option.some.injEq] at ho; subst ho; refine ⟨?_, Or.inl ⟨by rfl, fun W hSW => ?_⟩, ?_⟩; rotate_left; (focus (go_simp; first | done | with_reducible rfl)); try simp only [Act.put, List.setIfInBounds_toArray, List.set_cons_zero, List.set_cons_succ])
              (refine wpSeq_mov rfl rfl ?_; intro o ho; simp only [List.getElem?_toArray, List.getElem?_cons_zero, List.getElem?_cons_succ, Option.some.injEq] at ho; subst ho; refine ⟨?_, Or.inl ⟨by rfl, fun W hSW => ?_⟩, ?_⟩; rotate_left; (focus (go_simp; first | done | with_reducible rfl)); try simp only [Act.put, List.setIfInBounds_toArray, List.set_cons_zero, List.set_cons_succ])
              (refine wpSeq_fix rfl rfl ?_; intro o ho; simp only [List.getElem?_toArray, List.getElem?_cons_zero, List.getElem?_cons_succ, Option.some.injEq] at ho; subst ho; intro K hK)
              go_simp
              (refine hK.out _ _ (fun _ => ⟨⟨(HX.out.alloc _).cell 0, (HT.out.alloc _).cell 0⟩, HLK.out _ (HM.out.alloc _).drew⟩) ?_; clear hK K; try simp only [Act.put, List.setIfInBounds_toArray, List.set_cons_zero, List.set_cons_succ])
              (refine wpSeq_fix rfl rfl ?_; intro o ho; simp only [List.getElem?_toArray, List.getElem?_cons_zero, List.getElem?_cons_succ, Option.some.injEq] at ho; subst ho; intro K hK)
              go_simp
              (refine hK.out _ _ (fun _ => ⟨⟨(HX.out.alloc _).cell 0, (HT.out.alloc _).cell 0⟩, HLK.out _ (HM.out.alloc _).drew⟩) ?_; clear hK K; try simp only [Act.put, List.setIfInBounds_toArray, List.set_cons_zero, List.set_cons_succ])
              (refine wpSeq_mov rfl rfl ?_; intro o ho; simp only [List.getElem?_toArray, List.getElem?_cons_zero, List.getElem?_cons_succ, Option.some.injEq] at ho; subst ho; refine ⟨?_, Or.inl ⟨by rfl, fun W hSW => ?_⟩, ?_⟩; rotate_left; (focus (go_simp; first | done | with_reducible rfl)); try simp only [Act.put, List.setIfInBounds_toArray, List.set_cons_zero, List.set_cons_succ])
              refine wpSeq_done ?_
              have hXV := (HX.out.alloc (.cells #[.int .i64 0, .string ⟨#[]⟩, .string ⟨#[]⟩, .string ⟨#[]⟩] 93)).drew
              have hGV : w.grownBy (((w.setCell ⟨xb, 1, none⟩ (.int .i64 (m0 + 1))).alloc (.cells #[.int .i64 f.kind, .string ⟨f.name.toArray⟩, .int .i64 f.lit, .slice A f.kids.length c] 37)).alloc (.cells #[.int .i64 0, .string ⟨#[]⟩, .string ⟨#[]⟩, .string ⟨#[]⟩] 93)).drew (some xb) := grown_trans HG.out (below_grown (step2 (stepA _ _) (stepD1 _)) _)
              generalize (((w.setCell ⟨xb, 1, none⟩ (.int .i64 (m0 + 1))).alloc (.cells #[.int .i64 f.kind, .string ⟨f.name.toArray⟩, .int .i64 f.lit, .slice A f.kids.length c] 37)).alloc (.cells #[.int .i64 0, .string ⟨#[]⟩, .string ⟨#[]⟩, .string ⟨#[]⟩] 93)).drew = V at hXV hGV ⊢
              have HXV := Lib.hid hXV
              have HGV := Lib.hid hGV
              clear hXV hGV hSS
              go_wp2_with fail
              go_ret
              refine ⟨m0 + 1, by rw [HE.out]; rfl, by omega, by omega, (fun h => by rw [HE.out] at h; cases h), HXV.out, HGV.out⟩
        · have hL' : (f.lit != 0) = true := by simpa using hL
          have HE : Hid ((f.wf d && decide (m0 + (f.sz : Int) ≤ 2000)) = false) := Lib.hid (by rw [wf_false1 (.inr hL), Bool.false_and])
          clear hL
          go_enter Tryd.func46, Tryd.ntmps46
          go_wp2_with fail
          go_ret
          refine ⟨m0 + 1, by rw [HE.out]; rfl, by omega, by omega, (fun h => by rw [HE.out] at h; cases h), HX.out, HG.out⟩
end Go.Proofs.YtijecfmblddanaaDoor

set_option linter.unusedVariables false
set_option linter.unusedSimpArgs false
namespace Go.Proofs.YtijecfmblddanaaDoor
open Go.RowKit Go.Maps

/-- What make's caller has laid. -/
structure MkSt (w : World) (B xa xl xp xm : Nat) (A : Option Addr) (c : Nat) (l : List UInt8) : Prop where
  p : Blk w xp 59 #[.func (.func 40) #[] #[.pointer (some ⟨xa, 0, none⟩), .pointer (some ⟨xl, 0, none⟩)]]
  m : Blk w xm 60 #[.func (.func 41) #[] #[.pointer (some ⟨xp, 0, none⟩), .pointer (some ⟨xa, 0, none⟩), .pointer (some ⟨xl, 0, none⟩), .pointer (some ⟨xm, 0, none⟩)]]
  s : Blk w xl 24 #[.slice A l.length c]
  v : NumsV w B A l
  b : B ≤ xa
  la : xl ≠ xa
  pa : xp ≠ xa
  ma : xm ≠ xa

section
variable {w w' : World} {B xa xl xp xm c : Nat} {A : Option Addr} {l : List UInt8}
/-- All older blocks but one are as they were. -/
theorem MkSt.grown (h : MkSt w B xa xl xp xm A c l) (hg : w.grownBy w' (some xa)) : MkSt w' B xa xl xp xm A c l := by
  have hB : ∀ k : Nat, k < w.heap.size → k ≠ xa → w'.heap[k]? = w.heap[k]? := fun k hk hne => hg.block k hk (by simpa using hne)
  refine ⟨(hB _ h.p.lt h.pa).trans h.p, (hB _ h.m.lt h.ma).trans h.m, (hB _ h.s.lt h.la).trans h.s, fun i b hi => ?_, h.b, h.la, h.pa, h.ma⟩
  obtain ⟨q, o, h1, h2, h3⟩ := h.v i b hi
  refine ⟨q, o, h1, h2, ?_⟩
  rw [← h3]
  have hlt : q < w.heap.size := block_lt_of_cell (a := ⟨q, o + i, none⟩) h3
  have := hB q hlt (by have := h.b; omega)
  simp only [World.cell?, this]
end

/-- What make leaves. -/
structure MkP (w : World) (xa : Nat) (r : Fm × Nat) (A' : Option Addr) (c' : Nat) (w' : World) : Prop where
  v : FmVT w' w.heap.size w'.heap.size r.1 A' c'
  a : Blk w' xa 3 #[.int .i64 (r.2 : Int)]
  g : w.grownBy w' (some xa)
def MkPost (w : World) (xa : Nat) (r : Fm × Nat) (e : Ending) (w' : World) : Prop := ∃ A' c', e = .returned (fmA r.1 A' c') ∧ MkP w xa r A' c' w'

theorem zeroFm (w : World) : (zeroValue 37).run Tryd.prog w = .ok (.agg #[.int .i64 0, .string ⟨#[]⟩, .int .i64 0, .slice none 0 0]) w := by kernel_rfl

/-- What stands on the way: so many numbers are gone; older blocks but xa are as they were. -/
structure MkB (w W : World) (B xa xl xp xm : Nat) (A : Option Addr) (c : Nat) (l : List UInt8) (a : Nat) : Prop where
  st : MkSt W B xa xl xp xm A c l
  a : Blk W xa 3 #[.int .i64 (a : Int)]
  g : w.grownBy W (some xa)
section
variable {w W W' : World} {B xa xl xp xm c a a' : Nat} {A : Option Addr} {l : List UInt8}
theorem MkB.step (h : MkB w W B xa xl xp xm A c l a) (hg : W.grownBy W' (some xa)) (ha : Blk W' xa 3 #[.int .i64 (a' : Int)]) : MkB w W' B xa xl xp xm A c l a' := ⟨h.st.grown hg, ha, grown_trans h.g hg⟩
theorem MkB.after (h : MkB w W B xa xl xp xm A c l a) (hb : Below W.heap.size W W') : MkB w W' B xa xl xp xm A c l a := h.step (below_grown hb _) (h.a.below hb h.a.lt)
/-- A store into a block of the call's own. -/
theorem MkB.own (h : MkB w W B xa xl xp xm A c l a) {x j : Nat} {T : TypeId} {cs : Array Value} (_hb : Blk W x T cs) (hx : w.heap.size ≤ x) (hxa : xa < w.heap.size) (hp : xp < w.heap.size) (hm : xm < w.heap.size) (hl : xl < w.heap.size) (u : Value) (hq : ∀ q, (∃ (i : Nat) (b : UInt8), l[i]? = some b ∧ ∃ o, A = some ⟨q, o, none⟩ ∧ q < B) → q < w.heap.size) : MkB w (W.setCell ⟨x, j, none⟩ u) B xa xl xp xm A c l a := by
  refine ⟨⟨h.st.p.far (p := ⟨x, j, none⟩) (by simp; omega) u, h.st.m.far (p := ⟨x, j, none⟩) (by simp; omega) u, h.st.s.far (p := ⟨x, j, none⟩) (by simp; omega) u, fun i b hi => ?_, h.st.b, h.st.la, h.st.pa, h.st.ma⟩, h.a.far (p := ⟨x, j, none⟩) (by simp; omega) u, ?_⟩
  · obtain ⟨q, o, h1, h2, h3⟩ := h.st.v i b hi
    refine ⟨q, o, h1, h2, ?_⟩
    rw [← h3]
    have := hq q ⟨i, b, hi, o, h1, h2⟩
    have e := Below.heap_setCell W ⟨x, j, none⟩ u q (by simp; omega)
    simp only [World.cell?, e]
  · exact ⟨h.g.os, h.g.tape, h.g.output, by simpa [World.setCell] using h.g.size, fun k hk hne => (Below.heap_setCell W ⟨x, j, none⟩ u k (by simp; omega)).trans (h.g.block k hk hne)⟩
end

/-- pick, on the way. -/
theorem pick_step (l : List UInt8) {a n : Nat} {w W : World} {B xa xl xp xm c : Nat} {A : Option Addr} (hn : n = 18 ∨ n = 7) (ha : a ≤ 1000000) (hl : l.length ≤ c) (hc : c ≤ 140737488355328) (h : MkB w W B xa xl xp xm A c l a) :
    Calls Tryd.prog 40 #[.int .i64 (n : Int), .pointer (some ⟨xa, 0, none⟩), .pointer (some ⟨xl, 0, none⟩)] W fun e W' => e = .returned (.int .i64 (pickN l a n : Int)) ∧ MkB w W' B xa xl xp xm A c l (a + 1) ∧ W.grownBy W' (some xa) := by
  refine (pick_any l a n W xa xl B A c hn ha hl hc h.a h.st.s h.st.v h.st.b h.st.la).mono ?_
  rintro e W' ⟨rfl, rfl⟩
  have hg := grown_set (World.grownBy.refl W (some xa)) 0 (.int .i64 ((a : Int) + 1))
  exact ⟨rfl, h.step hg (by have := h.a.set_ 0 (.int .i64 ((a : Int) + 1)); exact this), hg⟩

/-- make, one depth: kids by g. -/
def mkStep (l : List UInt8) (D a : Nat) (g : Nat → Fm × Nat) : Fm × Nat :=
  (.mk (kindF l D a).1 (nameF l (kindF l D a).1 (kindF l D a).2).1 0 (kidsN g (nk (kindF l D a).1).toNat (nameF l (kindF l D a).1 (kindF l D a).2).2).1, (kidsN g (nk (kindF l D a).1).toNat (nameF l (kindF l D a).1 (kindF l D a).2).2).2)
theorem mkF_step (l : List UInt8) (d a : Nat) : mkF l (d + 1) a = mkStep l (d + 1) a (mkF l d) := rfl
theorem mkF_zero (l : List UInt8) (a : Nat) (g : Nat → Fm × Nat) : mkF l 0 a = mkStep l 0 a g := by
  unfold mkStep
  rw [kindF_leaf]
  rfl


/-- What stands in the loop: L's formulas are the kids so far. -/
structure MkL (w wr : World) (B xa xl xp xm : Nat) (A : Option Addr) (c : Nat) (l : List UInt8) (x8 : Nat) (K : Int) (nm : List UInt8) (L : List (Fm × Option Addr × Nat)) (A' : Option Addr) (c' : Nat) (a : Nat) (s : Nat) : Prop where
  b : MkB w wr B xa xl xp xm A c l a
  r6 : Blk wr w.heap.size 37 #[.int .i64 0, .string ⟨#[]⟩, .int .i64 0, .slice none 0 0]
  r8 : Blk wr x8 37 #[.int .i64 K, .string ⟨nm.toArray⟩, .int .i64 0, .slice A' L.length c']
  o : wr.ownsRow (x8 + 1) 37 4 (.slice A' L.length c') L.length (flatF L)
  hs : s ≤ wr.heap.size
  k : ∃ I J : Nat → Nat, ∀ (i : Nat) (x : Fm × Option Addr × Nat), L[i]? = some x → (x8 < I i ∧ J i ≤ s ∧ (∀ k, (Value.slice A' L.length c').ownBlock = some k → k < I i ∨ J i ≤ k) ∧ (∀ (j : Nat) (y : Fm × Option Addr × Nat), L[j]? = some y → i < j → J i ≤ I j)) ∧ FmVT wr (I i) (J i) x.1 x.2.1 x.2.2
section
variable {w wr w' : World} {B xa xl xp xm c x8 c' a a' s : Nat} {A A' : Option Addr} {l nm : List UInt8} {K : Int} {L : List (Fm × Option Addr × Nat)}
/-- A call that leaves all older blocks but xa. -/
theorem MkL.call (h : MkL w wr B xa xl xp xm A c l x8 K nm L A' c' a s) (hxa : xa < w.heap.size) (hx8 : w.heap.size < x8) (hg : wr.grownBy w' (some xa)) (ha : Blk w' xa 3 #[.int .i64 (a' : Int)]) : MkL w w' B xa xl xp xm A c l x8 K nm L A' c' a' s := by
  have hs := hg.size
  have hs2 := h.hs
  refine ⟨h.b.step hg ha, h.r6.grown hg (by simp; omega), h.r8.grown hg (by simp; omega), h.o.kept hg ?_, by omega, ?_⟩
  rotate_left
  · obtain ⟨I, J, hk⟩ := h.k
    refine ⟨I, J, fun i x hx => ?_⟩
    obtain ⟨⟨h1, h2, h3⟩, h4⟩ := hk i x hx
    exact ⟨⟨h1, h2, h3⟩, h4.keep fun b hb1 hb2 => hg.block b (by omega) (by simp; omega)⟩
  cases ho : (Value.slice A' L.length c').ownBlock with
  | none => exact .inl rfl
  | some k =>
    have := (h.o.lt k ho).1
    exact .inr (by simp; omega)
theorem MkL.drew (h : MkL w wr B xa xl xp xm A c l x8 K nm L A' c' a s) (hxa : xa < w.heap.size) (hx8 : w.heap.size < x8) : MkL w wr.drew B xa xl xp xm A c l x8 K nm L A' c' a s := h.call hxa hx8 (below_grown (stepD1 wr) _) (h.b.a.below (stepD1 wr) h.b.a.lt)
/-- One kid more: its cells laid in a row of one, the row appended, the slice stored. -/
theorem MkL.push {w7 w9 : World} {f : Fm} {A1 A2 : Option Addr} {c1 c2 s7 : Nat} (h : MkL w w7 B xa xl xp xm A c l x8 K nm L A' c' a s) (hxa : xa < w.heap.size) (hxp : xp < w.heap.size) (hxm : xm < w.heap.size) (hxl : xl < w.heap.size) (hx8 : w.heap.size < x8)
    (hq : ∀ q, (∃ (i : Nat) (b : UInt8), l[i]? = some b ∧ ∃ o, A = some ⟨q, o, none⟩ ∧ q < B) → q < w.heap.size)
    (hs7 : x8 < s7) (hs8 : s7 ≤ w7.heap.size) (hss : s ≤ s7) (hrow : ∀ k, (Value.slice A' L.length c').ownBlock = some k → k < s7) (hv : FmVT w7 s7 w7.heap.size f A1 c1)
    (ho9 : w9.ownsRow (x8 + 1) 37 4 (.slice A2 (L.length + 1) c2) (L.length + 1) (flatF (L ++ [(f, A1, c1)]))) (hg9 : (w7.alloc (.cells (fmC f A1 c1).toArray 37)).grownBy w9 (Value.slice A' L.length c').ownBlock)
    (hat : (Value.slice A2 (L.length + 1) c2).ownBlock = (Value.slice A' L.length c').ownBlock ∨ (Value.slice A2 (L.length + 1) c2).ownBlock = some (w7.alloc (.cells (fmC f A1 c1).toArray 37)).heap.size) :
    MkL w (w9.setCell ⟨x8, 3, none⟩ (.slice A2 (L.length + 1) c2)) B xa xl xp xm A c l x8 K nm (L ++ [(f, A1, c1)]) A2 c2 a (w9.setCell ⟨x8, 3, none⟩ (.slice A2 (L.length + 1) c2)).heap.size := by
  have hl : (L ++ [(f, A1, c1)]).length = L.length + 1 := by simp
  have hz8 : (w7.alloc (.cells (fmC f A1 c1).toArray 37)).heap.size = w7.heap.size + 1 := World.size_alloc _ _
  have hrow8 : ∀ k, (Value.slice A' L.length c').ownBlock = some k → x8 < k := fun k hk => by have := (h.o.lt k hk).1; omega
  -- blocks that are not the row's
  have hkeep : ∀ b, b < w7.heap.size → (∀ k, (Value.slice A' L.length c').ownBlock = some k → b ≠ k) → w9.heap[b]? = w7.heap[b]? := fun b hb hne =>
    (hg9.block b (by omega) (fun e => hne b e.symm rfl)).trans (Lib.alloc_old w7 _ b hb)
  have hsz9 : w7.heap.size + 1 ≤ w9.heap.size := by have := hg9.size; omega
  have hg79 : ∀ b, b ≤ x8 → w9.heap[b]? = w7.heap[b]? := fun b hb => hkeep b (by omega) fun k hk => by have := hrow8 k hk; omega
  have hB9 : MkB w w9 B xa xl xp xm A c l a := by
    refine ⟨⟨(hg79 _ (by omega)).trans h.b.st.p, (hg79 _ (by omega)).trans h.b.st.m, (hg79 _ (by omega)).trans h.b.st.s, fun i b hi => ?_, h.b.st.b, h.b.st.la, h.b.st.pa, h.b.st.ma⟩, (hg79 _ (by omega)).trans h.b.a, ⟨hg9.os.trans h.b.g.os, hg9.tape.trans h.b.g.tape, hg9.output.trans h.b.g.output, by have := h.b.g.size; omega, fun k hk hne => (hg79 k (by omega)).trans (h.b.g.block k hk hne)⟩⟩
    obtain ⟨q, o, h1, h2, h3⟩ := h.b.st.v i b hi
    refine ⟨q, o, h1, h2, ?_⟩
    have := hq q ⟨i, b, hi, o, h1, h2⟩
    rw [← h3]
    simp only [World.cell?, hg79 q (by omega)]
  have h8 : Blk w9 x8 37 #[.int .i64 K, .string ⟨nm.toArray⟩, .int .i64 0, .slice A' L.length c'] := (hg79 _ (Nat.le_refl _)).trans h.r8
  have h6 : Blk w9 w.heap.size 37 #[.int .i64 0, .string ⟨#[]⟩, .int .i64 0, .slice none 0 0] := (hg79 _ (by omega)).trans h.r6
  have hsz : (w9.setCell ⟨x8, 3, none⟩ (.slice A2 (L.length + 1) c2)).heap.size = w9.heap.size := by simp [World.setCell]
  have hr2 : ∀ k, (Value.slice A2 (L.length + 1) c2).ownBlock = some k → ∀ b, b < w7.heap.size → (∀ k, (Value.slice A' L.length c').ownBlock = some k → b ≠ k) → b ≠ k := fun k hk b hb hne => by
    rcases hat with e | e
    · exact hne k (by rw [← e]; exact hk)
    · rw [e, hz8] at hk
      cases hk
      omega
  have hst : ∀ b, b ≠ x8 → (w9.setCell ⟨x8, 3, none⟩ (.slice A2 (L.length + 1) c2)).heap[b]? = w9.heap[b]? := fun b hb => Below.heap_setCell w9 ⟨x8, 3, none⟩ _ b hb
  refine ⟨hB9.own h8 (by omega) hxa hxp hxm hxl _ hq, h6.far (p := ⟨x8, 3, none⟩) (by simp; omega) _, ?_, ?_, Nat.le_refl _, ?_⟩
  · rw [hl]
    exact h8.set_ 3 (.slice A2 (L.length + 1) c2)
  · rw [hl]
    refine ho9.kept (grown_set (g := x8) (World.grownBy.refl w9 _) 3 _) ?_
    cases ho : (Value.slice A2 (L.length + 1) c2).ownBlock with
    | none => exact .inl rfl
    | some k =>
      have := (ho9.lt k ho).1
      exact .inr (by simp; omega)
  · obtain ⟨I, J, hk⟩ := h.k
    have hup := h.hs
    refine ⟨fun i => if i < L.length then I i else s7, fun i => if i < L.length then J i else w7.heap.size, fun i x hx => ?_⟩
    rw [hl]
    by_cases hiL : i < L.length
    · rw [List.getElem?_append_left hiL] at hx
      obtain ⟨⟨h1, h2, h3, h4⟩, h5⟩ := hk i x hx
      simp only [hiL, if_true]
      refine ⟨⟨h1, by omega, fun k hk => ?_, fun j y hy hij => ?_⟩, h5.keep fun b hb1 hb2 => ?_⟩
      · rcases hat with e | e
        · exact h3 k (by rw [← e]; exact hk)
        · rw [e, hz8] at hk
          cases hk
          omega
      · by_cases hjL : j < L.length
        · rw [List.getElem?_append_left hjL] at hy
          simp only [hjL, if_true]
          exact h4 j y hy hij
        · simp only [hjL, if_false]
          omega
      · have hne : ∀ k, (Value.slice A' L.length c').ownBlock = some k → b ≠ k := fun k hk => by have := h3 k hk; omega
        rw [hst b (by omega), hkeep b (by omega) hne]
    · have hi : i = L.length := by
        have := (List.getElem?_eq_some_iff.1 hx).1
        rw [hl] at this
        omega
      subst hi
      obtain rfl : (f, A1, c1) = x := by simpa using hx
      have hne : ∀ b, s7 ≤ b → ∀ k, (Value.slice A' L.length c').ownBlock = some k → b ≠ k := fun b hb k hk => by have := hrow k hk; omega
      simp only [Nat.lt_irrefl, if_false]
      refine ⟨⟨hs7, by omega, fun k hk => ?_, fun j y hy hij => ?_⟩, hv.keep fun b hb1 hb2 => ?_⟩
      · rcases hat with e | e
        · have := hrow k (by rw [← e]; exact hk)
          omega
        · rw [e, hz8] at hk
          cases hk
          omega
      · have := (List.getElem?_eq_some_iff.1 hy).1
        rw [hl] at this
        omega
      · rw [hst b (by omega), hkeep b hb2 (hne b hb1)]
/-- The end: the result's block stored. -/
theorem MkL.done {W : World} (h : MkL w wr B xa xl xp xm A c l x8 K nm L A' c' a s) (hxa : xa < w.heap.size) (hx8 : w.heap.size < x8) (hLn : L.length ≤ 1000) (hK : 1 ≤ K ∧ K ≤ 18) (hnm : nm.length ≤ 3) (hg : wr.grownBy W (some w.heap.size)) :
    MkP w xa (.mk K nm 0 (L.map (·.1)), a) A' c' W := by
  have hs := hg.size
  have hws := h.b.g.size
  have hcap : L.length ≤ c' := own_cap h.o
  refine ⟨⟨?_, ?_, ?_, ?_, ?_⟩, h.b.a.grown hg (by simp; omega), ⟨hg.os.trans h.b.g.os, hg.tape.trans h.b.g.tape, hg.output.trans h.b.g.output, by omega, fun k hk hne => (hg.block k (by omega) (by simp; omega)).trans (h.b.g.block k hk hne)⟩⟩
  · simpa [Fm.kids] using hcap
  · simp [Fm.kids]
    omega
  · simp [Fm.kind]
    omega
  · simp [Fm.name]
    omega
  · show FmT W _ _ (L.map (·.1)) A' c'
    obtain ⟨I, J, hk⟩ := h.k
    have hup := h.hs
    have hrw : ∀ b, w.heap.size < b → b < wr.heap.size → W.heap[b]? = wr.heap[b]? := fun b h1 h2 => hg.block b h2 (by simp; omega)
    refine .mk _ _ L A' c' I J (fm_own_keep h.o (by omega) fun k hk => ?_) (fun k hk => ?_) hLn (fun i x hx => ?_) (fun i x hx => (hk i x hx).1.2.2.1) (fun i j x y hx hy => (hk i x hx).1.2.2.2 j y hy) (fun i x hx => ?_) fun i x hx => ?_
    · have := h.o.lt k hk
      exact hrw k (by omega) (by omega)
    · have := h.o.lt k hk
      omega
    · obtain ⟨⟨h1, h2, _⟩, _⟩ := hk i x hx
      omega
    · obtain ⟨_, h5⟩ := hk i x hx
      exact ⟨h5.cap, h5.big, h5.kind, h5.name⟩
    · obtain ⟨⟨h1, h2, _⟩, h5⟩ := hk i x hx
      exact h5.kids.keep fun b hb1 hb2 => hrw b (by omega) (by omega)
end
end Go.Proofs.YtijecfmblddanaaDoor
