/- Tokens: Pieces; TokenSmall. -/
import Derived.Test.YtijecfmblddanaaDoorTkAwake
set_option linter.unusedVariables false
set_option linter.unusedSimpArgs false
namespace Go.Proofs.YtijecfmblddanaaDoor
open Go.RowKit Go.Maps

def pcs : List (List UInt8) := [[65, 71], [69, 70], [69], [65], [85], [82], [69, 88], [97], [113], [108, 48], [33], [38], [124], [45, 62], [60, 45, 62], [40], [41], [91], [93], [32], [34, 120, 46, 121, 34], [34], [45], [60], [116, 114, 117, 101], [102, 97, 108, 115, 101], [65, 70], [10], [63], [69, 71]]
/-- The piece that a number says. -/
def pc (x : Int) : List UInt8 := pcs.getD (x.toNat % 30) []
def piecesTo (l : List Int) (k : Nat) : List UInt8 := (l.take k).flatMap pc
def piecesL (l : List Int) : List UInt8 := piecesTo l (min l.length 20)
def pcv : List Value := pcs.map fun x => .string ⟨x.toArray⟩
theorem pc_len (x : Int) : (pc x).length ≤ 5 := by
  unfold pc
  have h : ∀ i, i < 30 → (pcs.getD i []).length ≤ 5 := by decide
  exact h _ (Nat.mod_lt _ (by omega))
theorem piecesTo_len (l : List Int) : ∀ k, (piecesTo l k).length ≤ 5 * k := by
  intro k
  unfold piecesTo
  have h : ∀ m : List Int, (m.flatMap pc).length ≤ 5 * m.length := by
    intro m
    induction m with
    | nil => simp
    | cons a m ih =>
      rw [List.flatMap_cons, List.length_append, List.length_cons]
      have := pc_len a
      omega
  have := h (l.take k)
  have := List.length_take_le k l
  omega
theorem piecesTo_snoc (l : List Int) (k : Nat) (x : Int) (h : l[k]? = some x) : piecesTo l (k + 1) = piecesTo l k ++ pc x := by
  unfold piecesTo
  rw [List.take_add_one, h, List.flatMap_append]
  simp
theorem pcv_at (x : Int) : pcv.toArray[x.toNat % 30]? = some (Value.string ⟨(pc x).toArray⟩) := by
  have h : ∀ i : Nat, i < 30 → pcv.toArray[i]? = some (Value.string ⟨(pcs.getD i []).toArray⟩) := fun i hi => by
    rw [List.getElem?_toArray]
    unfold pcv
    rw [List.getElem?_map, List.getElem?_eq_getElem (by simpa [pcs] using hi), List.getD, List.getElem?_eq_getElem (by simpa [pcs] using hi)]
    rfl
  exact h _ (Nat.mod_lt _ (by omega))
theorem str_app (a b : List UInt8) : (⟨a.toArray⟩ : ByteArray) ++ ⟨b.toArray⟩ = ⟨(a ++ b).toArray⟩ := by
  have : ((⟨a.toArray⟩ : ByteArray) ++ ⟨b.toArray⟩).data = (a ++ b).toArray := by
    rw [ByteArray.data_append]
    simp
  cases h : (⟨a.toArray⟩ : ByteArray) ++ ⟨b.toArray⟩ with
  | mk d =>
    rw [h] at this
    exact congrArg ByteArray.mk this

set_option maxHeartbeats 1000000 in
theorem pieces_any (l : List Int) (A : Option Addr) (c : Nat) (w : World) (hc : l.length ≤ c) (hr : ∀ x ∈ l, 0 ≤ x ∧ x ≤ 255) (hl : l.length ≤ 140737488355328) (hA : Vals w w.heap.size A (l.map (.int .u8 ·))) :
    Calls Tryd.prog 18 #[.slice A l.length c] w (Ret w (.string ⟨(piecesL l).toArray⟩)) := by
  have e0 : pcv.toArray = (#[.string ⟨#[65, 71]⟩, .string ⟨#[69, 70]⟩, .string ⟨#[69]⟩, .string ⟨#[65]⟩, .string ⟨#[85]⟩, .string ⟨#[82]⟩, .string ⟨#[69, 88]⟩, .string ⟨#[97]⟩, .string ⟨#[113]⟩, .string ⟨#[108, 48]⟩, .string ⟨#[33]⟩, .string ⟨#[38]⟩, .string ⟨#[124]⟩, .string ⟨#[45, 62]⟩, .string ⟨#[60, 45, 62]⟩, .string ⟨#[40]⟩, .string ⟨#[41]⟩, .string ⟨#[91]⟩, .string ⟨#[93]⟩, .string ⟨#[32]⟩, .string ⟨#[34, 120, 46, 121, 34]⟩, .string ⟨#[34]⟩, .string ⟨#[45]⟩, .string ⟨#[60]⟩, .string ⟨#[116, 114, 117, 101]⟩, .string ⟨#[102, 97, 108, 115, 101]⟩, .string ⟨#[65, 70]⟩, .string ⟨#[10]⟩, .string ⟨#[63]⟩, .string ⟨#[69, 71]⟩] : Array Value) := rfl
  have e0 : pcv.toArray = (#[.string ⟨#[65, 71]⟩, .string ⟨#[69, 70]⟩, .string ⟨#[69]⟩, .string ⟨#[65]⟩, .string ⟨#[85]⟩, .string ⟨#[82]⟩, .string ⟨#[69, 88]⟩, .string ⟨#[97]⟩, .string ⟨#[113]⟩, .string ⟨#[108, 48]⟩, .string ⟨#[33]⟩, .string ⟨#[38]⟩, .string ⟨#[124]⟩, .string ⟨#[45, 62]⟩, .string ⟨#[60, 45, 62]⟩, .string ⟨#[40]⟩, .string ⟨#[41]⟩, .string ⟨#[91]⟩, .string ⟨#[93]⟩, .string ⟨#[32]⟩, .string ⟨#[34, 120, 46, 121, 34]⟩, .string ⟨#[34]⟩, .string ⟨#[45]⟩, .string ⟨#[60]⟩, .string ⟨#[116, 114, 117, 101]⟩, .string ⟨#[102, 97, 108, 115, 101]⟩, .string ⟨#[65, 70]⟩, .string ⟨#[10]⟩, .string ⟨#[63]⟩, .string ⟨#[69, 71]⟩] : Array Value) := rfl
  have e0 : pcv.toArray = (#[.string ⟨#[65, 71]⟩, .string ⟨#[69, 70]⟩, .string ⟨#[69]⟩, .string ⟨#[65]⟩, .string ⟨#[85]⟩, .string ⟨#[82]⟩, .string ⟨#[69, 88]⟩, .string ⟨#[97]⟩, .string ⟨#[113]⟩, .string ⟨#[108, 48]⟩, .string ⟨#[33]⟩, .string ⟨#[38]⟩, .string ⟨#[124]⟩, .string ⟨#[45, 62]⟩, .string ⟨#[60, 45, 62]⟩, .string ⟨#[40]⟩, .string ⟨#[41]⟩, .string ⟨#[91]⟩, .string ⟨#[93]⟩, .string ⟨#[32]⟩, .string ⟨#[34, 120, 46, 121, 34]⟩, .string ⟨#[34]⟩, .string ⟨#[45]⟩, .string ⟨#[60]⟩, .string ⟨#[116, 114, 117, 101]⟩, .string ⟨#[102, 97, 108, 115, 101]⟩, .string ⟨#[65, 70]⟩, .string ⟨#[10]⟩, .string ⟨#[63]⟩, .string ⟨#[69, 71]⟩] : Array Value) := rfl
  have hB := Blk.new w 9 pcv.toArray
  have hb := stepA w (.cells pcv.toArray 9)
  have hA := hA.after hb
  obtain ⟨w1, hw1⟩ : ∃ w1, w1 = w.alloc (.cells (#[.string ⟨#[65, 71]⟩, .string ⟨#[69, 70]⟩, .string ⟨#[69]⟩, .string ⟨#[65]⟩, .string ⟨#[85]⟩, .string ⟨#[82]⟩, .string ⟨#[69, 88]⟩, .string ⟨#[97]⟩, .string ⟨#[113]⟩, .string ⟨#[108, 48]⟩, .string ⟨#[33]⟩, .string ⟨#[38]⟩, .string ⟨#[124]⟩, .string ⟨#[45, 62]⟩, .string ⟨#[60, 45, 62]⟩, .string ⟨#[40]⟩, .string ⟨#[41]⟩, .string ⟨#[91]⟩, .string ⟨#[93]⟩, .string ⟨#[32]⟩, .string ⟨#[34, 120, 46, 121, 34]⟩, .string ⟨#[34]⟩, .string ⟨#[45]⟩, .string ⟨#[60]⟩, .string ⟨#[116, 114, 117, 101]⟩, .string ⟨#[102, 97, 108, 115, 101]⟩, .string ⟨#[65, 70]⟩, .string ⟨#[10]⟩, .string ⟨#[63]⟩, .string ⟨#[69, 71]⟩] : Array Value) 9) := ⟨_, rfl⟩
  rw [e0, ← hw1] at hA hb
  have hB2 : Blk w1 w.heap.size 9 pcv.toArray := by rw [hw1]; exact hB
  have HW1 := Lib.hid hw1
  have HA := Lib.hid hA
  have HR := Lib.hid hr
  have HB := Lib.hid hb
  have HP := Lib.hid hB2
  clear hA hr hB hB2 hb e0 hw1
  go_enter Tryd.func18, Tryd.ntmps18
  go_wp2_with fail
  rw [← HW1.out]
  go_loopw [4, 5] (fun v i wr => ∃ k : Nat, k ≤ l.length ∧ k ≤ 20 ∧ i = .int .i64 (k : Int) ∧ v = .string ⟨(piecesTo l k).toArray⟩ ∧ wr = w1) (fun _ i _ => l.length - (intOf i).toNat)
  case atStart => exact ⟨0, Nat.zero_le _, Nat.zero_le _, rfl, rfl, rfl⟩
  case round =>
    obtain ⟨k, hk, hk2, rfl, rfl, rfl⟩ := hrel
    by_cases hlt : k < l.length
    · have hlt' : (k : Int) < (l.length : Int) := by omega
      by_cases h20 : k < 20
      · have h20' : (k : Int) < 20 := by omega
        obtain ⟨x, hx⟩ : ∃ x, l[k]? = some x := ⟨_, List.getElem?_eq_getElem hlt⟩
        obtain ⟨hx0, hx1⟩ := HR.out x (List.mem_of_getElem? hx)
        obtain ⟨b, o, rfl, hb, hcx⟩ := HA.out k (.int .u8 x) (by rw [List.getElem?_map, hx]; rfl)
        have hcp : wr.cell? ⟨w.heap.size, (x % 30).toNat, none⟩ = some (.string ⟨(pc x).toArray⟩) := by
          have e : (x % 30).toNat = x.toNat % 30 := by omega
          rw [HP.out.cell, e]
          exact pcv_at x
        have HSN := Lib.hid (piecesTo_snoc l k x hx)
        have HSA := Lib.hid (str_app (piecesTo l k) (pc x))
        have hm0 : 0 ≤ x % 30 := by omega
        have hm1 : x % 30 < 30 := by omega
        clear hx
        have hsz : (⟨(piecesTo l k).toArray⟩ : ByteArray).size + (⟨(pc x).toArray⟩ : ByteArray).size ≤ 9223372036854775807 := by
          show (piecesTo l k).toArray.size + (pc x).toArray.size ≤ _
          rw [List.size_toArray, List.size_toArray]
          have := piecesTo_len l k
          have := pc_len x
          omega
        generalize (⟨(pc x).toArray⟩ : ByteArray) = PC at hcp HSA hsz
        generalize (⟨(piecesTo l k).toArray⟩ : ByteArray) = SS at HSA hsz ⊢
        go_wp2_with fail
        go_roundw
        case rel => exact ⟨k + 1, by omega, by omega, by go_num, by rw [HSN.out, HSA.out], (by first | rfl | trivial)⟩
        case measure => simp [intOf]; omega
      · have h20' : ¬ ((k : Int) < 20) := by omega
        have HE : Hid (piecesL l = piecesTo l k) := Lib.hid (by unfold piecesL; congr 1; omega)
        go_wp2_with fail
        go_ret
        rw [HE.out]
        exact ⟨rfl, HB.out⟩
    · have hlt' : ¬ ((k : Int) < (l.length : Int)) := by omega
      have HE : Hid (piecesL l = piecesTo l k) := Lib.hid (by unfold piecesL; congr 1; omega)
      go_wp2_with fail
      go_ret
      rw [HE.out]
      exact ⟨rfl, HB.out⟩

set_option maxHeartbeats 800000 in
theorem tokenSmall_any (l : List Int) (A : Option Addr) (c : Nat) (w : World) (hr : ∀ x ∈ l, 0 ≤ x ∧ x ≤ 255) (hc : l.length ≤ c) (hl : c ≤ 140737488355328) (hA : Vals w w.heap.size A (l.map (.int .u8 ·))) :
    Calls Tryd.prog 4 #[.slice A l.length c] w (Ret w (.bool true)) := by
  have HS := Lib.hid (fun w => same_any ⟨(piecesL l).toArray⟩ (by
    show (piecesL l).toArray.size ≤ _
    rw [List.size_toArray]
    have := piecesTo_len l (min l.length 20)
    unfold piecesL
    omega) w)
  have HP := Lib.hid (fun w h => pieces_any l A c w hc hr (by omega) h)
  have HA := Lib.hid hA
  generalize (⟨(piecesL l).toArray⟩ : ByteArray) = s at HS HP
  clear hA hr
  go_enter Tryd.func4, Tryd.ntmps4
  go_wp2_with fail
  refine (awake7_any _).mono ?_
  rintro e w1 ⟨rfl, hb1⟩
  have HB1 := Lib.hid hb1
  clear hb1
  go_wp2_with fail
  refine (HP.out _ (HA.out.after HB1.out)).mono ?_
  rintro e w2 ⟨rfl, hb2⟩
  have HB2 := Lib.hid hb2
  clear hb2
  go_wp2_with fail
  refine (HS.out _).mono ?_
  rintro e w3 ⟨rfl, hb3⟩
  have HB3 := Lib.hid hb3
  clear hb3
  go_wp2_with fail
  go_ret
  exact ⟨rfl, step2 (step2 HB1.out HB2.out) HB3.out⟩
end Go.Proofs.YtijecfmblddanaaDoor
