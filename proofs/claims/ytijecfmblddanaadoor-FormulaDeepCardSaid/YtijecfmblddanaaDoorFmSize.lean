/- Formulas: Size, Right. -/
import Derived.Test.YtijecfmblddanaaDoorFmRight
set_option linter.unusedVariables false
set_option linter.unusedSimpArgs false
namespace Go.Proofs.YtijecfmblddanaaDoor
open Go.RowKit Go.Maps

set_option maxHeartbeats 1000000 in
theorem size_any (f : Fm) (A : Option Addr) (c : Nat) (w : World) (hf : FmV w w.heap.size f A c) : Calls Tryd.prog 28 #[fmA f A c] w (Ret w (.int .i64 (f.size : Int))) := by
  have HF := Lib.hid hf
  have HSZ : Hid (f.size = if f.wf 60 && decide (0 + (f.sz : Int) ≤ 2000) then f.sz else 0) := Lib.hid (by
    unfold Fm.size Fm.ok
    rw [show decide (0 + (f.sz : Int) ≤ 2000) = decide (f.sz ≤ 2000) from by rw [decide_eq_decide]; omega])
  have hb1 := stepA w (.cells #[.int .i64 f.kind, .string ⟨f.name.toArray⟩, .int .i64 f.lit, .slice A f.kids.length c] 37)
  have HT := Lib.hid (Blk.new w 37 #[.int .i64 f.kind, .string ⟨f.name.toArray⟩, .int .i64 f.lit, .slice A f.kids.length c])
  have HB1 := Lib.hid hb1
  clear hf hb1
  unfold fmA
  go_enter Tryd.func28, Tryd.ntmps28
  go_wp2_with fail
  refine (shapes_any _).mono ?_
  rintro e w2 ⟨rfl, hm, hb2⟩
  have hlt2 : w.heap.size < w2.heap.size := by have := hb2.size; simp at this; omega
  have HT2 := HT.out.below hb2 (by simp)
  have c0 : w2.cell? ⟨w.heap.size, 0, none⟩ = some (.int .i64 f.kind) := HT2.cell 0
  have c1 : w2.cell? ⟨w.heap.size, 1, none⟩ = some (.string ⟨f.name.toArray⟩) := HT2.cell 1
  have c2 : w2.cell? ⟨w.heap.size, 2, none⟩ = some (.int .i64 f.lit) := HT2.cell 2
  have c3 : w2.cell? ⟨w.heap.size, 3, none⟩ = some (.slice A f.kids.length c) := HT2.cell 3
  have hmlt := hm.lt
  have HM := Lib.hid (hm.alloc (.cells #[.map (some (w.alloc (.cells #[.int .i64 f.kind, .string ⟨f.name.toArray⟩, .int .i64 f.lit, .slice A f.kids.length c] 37)).heap.size), .int .i64 0] 70))
  have HB2 := Lib.hid (step2 (step2 HB1.out hb2) (stepA w2 (.cells #[.map (some (w.alloc (.cells #[.int .i64 f.kind, .string ⟨f.name.toArray⟩, .int .i64 f.lit, .slice A f.kids.length c] 37)).heap.size), .int .i64 0] 70)))
  simp only [World.size_alloc] at HM HB2 hmlt
  clear hm hb2 HT2
  go_wp2_with fail
  refine (right_any (f.sz + 1) f (Nat.lt_succ_self _) _ w2.heap.size (w.heap.size + 1) w.heap.size 0 60 A c (Blk.new _ _ _) HM.out (by omega) (HF.out.low HB2.out) (by omega) (by omega) (by omega) (by omega) (by omega)).mono ?_
  rintro e w3 ⟨m1, rfl, hP⟩
  have p1 := hP.blk.cell 1
  have HP := Lib.hid hP
  have HG := Lib.hid (HB2.out.grown hP.grown HB2.out.size (fun k e => by cases e; omega))
  clear hP
  cases hres : (f.wf 60 && decide (0 + (f.sz : Int) ≤ 2000)) with
  | true =>
    have HE : Hid (m1 = (f.size : Int)) := Lib.hid (by
      rw [HSZ.out, hres, if_pos rfl, HP.out.eq hres]
      omega)
    clear hres
    go_wp2_with fail
    go_ret
    exact Ret.mk (by rw [HE.out]; rfl) HG.out
  | false =>
    have HE : Hid (f.size = 0) := Lib.hid (by rw [HSZ.out, hres]; rfl)
    clear hres
    go_wp2_with fail
    go_ret
    exact Ret.mk (by rw [HE.out]; rfl) HG.out

theorem size_pos (f : Fm) : decide (0 < f.size) = f.ok := by
  unfold Fm.size
  have := f.sz_pos
  cases f.ok <;> simp [this]

set_option maxHeartbeats 1000000 in
theorem fright_any (f : Fm) (A : Option Addr) (c : Nat) (w : World) (hf : FmV w w.heap.size f A c) : Calls Tryd.prog 36 #[fmA f A c] w (Ret w (.bool f.ok)) := by
  have HF := Lib.hid hf
  have hb1 := stepA w (.cells #[.int .i64 f.kind, .string ⟨f.name.toArray⟩, .int .i64 f.lit, .slice A f.kids.length c] 37)
  have HS := Lib.hid (size_any f A c _ (hf.after hb1))
  have HP := Lib.hid (size_pos f)
  have HB1 := Lib.hid hb1
  clear hf hb1
  unfold fmA at HS ⊢
  generalize f.size = n at HS HP
  go_enter Tryd.func36, Tryd.ntmps36
  go_wp2_with fail
  refine HS.out.mono ?_
  rintro e w2 ⟨rfl, hb2⟩
  have HB2 := Lib.hid hb2
  clear hb2
  go_wp2_with fail
  go_ret
  refine Ret.mk (by rw [← HP.out]; first | rfl | (congr 1; rw [decide_eq_decide]; omega)) (step2 HB1.out HB2.out)
end Go.Proofs.YtijecfmblddanaaDoor
