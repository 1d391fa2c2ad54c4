/- Parsing: the statements' same. -/
import Derived.Test.YtijecfmblddanaaGreatDoorG11
import Derived.Test.YtijecfmblddanaaGreatDoorG14
set_option linter.unusedVariables false
set_option linter.unusedSimpArgs false
namespace Go.Proofs.YtijecfmblddanaaGreatDoor
open Go.RowKit Go.Maps

set_option maxRecDepth 100000 in
set_option maxHeartbeats 2000000 in
theorem same9_any (s : ByteArray) (hs : s.size ≤ 140737488355328) (w : World) : Calls Tryz.prog 6 #[.string s] w (Ret w (.bool true)) := by
  have HP := Lib.hid (fun W => parse_any s hs W)
  have HR := Lib.hid (fun W => rparse_any s hs W)
  generalize parseOf s.data.toList = r at HP HR
  obtain ⟨f, er, p⟩ := r
  have hS : f.same f = true := (Fm.same_iff f f).2 rfl
  have HSA := Lib.hid (rsame_any (f.sz + 1) f (Nat.lt_succ_self _) f)
  rw [hS] at HSA
  have hee : (er == er) = true := by simp
  have hpp : ((p : Int) == (p : Int)) = true := by simp
  clear hS
  go_enter Tryz.func6, Tryz.ntmps6
  go_wp2_with fail
  refine (HP.out _).mono ?_
  rintro e w1 ⟨A, c, rfl, hv1, hb1⟩
  have hX := Blk.new w1 28 #[.int .i64 f.kind, .string ⟨f.name.toArray⟩, .int .i64 f.lit, .slice A f.kids.length c]
  have hS1 := stepA w1 (.cells #[.int .i64 f.kind, .string ⟨f.name.toArray⟩, .int .i64 f.lit, .slice A f.kids.length c] 28)
  have HV1 := Lib.hid (FmV.after (show FmV w1 w1.heap.size f A c from hv1) hS1)
  have HX1 := Lib.hid hX
  have HB1 := Lib.hid (step2 hb1 hS1)
  clear hv1 hb1 hX hS1
  dsimp only [fmA]
  go_wp2_with fail
  generalize (w1.alloc (.cells #[.int .i64 f.kind, .string ⟨f.name.toArray⟩, .int .i64 f.lit, .slice A f.kids.length c] 28)) = w2 at HV1 HX1 HB1 ⊢
  refine (HR.out _).mono ?_
  rintro e w3 ⟨B, d, rfl, hv3, hb3⟩
  have hS3 := stepA w3 (.cells #[.int .i64 f.kind, .string ⟨f.name.toArray⟩, .int .i64 f.lit, .slice B f.kids.length d] 28)
  have HXB := Lib.hid ((HX1.out.below hb3 HX1.out.lt).alloc (.cells #[.int .i64 f.kind, .string ⟨f.name.toArray⟩, .int .i64 f.lit, .slice B f.kids.length d] 28))
  have HVA := Lib.hid (HV1.out.after (step2 hb3 hS3))
  have HVB := Lib.hid (FmV.after (show FmV w3 w3.heap.size f B d from hv3) hS3)
  have HXC := Lib.hid (Blk.new w3 28 #[.int .i64 f.kind, .string ⟨f.name.toArray⟩, .int .i64 f.lit, .slice B f.kids.length d])
  have HB3 := Lib.hid (step2 HB1.out (step2 hb3 hS3))
  clear hv3 hb3 hS3
  have x0 := HXB.out.cell 0
  have x1 := HXB.out.cell 1
  have x2 := HXB.out.cell 2
  have x3 := HXB.out.cell 3
  have y0 := HXC.out.cell 0
  have y1 := HXC.out.cell 1
  have y2 := HXC.out.cell 2
  have y3 := HXC.out.cell 3
  dsimp only [fmA]
  go_wp2_with fail
  clear x0 x1 x2 x3 y0 y1 y2 y3 HXB HXC HX1 HV1 HB1
  generalize (w3.alloc (.cells #[.int .i64 f.kind, .string ⟨f.name.toArray⟩, .int .i64 f.lit, .slice B f.kids.length d] 28)) = w4 at HVA HVB HB3 ⊢
  refine (HSA.out w4 w4.heap.size A B c d HVA.out HVB.out (Nat.le_refl _)).mono ?_
  rintro e w5 ⟨rfl, hb5⟩
  have HB5 := Lib.hid hb5
  clear hb5
  go_wp2_with fail
  go_ret
  exact ⟨rfl, step2 HB3.out HB5.out⟩
end Go.Proofs.YtijecfmblddanaaGreatDoor
