/- Parsing: ParseBack. -/
import Derived.Test.YtijecfmblddanaaDoorG4
import Derived.Test.YtijecfmblddanaaDoorFmSizeLaw
import Derived.Test.YtijecfmblddanaaDoorPBackLaw
import Derived.Test.YtijecfmblddanaaDoorG12
import Derived.Test.YtijecfmblddanaaDoorG14
set_option linter.unusedVariables false
set_option linter.unusedSimpArgs false
namespace Go.Proofs.YtijecfmblddanaaDoor
open Go.RowKit Go.Maps

set_option maxRecDepth 100000 in
set_option maxHeartbeats 2000000 in
theorem parseBack_any (l0 : List Int) (A0 : Option Addr) (c0 : Nat) (w : World) (hr : ∀ x ∈ l0, 0 ≤ x ∧ x ≤ 255) (hc : l0.length ≤ c0) (hl : c0 ≤ 140737488355328) (hA : Vals w w.heap.size A0 (l0.map (.int .u8 ·))) :
    Calls Tryd.prog 13 #[.slice A0 l0.length c0] w (Ret w (.bool true)) := by
  have n1 := nums_of hA hr
  rw [← bytesI_len l0]
  rw [← bytesI_len l0] at hc
  clear hA hr
  obtain ⟨l, hl'⟩ : ∃ l, l = bytesI l0 := ⟨_, rfl⟩
  rw [← hl'] at n1 hc ⊢
  clear hl' l0
  have HM1 := Lib.hid (fun W (h : Below w.heap.size w W) => made_any l W A0 c0 hc hl (fun i b hi => by
    obtain ⟨q, o, h1, h2, h3⟩ := n1.low h i b hi
    exact ⟨q, o, h1, Nat.lt_of_lt_of_le h2 h.size, h3⟩))
  clear n1 hc
  have hok := madeF_ok l
  have htl := made_txt l
  have hp : (madeF l).print = ((madeF l).txt, 0) := by unfold Fm.print; rw [if_pos hok]
  have HS : Hid (∀ W, Calls Tryd.prog 31 #[.string ⟨(madeF l).txt.toArray⟩] W (ParsePost W (madeF l, 0, 0))) := Lib.hid fun W => by
    have h := parse_any ⟨(madeF l).txt.toArray⟩ (by show (madeF l).txt.toArray.size ≤ _; rw [List.size_toArray]; omega) W
    rwa [show (⟨(madeF l).txt.toArray⟩ : ByteArray).data.toList = (madeF l).txt from rfl, parseOf_txt hok (by omega)] at h
  have HT : Hid (∀ W, Calls Tryd.prog 31 #[.string ((⟨#[32, 40, 32, 40]⟩ : ByteArray) ++ ⟨(madeF l).txt.toArray⟩ ++ (⟨#[41, 10, 41, 32]⟩ : ByteArray))] W (ParsePost W (madeF l, 0, 0))) := Lib.hid fun W => by
    have e : (⟨#[32, 40, 32, 40]⟩ : ByteArray) ++ ⟨(madeF l).txt.toArray⟩ ++ (⟨#[41, 10, 41, 32]⟩ : ByteArray) = ⟨(inBr (madeF l).txt).toArray⟩ :=
      (congrArg (· ++ (⟨#[41, 10, 41, 32]⟩ : ByteArray)) (str_app [32, 40, 32, 40] (madeF l).txt)).trans (str_app _ [41, 10, 41, 32])
    have h := parse_any ⟨(inBr (madeF l).txt).toArray⟩ (by show (inBr (madeF l).txt).toArray.size ≤ _; rw [List.size_toArray]; unfold inBr; simp; omega) W
    rw [show (⟨(inBr (madeF l).txt).toArray⟩ : ByteArray).data.toList = inBr (madeF l).txt from rfl, parseOf_br hok (by omega)] at h
    rw [e]
    exact h
  have HP : Hid (∀ A c W, FmV W W.heap.size (madeF l) A c → Calls Tryd.prog 27 #[fmA (madeF l) A c] W (Ret W (.tuple #[.string ⟨(madeF l).txt.toArray⟩, .int .i64 0]))) := Lib.hid fun A c W h => by
    have h2 := print_any (madeF l) A c W h
    rw [hp] at h2
    exact h2
  have hsz : (⟨(madeF l).txt.toArray⟩ : ByteArray).size ≤ 19000 := by
    show (madeF l).txt.toArray.size ≤ _
    rw [List.size_toArray]
    exact htl
  clear hok htl hp
  unfold MadePost at HM1
  generalize madeF l = f at HM1 HS HT HP hsz
  generalize (⟨f.txt.toArray⟩ : ByteArray) = S at HS HT HP hsz
  have h1 : ¬ 9223372036854775807 < 4 + S.size := by omega
  have h1' : 4 + S.size ≤ 9223372036854775807 := by omega
  have h2 : ¬ 9223372036854775807 < 4 + S.size + 4 := by omega
  have h2' : 4 + S.size + 4 ≤ 9223372036854775807 := by omega
  have hsame : f.same f = true := (Fm.same_iff f f).2 rfl
  have HSA := Lib.hid (rsame_any (f.sz + 1) f (Nat.lt_succ_self _) f)
  rw [hsame] at HSA
  clear hsame
  go_enter Tryd.func13, Tryd.ntmps13
  go_wp2_with fail
  refine (awake9_any _).mono ?_
  rintro e w1 ⟨rfl, hb1⟩
  have HB1 := Lib.hid hb1
  clear hb1
  go_wp2_with fail
  refine (HM1.out _ HB1.out).mono ?_
  rintro e w2 ⟨A, c, rfl, hv, hb⟩
  have hst := stepA w2 (.cells #[.int .i64 f.kind, .string ⟨f.name.toArray⟩, .int .i64 f.lit, .slice A f.kids.length c] 37)
  have hX := Blk.new w2 37 #[.int .i64 f.kind, .string ⟨f.name.toArray⟩, .int .i64 f.lit, .slice A f.kids.length c]
  have HV := Lib.hid ((hv.v (B := w2.heap.size) (fun b h => h.2)).after hst)
  have HB2 := Lib.hid (step2 (step2 HB1.out hb) hst)
  have HX := Lib.hid hX
  have x0 := hX.cell 0
  have x1 := hX.cell 1
  have x2 := hX.cell 2
  have x3 := hX.cell 3
  clear hv hb hst hX HB1 HM1
  unfold fmA
  go_wp2_with fail
  clear x0 x1 x2 x3
  generalize (w2.alloc (.cells #[.int .i64 f.kind, .string ⟨f.name.toArray⟩, .int .i64 f.lit, .slice A f.kids.length c] 37)) = v2 at HV HB2 HX ⊢
  generalize w2.heap.size = a at HX ⊢
  refine (HP.out A c v2 HV.out).mono ?_
  rintro e w3 ⟨rfl, hb⟩
  have HV3 := Lib.hid (HV.out.after hb)
  have HX3 := Lib.hid (HX.out.below hb HX.out.lt)
  have HB3 := Lib.hid (step2 HB2.out hb)
  clear hb HV HX HB2 HP
  go_wp2_with fail
  refine (HS.out w3).mono ?_
  rintro e w4 ⟨B, d, rfl, hv, hb⟩
  have hst := stepA w4 (.cells #[.int .i64 f.kind, .string ⟨f.name.toArray⟩, .int .i64 f.lit, .slice B f.kids.length d] 37)
  have HVA := Lib.hid (HV3.out.after (step2 hb hst))
  have HVB := Lib.hid (FmV.after (show FmV w4 w4.heap.size f B d from hv) hst)
  have HX4 := Lib.hid ((HX3.out.below hb HX3.out.lt).alloc (.cells #[.int .i64 f.kind, .string ⟨f.name.toArray⟩, .int .i64 f.lit, .slice B f.kids.length d] 37))
  have HY4 := Lib.hid (Blk.new w4 37 #[.int .i64 f.kind, .string ⟨f.name.toArray⟩, .int .i64 f.lit, .slice B f.kids.length d])
  have HB4 := Lib.hid (step2 HB3.out (step2 hb hst))
  clear hv hb hst HV3 HX3 HB3 HS
  dsimp only [fmA]
  go_wp2_with fail
  generalize (w4.alloc (.cells #[.int .i64 f.kind, .string ⟨f.name.toArray⟩, .int .i64 f.lit, .slice B f.kids.length d] 37)) = v4 at HVA HVB HX4 HY4 HB4 ⊢
  generalize w4.heap.size = b at HY4 ⊢
  refine (HT.out v4).mono ?_
  rintro e w5 ⟨D, g, rfl, hv, hb⟩
  have hst := stepA w5 (.cells #[.int .i64 f.kind, .string ⟨f.name.toArray⟩, .int .i64 f.lit, .slice D f.kids.length g] 37)
  have HVA5 := Lib.hid (HVA.out.after (step2 hb hst))
  have HVB5 := Lib.hid (HVB.out.after (step2 hb hst))
  have HVD5 := Lib.hid (FmV.after (show FmV w5 w5.heap.size f D g from hv) hst)
  have HX5 := Lib.hid ((HX4.out.below hb HX4.out.lt).alloc (.cells #[.int .i64 f.kind, .string ⟨f.name.toArray⟩, .int .i64 f.lit, .slice D f.kids.length g] 37))
  have HY5 := Lib.hid ((HY4.out.below hb HY4.out.lt).alloc (.cells #[.int .i64 f.kind, .string ⟨f.name.toArray⟩, .int .i64 f.lit, .slice D f.kids.length g] 37))
  have HZ5 := Lib.hid (Blk.new w5 37 #[.int .i64 f.kind, .string ⟨f.name.toArray⟩, .int .i64 f.lit, .slice D f.kids.length g])
  have HB5 := Lib.hid (step2 HB4.out (step2 hb hst))
  clear hv hb hst HVA HVB HX4 HY4 HB4 HT
  have x0 := HX5.out.cell 0
  have x1 := HX5.out.cell 1
  have x2 := HX5.out.cell 2
  have x3 := HX5.out.cell 3
  have y0 := HY5.out.cell 0
  have y1 := HY5.out.cell 1
  have y2 := HY5.out.cell 2
  have y3 := HY5.out.cell 3
  dsimp only [fmA]
  go_wp2_with fail
  clear x0 x1 x2 x3 y0 y1 y2 y3
  generalize (w5.alloc (.cells #[.int .i64 f.kind, .string ⟨f.name.toArray⟩, .int .i64 f.lit, .slice D f.kids.length g] 37)) = v5 at HVA5 HVB5 HVD5 HX5 HY5 HZ5 HB5 ⊢
  generalize w5.heap.size = i at HZ5 ⊢
  refine (HSA.out v5 v5.heap.size A B c d HVA5.out HVB5.out (Nat.le_refl _)).mono ?_
  rintro e w6 ⟨rfl, hb⟩
  have HVA6 := Lib.hid (HVA5.out.after hb)
  have HVD6 := Lib.hid (HVD5.out.after hb)
  have HX6 := Lib.hid (HX5.out.below hb HX5.out.lt)
  have HZ6 := Lib.hid (HZ5.out.below hb HZ5.out.lt)
  have HB6 := Lib.hid (step2 HB5.out hb)
  clear hb HVA5 HVB5 HVD5 HX5 HY5 HZ5 HB5
  have x0 := HX6.out.cell 0
  have x1 := HX6.out.cell 1
  have x2 := HX6.out.cell 2
  have x3 := HX6.out.cell 3
  have y0 := HZ6.out.cell 0
  have y1 := HZ6.out.cell 1
  have y2 := HZ6.out.cell 2
  have y3 := HZ6.out.cell 3
  go_wp2_with fail
  clear x0 x1 x2 x3 y0 y1 y2 y3
  refine (HSA.out w6 w6.heap.size A D c g HVA6.out HVD6.out (Nat.le_refl _)).mono ?_
  rintro e w7 ⟨rfl, hb⟩
  have HB7 := Lib.hid (step2 HB6.out hb)
  clear hb
  go_wp2_with fail
  go_ret
  exact ⟨rfl, HB7.out⟩
end Go.Proofs.YtijecfmblddanaaDoor
