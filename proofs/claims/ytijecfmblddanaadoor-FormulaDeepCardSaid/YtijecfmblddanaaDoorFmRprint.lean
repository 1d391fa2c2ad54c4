/- Formulas: the document's Right, Size, Print. -/
import Derived.Test.YtijecfmblddanaaDoorFmRright
import Derived.Test.YtijecfmblddanaaDoorFmRtext
set_option linter.unusedVariables false
set_option linter.unusedSimpArgs false
namespace Go.Proofs.YtijecfmblddanaaDoor
open Go.RowKit Go.Maps

theorem rr_ok (f : Fm) : rr f 60 = f.ok := rfl
theorem rr_size (f : Fm) : (if rr f 60 then (f.sz : Int) else 0) = (f.size : Int) := by
  rw [rr_ok]
  unfold Fm.size
  cases f.ok <;> rfl

set_option maxHeartbeats 1000000 in
theorem rfright_any (f : Fm) (A : Option Addr) (c : Nat) (w : World) (hf : FmV w w.heap.size f A c) : Calls Tryd.prog 37 #[fmA f A c] w (Ret w (.bool f.ok)) := by
  have hb1 := stepA w (.cells #[.int .i64 f.kind, .string ⟨f.name.toArray⟩, .int .i64 f.lit, .slice A f.kids.length c] 37)
  have hS := rright_any (f.sz + 1) f (Nat.lt_succ_self _) _ 60 A c (hf.after hb1) (by omega) (by omega)
  unfold RRet at hS
  rw [rr_size, rr_ok] at hS
  have HS := Lib.hid hS
  have HB1 := Lib.hid hb1
  clear hf hb1 hS
  unfold fmA at HS ⊢
  generalize (f.size : Int) = n at HS
  generalize f.ok = o at HS ⊢
  go_enter Tryd.func37, Tryd.ntmps37
  go_wp2_with fail
  refine HS.out.mono ?_
  rintro e w2 ⟨rfl, hb2⟩
  have HB2 := Lib.hid hb2
  clear hb2
  go_wp2_with fail
  go_ret
  exact Ret.mk rfl (step2 HB1.out HB2.out)

set_option maxHeartbeats 1000000 in
theorem rsize_any (f : Fm) (A : Option Addr) (c : Nat) (w : World) (hf : FmV w w.heap.size f A c) : Calls Tryd.prog 38 #[fmA f A c] w (Ret w (.int .i64 (f.size : Int))) := by
  have hb1 := stepA w (.cells #[.int .i64 f.kind, .string ⟨f.name.toArray⟩, .int .i64 f.lit, .slice A f.kids.length c] 37)
  have hS := rright_any (f.sz + 1) f (Nat.lt_succ_self _) _ 60 A c (hf.after hb1) (by omega) (by omega)
  unfold RRet at hS
  rw [rr_size, rr_ok] at hS
  have HS := Lib.hid hS
  have HB1 := Lib.hid hb1
  clear hf hb1 hS
  unfold fmA at HS ⊢
  generalize (f.size : Int) = n at HS ⊢
  generalize f.ok = o at HS
  go_enter Tryd.func38, Tryd.ntmps38
  go_wp2_with fail
  refine HS.out.mono ?_
  rintro e w2 ⟨rfl, hb2⟩
  have HB2 := Lib.hid hb2
  clear hb2
  go_wp2_with fail
  go_ret
  exact Ret.mk rfl (step2 HB1.out HB2.out)

set_option maxHeartbeats 1000000 in
theorem rprint_any (f : Fm) (A : Option Addr) (c : Nat) (w : World) (hf : FmV w w.heap.size f A c) : Calls Tryd.prog 35 #[fmA f A c] w (Ret w (printV f.print)) := by
  have hb1 := stepA w (.cells #[.int .i64 f.kind, .string ⟨f.name.toArray⟩, .int .i64 f.lit, .slice A f.kids.length c] 37)
  have HT := Lib.hid (Blk.new w 37 #[.int .i64 f.kind, .string ⟨f.name.toArray⟩, .int .i64 f.lit, .slice A f.kids.length c])
  have HR := Lib.hid (rfright_any f A c _ (hf.after hb1))
  have HP : Hid (f.print = if f.ok then (f.txt, 0) else ([], 1)) := Lib.hid rfl
  have HF := Lib.hid hf
  have HB1 := Lib.hid hb1
  have e0 := HT.out.cell 0
  have e1 := HT.out.cell 1
  have e2 := HT.out.cell 2
  have e3 := HT.out.cell 3
  clear hf hb1
  unfold printV
  cases hok : f.ok with
  | false =>
    rw [hok] at HR HP
    have HPP : Hid (f.print = ([], 1)) := Lib.hid HP.out
    unfold fmA at HR ⊢
    go_enter Tryd.func35, Tryd.ntmps35
    go_wp2_with fail
    refine HR.out.mono ?_
    rintro e w2 ⟨rfl, hb2⟩
    have HB2 := Lib.hid hb2
    clear hb2 hok
    go_wp2_with fail
    go_ret2
    rw [HPP.out]
    exact Ret.mk rfl (step2 HB1.out HB2.out)
  | true =>
    have HWF := Lib.hid (ok_wf hok)
    have HSZ : Hid (f.sz ≤ 2000) := Lib.hid (by
      unfold Fm.ok at hok
      simp only [Bool.and_eq_true, decide_eq_true_eq] at hok
      exact hok.2)
    have HTX := Lib.hid (fun W (h : Below w.heap.size w W) => rtext_any (f.sz + 1) f (Nat.lt_succ_self _) 60 HWF.out HSZ.out W w.heap.size A c (HF.out.low h) h.size)
    rw [hok] at HR HP
    have HPP : Hid (f.print = (f.txt, 0)) := Lib.hid HP.out
    unfold fmA at HR HTX ⊢
    go_enter Tryd.func35, Tryd.ntmps35
    go_wp2_with fail
    refine HR.out.mono ?_
    rintro e w2 ⟨rfl, hb2⟩
    have HT2 := HT.out.below hb2 (by simp)
    have q0 := HT2.cell 0
    have q1 := HT2.cell 1
    have q2 := HT2.cell 2
    have q3 := HT2.cell 3
    have HB2 := Lib.hid (step2 HB1.out hb2)
    clear hb2 hok e0 e1 e2 e3 HT2
    go_wp2_with fail
    refine (HTX.out _ HB2.out).mono ?_
    rintro e w3 ⟨t, rfl, ht, hb3⟩
    obtain rfl : t = ⟨f.txt.toArray⟩ := by rw [← ht]
    have HB3 := Lib.hid (step2 HB2.out hb3)
    clear ht hb3
    go_wp2_with fail
    go_ret2
    rw [HPP.out]
    exact Ret.mk rfl HB3.out
end Go.Proofs.YtijecfmblddanaaDoor
