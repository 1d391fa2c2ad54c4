/- Formulas: FormulaAny. -/
import Derived.Test.YtijecfmblddanaaDoorFmAwake
import Derived.Test.YtijecfmblddanaaDoorFmRsame
set_option linter.unusedVariables false
set_option linter.unusedSimpArgs false
namespace Go.Proofs.YtijecfmblddanaaDoor
open Go.RowKit Go.Maps

set_option maxRecDepth 100000 in
set_option maxHeartbeats 4000000 in
theorem formulaAny_any (f g : Fm) (A A' : Option Addr) (c c' : Nat) (w : World) (hf : FmV w w.heap.size f A c) (hg : FmV w w.heap.size g A' c') : Calls Tryd.prog 7 #[fmA f A c, fmA g A' c'] w (Ret w (.bool true)) := by
  have hb1 := stepA w (.cells #[.int .i64 f.kind, .string ⟨f.name.toArray⟩, .int .i64 f.lit, .slice A f.kids.length c] 37)
  have hb2 := step2 hb1 (stepA (w.alloc (.cells #[.int .i64 f.kind, .string ⟨f.name.toArray⟩, .int .i64 f.lit, .slice A f.kids.length c] 37)) (.cells #[.int .i64 g.kind, .string ⟨g.name.toArray⟩, .int .i64 g.lit, .slice A' g.kids.length c'] 37))
  have hX := (Blk.new w 37 #[.int .i64 f.kind, .string ⟨f.name.toArray⟩, .int .i64 f.lit, .slice A f.kids.length c]).alloc (.cells #[.int .i64 g.kind, .string ⟨g.name.toArray⟩, .int .i64 g.lit, .slice A' g.kids.length c'] 37)
  have hY := Blk.new (w.alloc (.cells #[.int .i64 f.kind, .string ⟨f.name.toArray⟩, .int .i64 f.lit, .slice A f.kids.length c] 37)) 37 #[.int .i64 g.kind, .string ⟨g.name.toArray⟩, .int .i64 g.lit, .slice A' g.kids.length c']
  simp only [World.size_alloc] at hY
  have hsz : ((w.alloc (.cells #[.int .i64 f.kind, .string ⟨f.name.toArray⟩, .int .i64 f.lit, .slice A f.kids.length c] 37)).alloc (.cells #[.int .i64 g.kind, .string ⟨g.name.toArray⟩, .int .i64 g.lit, .slice A' g.kids.length c'] 37)).heap.size = w.heap.size + 1 + 1 := by simp only [World.size_alloc]
  have HX := Lib.hid hX
  have HY := Lib.hid hY
  have HB := Lib.hid hb2
  have hF := hf.after hb2
  have hG := hg.after hb2
  have HBF := Lib.hid (fun W (h : Below ((w.alloc (.cells #[.int .i64 f.kind, .string ⟨f.name.toArray⟩, .int .i64 f.lit, .slice A f.kids.length c] 37)).alloc (.cells #[.int .i64 g.kind, .string ⟨g.name.toArray⟩, .int .i64 g.lit, .slice A' g.kids.length c'] 37)).heap.size ((w.alloc (.cells #[.int .i64 f.kind, .string ⟨f.name.toArray⟩, .int .i64 f.lit, .slice A f.kids.length c] 37)).alloc (.cells #[.int .i64 g.kind, .string ⟨g.name.toArray⟩, .int .i64 g.lit, .slice A' g.kids.length c'] 37)) W) => big_any (f.sz + 1) f (Nat.lt_succ_self _) W W.heap.size A c 4000 (hF.after h) (Nat.le_refl _) (by omega) (by omega))
  have HBG := Lib.hid (fun W (h : Below ((w.alloc (.cells #[.int .i64 f.kind, .string ⟨f.name.toArray⟩, .int .i64 f.lit, .slice A f.kids.length c] 37)).alloc (.cells #[.int .i64 g.kind, .string ⟨g.name.toArray⟩, .int .i64 g.lit, .slice A' g.kids.length c'] 37)).heap.size ((w.alloc (.cells #[.int .i64 f.kind, .string ⟨f.name.toArray⟩, .int .i64 f.lit, .slice A f.kids.length c] 37)).alloc (.cells #[.int .i64 g.kind, .string ⟨g.name.toArray⟩, .int .i64 g.lit, .slice A' g.kids.length c'] 37)) W) => big_any (g.sz + 1) g (Nat.lt_succ_self _) W W.heap.size A' c' 4000 (hG.after h) (Nat.le_refl _) (by omega) (by omega))
  have HSF := Lib.hid (fun W (h : Below ((w.alloc (.cells #[.int .i64 f.kind, .string ⟨f.name.toArray⟩, .int .i64 f.lit, .slice A f.kids.length c] 37)).alloc (.cells #[.int .i64 g.kind, .string ⟨g.name.toArray⟩, .int .i64 g.lit, .slice A' g.kids.length c'] 37)).heap.size ((w.alloc (.cells #[.int .i64 f.kind, .string ⟨f.name.toArray⟩, .int .i64 f.lit, .slice A f.kids.length c] 37)).alloc (.cells #[.int .i64 g.kind, .string ⟨g.name.toArray⟩, .int .i64 g.lit, .slice A' g.kids.length c'] 37)) W) => lsame_any f A c W (hF.after h))
  have HSG := Lib.hid (fun W (h : Below ((w.alloc (.cells #[.int .i64 f.kind, .string ⟨f.name.toArray⟩, .int .i64 f.lit, .slice A f.kids.length c] 37)).alloc (.cells #[.int .i64 g.kind, .string ⟨g.name.toArray⟩, .int .i64 g.lit, .slice A' g.kids.length c'] 37)).heap.size ((w.alloc (.cells #[.int .i64 f.kind, .string ⟨f.name.toArray⟩, .int .i64 f.lit, .slice A f.kids.length c] 37)).alloc (.cells #[.int .i64 g.kind, .string ⟨g.name.toArray⟩, .int .i64 g.lit, .slice A' g.kids.length c'] 37)) W) => lsame_any g A' c' W (hG.after h))
  have HAW : Hid (∀ W, Below ((w.alloc (.cells #[.int .i64 f.kind, .string ⟨f.name.toArray⟩, .int .i64 f.lit, .slice A f.kids.length c] 37)).alloc (.cells #[.int .i64 g.kind, .string ⟨g.name.toArray⟩, .int .i64 g.lit, .slice A' g.kids.length c'] 37)).heap.size ((w.alloc (.cells #[.int .i64 f.kind, .string ⟨f.name.toArray⟩, .int .i64 f.lit, .slice A f.kids.length c] 37)).alloc (.cells #[.int .i64 g.kind, .string ⟨g.name.toArray⟩, .int .i64 g.lit, .slice A' g.kids.length c'] 37)) W → Calls Tryd.prog 21 #[] W (Ret W (.bool true))) := Lib.hid (fun W _ => awake8_any W)
  have HEF := Lib.hid (fun W (h : Below ((w.alloc (.cells #[.int .i64 f.kind, .string ⟨f.name.toArray⟩, .int .i64 f.lit, .slice A f.kids.length c] 37)).alloc (.cells #[.int .i64 g.kind, .string ⟨g.name.toArray⟩, .int .i64 g.lit, .slice A' g.kids.length c'] 37)).heap.size ((w.alloc (.cells #[.int .i64 f.kind, .string ⟨f.name.toArray⟩, .int .i64 f.lit, .slice A f.kids.length c] 37)).alloc (.cells #[.int .i64 g.kind, .string ⟨g.name.toArray⟩, .int .i64 g.lit, .slice A' g.kids.length c'] 37)) W) => same_any (f.sz + 1) f (Nat.lt_succ_self _) g W W.heap.size A A' c c' (hF.after h) (hG.after h) (Nat.le_refl _))
  have HER := Lib.hid (fun W (h : Below ((w.alloc (.cells #[.int .i64 f.kind, .string ⟨f.name.toArray⟩, .int .i64 f.lit, .slice A f.kids.length c] 37)).alloc (.cells #[.int .i64 g.kind, .string ⟨g.name.toArray⟩, .int .i64 g.lit, .slice A' g.kids.length c'] 37)).heap.size ((w.alloc (.cells #[.int .i64 f.kind, .string ⟨f.name.toArray⟩, .int .i64 f.lit, .slice A f.kids.length c] 37)).alloc (.cells #[.int .i64 g.kind, .string ⟨g.name.toArray⟩, .int .i64 g.lit, .slice A' g.kids.length c'] 37)) W) => rsame_any (f.sz + 1) f (Nat.lt_succ_self _) g W W.heap.size A A' c c' (hF.after h) (hG.after h) (Nat.le_refl _))
  have HSB : Hid (∀ W, Below ((w.alloc (.cells #[.int .i64 f.kind, .string ⟨f.name.toArray⟩, .int .i64 f.lit, .slice A f.kids.length c] 37)).alloc (.cells #[.int .i64 g.kind, .string ⟨g.name.toArray⟩, .int .i64 g.lit, .slice A' g.kids.length c'] 37)).heap.size ((w.alloc (.cells #[.int .i64 f.kind, .string ⟨f.name.toArray⟩, .int .i64 f.lit, .slice A f.kids.length c] 37)).alloc (.cells #[.int .i64 g.kind, .string ⟨g.name.toArray⟩, .int .i64 g.lit, .slice A' g.kids.length c'] 37)) W → (fun W => (W.cell? ⟨w.heap.size, 0, none⟩ = some (.int .i64 f.kind) ∧ W.cell? ⟨w.heap.size, 1, none⟩ = some (.string ⟨f.name.toArray⟩) ∧ W.cell? ⟨w.heap.size, 2, none⟩ = some (.int .i64 f.lit) ∧ W.cell? ⟨w.heap.size, 3, none⟩ = some (.slice A f.kids.length c)) ∧ (W.cell? ⟨w.heap.size + 1, 0, none⟩ = some (.int .i64 g.kind) ∧ W.cell? ⟨w.heap.size + 1, 1, none⟩ = some (.string ⟨g.name.toArray⟩) ∧ W.cell? ⟨w.heap.size + 1, 2, none⟩ = some (.int .i64 g.lit) ∧ W.cell? ⟨w.heap.size + 1, 3, none⟩ = some (.slice A' g.kids.length c'))) W) := Lib.hid fun W h => ⟨⟨(hX.below h (by omega)).cell 0, (hX.below h (by omega)).cell 1, (hX.below h (by omega)).cell 2, (hX.below h (by omega)).cell 3⟩, ⟨(hY.below h (by omega)).cell 0, (hY.below h (by omega)).cell 1, (hY.below h (by omega)).cell 2, (hY.below h (by omega)).cell 3⟩⟩
  have HW0 := Lib.hid (Below.refl ((w.alloc (.cells #[.int .i64 f.kind, .string ⟨f.name.toArray⟩, .int .i64 f.lit, .slice A f.kids.length c] 37)).alloc (.cells #[.int .i64 g.kind, .string ⟨g.name.toArray⟩, .int .i64 g.lit, .slice A' g.kids.length c'] 37)).heap.size ((w.alloc (.cells #[.int .i64 f.kind, .string ⟨f.name.toArray⟩, .int .i64 f.lit, .slice A f.kids.length c] 37)).alloc (.cells #[.int .i64 g.kind, .string ⟨g.name.toArray⟩, .int .i64 g.lit, .slice A' g.kids.length c'] 37)))
  have HSZ := Lib.hid hsz
  clear hf hg hb1 hb2 hX hY hF hG hsz
  unfold fmA at HBF HBG HSF HSG HEF HER ⊢
  generalize f.same g = R at HEF HER
  have hRR : (R == R) = true := by simp
  go_enter Tryd.func7, Tryd.ntmps7
  obtain ⟨⟨e0, e1, e2, e3⟩, ⟨d0, d1, d2, d3⟩⟩ := HSB.out _ HW0.out
  go_wp2_with fail
  refine (HBF.out _ HW0.out).mono ?_
  rintro e w1 ⟨r, rfl, hr1, hr2, hb⟩
  have HW1 := Lib.hid (step2 HW0.out hb)
  clear hb e0 e1 e2 e3 d0 d1 d2 d3
  obtain ⟨⟨e0, e1, e2, e3⟩, ⟨d0, d1, d2, d3⟩⟩ := HSB.out _ HW1.out
  by_cases hr : r < 0
  · go_wp2_with fail
    refine (HAW.out _ HW1.out).mono ?_
    rintro e w2 ⟨rfl, hb⟩
    have HW2 := Lib.hid (step2 HW1.out hb)
    clear hb
    go_wp2_with fail
    go_ret
    exact Ret.mk rfl (step2 HB.out HW2.out)
  · go_wp2_with fail
    refine (HBG.out _ HW1.out).mono ?_
    rintro e w2 ⟨r', rfl, hr3, hr4, hb⟩
    have HW2 := Lib.hid (step2 HW1.out hb)
    clear hb e0 e1 e2 e3 d0 d1 d2 d3
    by_cases hr' : r' < 0
    · go_wp2_with fail
      refine (HAW.out _ HW2.out).mono ?_
      rintro e w3 ⟨rfl, hb⟩
      have HW3 := Lib.hid (step2 HW2.out hb)
      clear hb
      go_wp2_with fail
      go_ret
      exact Ret.mk rfl (step2 HB.out HW3.out)
    · go_wp2_with fail
      refine wp_region_noPanic ?_
      refine wp_region_seq (fun W => (W.cell? ⟨w.heap.size, 0, none⟩ = some (.int .i64 f.kind) ∧ W.cell? ⟨w.heap.size, 1, none⟩ = some (.string ⟨f.name.toArray⟩) ∧ W.cell? ⟨w.heap.size, 2, none⟩ = some (.int .i64 f.lit) ∧ W.cell? ⟨w.heap.size, 3, none⟩ = some (.slice A f.kids.length c)) ∧ (W.cell? ⟨w.heap.size + 1, 0, none⟩ = some (.int .i64 g.kind) ∧ W.cell? ⟨w.heap.size + 1, 1, none⟩ = some (.string ⟨g.name.toArray⟩) ∧ W.cell? ⟨w.heap.size + 1, 2, none⟩ = some (.int .i64 g.lit) ∧ W.cell? ⟨w.heap.size + 1, 3, none⟩ = some (.slice A' g.kids.length c'))) [0, 1, 2, 3, 4, 5, 6, 7, 8, 9, 10, 11, 13, 14, 12, 15, 16, 17, 18] [1, 2, 4, 5, 6, 8, 9, 10, 11, 13, 14, 16, 17, 18] [] (by kernel_rfl) (by kernel_rfl) rfl (by kernel_rfl) (by kernel_rfl) (fun _ _ _ _ _ h => h) ?_ (fun hSS => ?_)
      · exact HSB.out _ (step2 HW2.out (stepD1 _))
      have HW3 := Lib.hid (step2 HW2.out (stepD1 _))
      clear hSS
      generalize w2.drew = w3 at HW3 ⊢
      (refine wpSeq_fix rfl rfl ?_; intro o ho; simp only [List.getElem?_toArray, List.getElem?_cons_zero, List.getElem?_cons_succ, Option.some.injEq] at ho; subst ho; intro K hK)
      go_simp
      refine (HAW.out _ HW3.out).mono ?_
      rintro e w4 ⟨rfl, hb⟩
      have HW4 := Lib.hid (step2 HW3.out hb)
      clear hb
      (refine hK.out _ _ (fun _ => HSB.out _ HW4.out) ?_; clear hK K; try simp only [Act.put, List.setIfInBounds_toArray, List.set_cons_zero, List.set_cons_succ])
      (refine wpSeq_mov rfl rfl ?_; intro o ho; simp only [List.getElem?_toArray, List.getElem?_cons_zero, List.getElem?_cons_succ, Option.some.injEq] at ho; subst ho; refine ⟨?_, Or.inl ⟨by rfl, fun W hSW => ?_⟩, ?_⟩; rotate_left; (focus (go_simp; first | done | with_reducible rfl)); try simp only [Act.put, List.setIfInBounds_toArray, List.set_cons_zero, List.set_cons_succ])
      (refine wpSeq_mov rfl rfl ?_; intro o ho; simp only [List.getElem?_toArray, List.getElem?_cons_zero, List.getElem?_cons_succ, Option.some.injEq] at ho; subst ho; refine ⟨?_, Or.inl ⟨by rfl, fun W hSW => ?_⟩, ?_⟩; rotate_left; (focus (go_simp; first | done | with_reducible rfl)); try simp only [Act.put, List.setIfInBounds_toArray, List.set_cons_zero, List.set_cons_succ])
      (refine wpSeq_fix rfl rfl ?_; intro o ho; simp only [List.getElem?_toArray, List.getElem?_cons_zero, List.getElem?_cons_succ, Option.some.injEq] at ho; subst ho; intro K hK)
      go_simp
      refine (HSF.out _ HW4.out).mono ?_
      rintro e w5 ⟨rfl, hb⟩
      have HW5 := Lib.hid (step2 HW4.out hb)
      clear hb
      (refine hK.out _ _ (fun _ => HSB.out _ HW5.out) ?_; clear hK K; try simp only [Act.put, List.setIfInBounds_toArray, List.set_cons_zero, List.set_cons_succ])
      (refine wpSeq_mov rfl rfl ?_; intro o ho; simp only [List.getElem?_toArray, List.getElem?_cons_zero, List.getElem?_cons_succ, Option.some.injEq] at ho; subst ho; refine ⟨?_, Or.inl ⟨by rfl, fun W hSW => ?_⟩, ?_⟩; rotate_left; (focus (go_simp; first | done | with_reducible rfl)); try simp only [Act.put, List.setIfInBounds_toArray, List.set_cons_zero, List.set_cons_succ])
      (refine wpSeq_mov rfl rfl ?_; intro o ho; simp only [List.getElem?_toArray, List.getElem?_cons_zero, List.getElem?_cons_succ, Option.some.injEq] at ho; subst ho; refine ⟨?_, Or.inl ⟨by rfl, fun W hSW => ?_⟩, ?_⟩; rotate_left; (focus (go_simp; first | done | with_reducible rfl)); try simp only [Act.put, List.setIfInBounds_toArray, List.set_cons_zero, List.set_cons_succ])
      (refine wpSeq_mov rfl rfl ?_; intro o ho; simp only [List.getElem?_toArray, List.getElem?_cons_zero, List.getElem?_cons_succ, Option.some.injEq] at ho; subst ho; refine ⟨?_, Or.inl ⟨by rfl, fun W hSW => ?_⟩, ?_⟩; rotate_left; (focus (go_simp; first | done | with_reducible rfl)); try simp only [Act.put, List.setIfInBounds_toArray, List.set_cons_zero, List.set_cons_succ])
      (refine wpSeq_fix rfl rfl ?_; intro o ho; simp only [List.getElem?_toArray, List.getElem?_cons_zero, List.getElem?_cons_succ, Option.some.injEq] at ho; subst ho; intro K hK)
      go_simp
      refine (HSG.out _ HW5.out).mono ?_
      rintro e w6 ⟨rfl, hb⟩
      have HW6 := Lib.hid (step2 HW5.out hb)
      clear hb
      (refine hK.out _ _ (fun _ => HSB.out _ HW6.out) ?_; clear hK K; try simp only [Act.put, List.setIfInBounds_toArray, List.set_cons_zero, List.set_cons_succ])
      (refine wpSeq_mov rfl rfl ?_; intro o ho; simp only [List.getElem?_toArray, List.getElem?_cons_zero, List.getElem?_cons_succ, Option.some.injEq] at ho; subst ho; refine ⟨?_, Or.inl ⟨by rfl, fun W hSW => ?_⟩, ?_⟩; rotate_left; (focus (go_simp; first | done | with_reducible rfl)); try simp only [Act.put, List.setIfInBounds_toArray, List.set_cons_zero, List.set_cons_succ])
      (refine wpSeq_mov rfl rfl ?_; intro o ho; simp only [List.getElem?_toArray, List.getElem?_cons_zero, List.getElem?_cons_succ, Option.some.injEq] at ho; subst ho; refine ⟨?_, Or.inl ⟨by rfl, fun W hSW => ?_⟩, ?_⟩; rotate_left; (focus (go_simp; first | done | with_reducible rfl)); try simp only [Act.put, List.setIfInBounds_toArray, List.set_cons_zero, List.set_cons_succ])
      (refine wpSeq_mov rfl rfl ?_; intro o ho; simp only [List.getElem?_toArray, List.getElem?_cons_zero, List.getElem?_cons_succ, Option.some.injEq] at ho; subst ho; refine ⟨?_, Or.inl ⟨by rfl, fun W hSW => ?_⟩, ?_⟩; rotate_left; (focus (go_simp; first | done | with_reducible rfl)); try simp only [Act.put, List.setIfInBounds_toArray, List.set_cons_zero, List.set_cons_succ])
      (refine wpSeq_mov rfl rfl ?_; intro o ho; simp only [List.getElem?_toArray, List.getElem?_cons_zero, List.getElem?_cons_succ, Option.some.injEq] at ho; subst ho; refine ⟨?_, Or.inl ⟨by rfl, fun W hSW => ?_⟩, ?_⟩; rotate_left; (focus (go_simp; first | done | with_reducible rfl)); try simp only [Act.put, List.setIfInBounds_toArray, List.set_cons_zero, List.set_cons_succ])
      (refine wpSeq_mov rfl rfl ?_; intro o ho; simp only [List.getElem?_toArray, List.getElem?_cons_zero, List.getElem?_cons_succ, Option.some.injEq] at ho; subst ho; refine ⟨?_, Or.inl ⟨by rfl, fun W hSW => ?_⟩, ?_⟩; rotate_left; (focus (go_simp; first | done | with_reducible rfl)); try simp only [Act.put, List.setIfInBounds_toArray, List.set_cons_zero, List.set_cons_succ])
      (refine wpSeq_mov rfl rfl ?_; intro o ho; simp only [List.getElem?_toArray, List.getElem?_cons_zero, List.getElem?_cons_succ, Option.some.injEq] at ho; subst ho; refine ⟨?_, Or.inl ⟨by rfl, fun W hSW => ?_⟩, ?_⟩; rotate_left; (focus (go_simp; first | done | with_reducible rfl)); try simp only [Act.put, List.setIfInBounds_toArray, List.set_cons_zero, List.set_cons_succ])
      (refine wpSeq_fix rfl rfl ?_; intro o ho; simp only [List.getElem?_toArray, List.getElem?_cons_zero, List.getElem?_cons_succ, Option.some.injEq] at ho; subst ho; intro K hK)
      go_simp
      refine (HEF.out _ HW6.out).mono ?_
      rintro e w7 ⟨rfl, hb⟩
      have HW7 := Lib.hid (step2 HW6.out hb)
      clear hb
      (refine hK.out _ _ (fun _ => HSB.out _ HW7.out) ?_; clear hK K; try simp only [Act.put, List.setIfInBounds_toArray, List.set_cons_zero, List.set_cons_succ])
      (refine wpSeq_fix rfl rfl ?_; intro o ho; simp only [List.getElem?_toArray, List.getElem?_cons_zero, List.getElem?_cons_succ, Option.some.injEq] at ho; subst ho; intro K hK)
      go_simp
      refine (HER.out _ HW7.out).mono ?_
      rintro e w8 ⟨rfl, hb⟩
      have HW8 := Lib.hid (step2 HW7.out hb)
      clear hb
      (refine hK.out _ _ (fun _ => HSB.out _ HW8.out) ?_; clear hK K; try simp only [Act.put, List.setIfInBounds_toArray, List.set_cons_zero, List.set_cons_succ])
      (refine wpSeq_mov rfl rfl ?_; intro o ho; simp only [List.getElem?_toArray, List.getElem?_cons_zero, List.getElem?_cons_succ, Option.some.injEq] at ho; subst ho; refine ⟨?_, Or.inl ⟨by rfl, fun W hSW => ?_⟩, ?_⟩; rotate_left; (focus (go_simp; first | done | with_reducible rfl)); try simp only [Act.put, List.setIfInBounds_toArray, List.set_cons_zero, List.set_cons_succ])
      (refine wpSeq_mov rfl rfl ?_; intro o ho; simp only [List.getElem?_toArray, List.getElem?_cons_zero, List.getElem?_cons_succ, Option.some.injEq] at ho; subst ho; refine ⟨?_, Or.inl ⟨by rfl, fun W hSW => ?_⟩, ?_⟩; rotate_left; (focus (go_simp; first | done | with_reducible rfl)); try simp only [Act.put, List.setIfInBounds_toArray, List.set_cons_zero, List.set_cons_succ])
      (refine wpSeq_mov rfl rfl ?_; intro o ho; simp only [List.getElem?_toArray, List.getElem?_cons_zero, List.getElem?_cons_succ, Option.some.injEq] at ho; subst ho; refine ⟨?_, Or.inl ⟨by rfl, fun W hSW => ?_⟩, ?_⟩; rotate_left; (focus (go_simp; first | done | with_reducible rfl)); try simp only [Act.put, List.setIfInBounds_toArray, List.set_cons_zero, List.set_cons_succ])
      refine wpSeq_done ?_
      go_wp2_with fail
      go_ret
      exact Ret.mk rfl (step2 HB.out HW8.out)
theorem formulaAny_row (f : Fm) (A : Option Addr) (c : Nat) (g : Fm) (A' : Option Addr) (c' : Nat) (w : World) (hf : FmV w w.heap.size f A c) (hg : FmV w w.heap.size g A' c') : Calls Tryd.prog 7 #[fmA f A c, fmA g A' c'] w (Ret w (.bool true)) := formulaAny_any f g A A' c c' w hf hg
end Go.Proofs.YtijecfmblddanaaDoor
