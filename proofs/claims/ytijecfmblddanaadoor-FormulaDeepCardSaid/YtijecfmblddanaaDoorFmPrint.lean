/- Formulas: Print. -/
import Derived.Test.YtijecfmblddanaaDoorFmText
import Derived.Test.YtijecfmblddanaaDoorFmSize
set_option linter.unusedVariables false
set_option linter.unusedSimpArgs false
namespace Go.Proofs.YtijecfmblddanaaDoor
open Go.RowKit Go.Maps

theorem shp_len (k : Int) : (shp k).1.length ≤ 5 ∧ (shp k).2.1.length ≤ 5 ∧ (shp k).2.2.length ≤ 1 := by
  have h : ∀ n : Nat, n < 19 → (shp n).1.length ≤ 5 ∧ (shp n).2.1.length ≤ 5 ∧ (shp n).2.2.length ≤ 1 := by decide
  by_cases hk : 0 ≤ k ∧ k < 19
  · have := h k.toNat (by omega)
    rwa [Int.toNat_of_nonneg hk.1] at this
  · have e : shp k = ([], [], []) := by
      unfold shp
      iterate 17 rw [if_neg (by omega)]
    rw [e]
    decide
theorem part_len (f : Fm) : f.part.length ≤ f.txt.length + 2 := by
  unfold Fm.part parT
  split <;> simp
theorem joinB_len {b : List UInt8} (hb : b.length ≤ 5) : ∀ (l : List Fm), (∀ k ∈ l, k.txt.length + 14 ≤ 36 * k.sz) → (l.flatMap fun k => b ++ k.part).length + 7 * l.length ≤ 36 * szL l
  | [], _ => by simp [szL]
  | f :: l, h => by
    have h1 := h f List.mem_cons_self
    have h2 := joinB_len hb l fun k hk => h k (List.mem_cons_of_mem _ hk)
    have h3 := part_len f
    simp only [List.flatMap_cons, List.length_append, List.length_cons, szL]
    omega
theorem atomT_len (l : List UInt8) : (atomT l).length ≤ l.length + 2 := by
  unfold atomT
  split <;> simp
theorem txt_len : ∀ (n : Nat) (f : Fm), f.sz < n → ∀ d, f.wf d = true → f.txt.length + 14 ≤ 36 * f.sz
  | 0, f, h => by omega
  | n + 1, f, hn => by
    intro d hwf
    obtain ⟨_, _, h3, h4⟩ := wf_parts hwf
    have hp := f.sz_pos
    rw [f.txt_eq]
    by_cases hk : f.kind = 3
    · rw [if_pos hk]
      have hw := h3 hk
      rw [wordB_eq] at hw
      simp only [Bool.and_eq_true, decide_eq_true_eq] at hw
      have := atomT_len f.name
      omega
    · rw [if_neg hk]
      obtain ⟨s1, s2, s3⟩ := shp_len f.kind
      have hs := f.sz_eq
      have hj : (joinB (shp f.kind).2.1 (f.kids.map Fm.part)).length ≤ 36 * szL f.kids := by
        have h5 := joinB_len s2 f.kids fun k hk => txt_len n k (by have := Fm.kid_sz hk; omega) (d - 1) (h4 k hk)
        cases hl : f.kids with
        | nil => simp [joinB, szL]
        | cons a l =>
          rw [hl] at h5
          simp only [List.flatMap_cons, List.length_append, List.length_cons] at h5
          have h6 : joinB (shp f.kind).2.1 ((a :: l).map Fm.part) = a.part ++ l.flatMap fun k => (shp f.kind).2.1 ++ k.part := by
            rw [List.map_cons, joinB, List.flatMap_map]
          rw [h6, List.length_append]
          omega
      simp only [List.length_append]
      omega
theorem ok_txt_len {f : Fm} (h : f.ok = true) : f.txt.length ≤ 72000 := by
  unfold Fm.ok at h
  simp only [Bool.and_eq_true, decide_eq_true_eq] at h
  have := txt_len (f.sz + 1) f (Nat.lt_succ_self _) 60 h.1
  omega
theorem ok_wf {f : Fm} (h : f.ok = true) : f.wf 60 = true := by
  unfold Fm.ok at h
  simp only [Bool.and_eq_true, decide_eq_true_eq] at h
  exact h.1

/-- Print's text and error. -/
def Fm.print (f : Fm) : List UInt8 × Int := if f.ok then (f.txt, 0) else ([], 1)
def printV (p : List UInt8 × Int) : Value := .tuple #[.string ⟨p.1.toArray⟩, .int .i64 p.2]

theorem isB_new (w : World) : IsB w.heap.size w.heap.size [] (w.alloc (.cells #[.pointer none, .slice none 0 0] 63)) :=
  .inl ⟨Nat.le_refl _, .slice none 0 0, Blk.new _ _ _, ⟨rfl, .inl ⟨rfl, rfl⟩⟩, by simp [Value.ownBlock]⟩

set_option maxHeartbeats 1000000 in
theorem print_any (f : Fm) (A : Option Addr) (c : Nat) (w : World) (hf : FmV w w.heap.size f A c) : Calls Tryd.prog 27 #[fmA f A c] w (Ret w (printV f.print)) := by
  have hb1 := stepA w (.cells #[.int .i64 f.kind, .string ⟨f.name.toArray⟩, .int .i64 f.lit, .slice A f.kids.length c] 37)
  have HT := Lib.hid (Blk.new w 37 #[.int .i64 f.kind, .string ⟨f.name.toArray⟩, .int .i64 f.lit, .slice A f.kids.length c])
  have HR := Lib.hid (fright_any f A c _ (hf.after hb1))
  have HP : Hid (f.print = if f.ok then (f.txt, 0) else ([], 1)) := Lib.hid rfl
  have HF := Lib.hid hf
  have HB1 := Lib.hid hb1
  have e0 := HT.out.cell 0
  have e1 := HT.out.cell 1
  have e2 := HT.out.cell 2
  have e3 := HT.out.cell 3
  clear hf hb1
  unfold fmA at HR ⊢
  unfold printV
  cases hok : f.ok with
  | false =>
    rw [hok] at HR HP
    have HPP : Hid (f.print = ([], 1)) := Lib.hid HP.out
    go_enter Tryd.func27, Tryd.ntmps27
    go_wp2_with fail
    refine HR.out.mono ?_
    rintro e w2 ⟨rfl, hb2⟩
    have HB2 := Lib.hid hb2
    clear hb2 hok
    go_wp2_with fail
    go_ret2
    rw [HPP.out]
    exact Ret.mk rfl (step2 HB1.out HB2.out)
  | true =>
    have HTL := Lib.hid (ok_txt_len hok)
    have HWF := Lib.hid (ok_wf hok)
    rw [hok] at HR HP
    have HPP : Hid (f.print = (f.txt, 0)) := Lib.hid HP.out
    go_enter Tryd.func27, Tryd.ntmps27
    go_wp2_with fail
    refine HR.out.mono ?_
    rintro e w2 ⟨rfl, hb2⟩
    have hlt2 : w.heap.size < w2.heap.size := by have := hb2.size; simp at this; omega
    have HT2 := Lib.hid ((HT.out.below hb2 (by simp)).alloc (.cells #[.pointer none, .slice none 0 0] 63))
    have HB2 := Lib.hid (step2 HB1.out hb2)
    have HI2 := Lib.hid (isB_new w2)
    have HB3 := Lib.hid (step2 HB2.out (stepA w2 (.cells #[.pointer none, .slice none 0 0] 63)))
    clear hb2 hok e0 e1 e2 e3
    go_wp2_with fail
    have hss : (w2.alloc (.cells #[.pointer none, .slice none 0 0] 63)).heap.size = w2.heap.size + 1 := World.size_alloc _ _
    obtain ⟨w3, hw3⟩ : ∃ w3, w3 = w2.alloc (.cells #[.pointer none, .slice none 0 0] 63) := ⟨_, rfl⟩
    rw [← hw3] at HT2 HI2 HB3 hss ⊢
    clear hw3
    have HSS := Lib.hid hss
    clear hss
    refine wp_region_noPanic ?_
    refine wp_region_seq (fun W => W.cell? ⟨w.heap.size, 0, none⟩ = some (.int .i64 f.kind) ∧ W.cell? ⟨w.heap.size, 1, none⟩ = some (.string ⟨f.name.toArray⟩) ∧ W.cell? ⟨w.heap.size, 2, none⟩ = some (.int .i64 f.lit) ∧ W.cell? ⟨w.heap.size, 3, none⟩ = some (.slice A f.kids.length c)) [1, 0, 2] [1] [] (by kernel_rfl) (by kernel_rfl) rfl (by kernel_rfl) (by kernel_rfl) (fun _ _ _ _ _ h => h) ?_ (fun hSS => ?_)
    · exact ⟨HT2.out.cell 0, HT2.out.cell 1, HT2.out.cell 2, HT2.out.cell 3⟩
    (refine wpSeq_mov rfl rfl ?_; intro o ho; simp only [List.getElem?_toArray, List.getElem?_cons_zero, List.getElem?_cons_succ, Option.some.injEq] at ho; subst ho; refine ⟨?_, Or.inl ⟨by rfl, fun W hSW => ?_⟩, ?_⟩; rotate_left; (focus (go_simp; first | done | with_reducible rfl)); try simp only [Act.put, List.setIfInBounds_toArray, List.set_cons_zero, List.set_cons_succ])
    (refine wpSeq_fix rfl rfl ?_; intro o ho; simp only [List.getElem?_toArray, List.getElem?_cons_zero, List.getElem?_cons_succ, Option.some.injEq] at ho; subst ho; intro K hK)
    go_simp
    refine (shapes_any _).mono ?_
    rintro e w4 ⟨rfl, hm, hb4⟩
    have hd : Below w3.heap.size w3 w3.drew := stepD1 w3
    have hb34 := step2 hd hb4
    have HT4 := Lib.hid (HT2.out.below hb34 (by have := HSS.out; omega))
    have HW4 := Lib.hid ((Wr.of HI2.out).after (by have := HSS.out; omega) hb34)
    have HM4 : Hid (IMap Tryd.prog 3 w4 w3.heap.size 17 shapeF) := Lib.hid hm
    have HB4 := Lib.hid (step2 HB3.out hb34)
    have HF4 := Lib.hid ((HF.out.low HB4.out).more (show w.heap.size ≤ w2.heap.size by omega))
    have hs4 := hb34.size
    rw [HSS.out] at hs4
    have HS4 := Lib.hid hs4
    clear hm hb4 hd hb34 hs4
    (refine hK.out _ _ (fun _ => ⟨HT4.out.cell 0, HT4.out.cell 1, HT4.out.cell 2, HT4.out.cell 3⟩) ?_; clear hK K; try simp only [Act.put, List.setIfInBounds_toArray, List.set_cons_zero, List.set_cons_succ])
    (refine wpSeq_fix rfl rfl ?_; intro o ho; simp only [List.getElem?_toArray, List.getElem?_cons_zero, List.getElem?_cons_succ, Option.some.injEq] at ho; subst ho; intro K hK)
    go_simp
    refine (text_any (f.sz + 1) f (Nat.lt_succ_self _) 60 HWF.out w4 w3.heap.size w2.heap.size w2.heap.size [] A c HM4.out (by have := HSS.out; omega) HW4.out.isB (by have := HS4.out; omega) HF4.out (by have := HTL.out; simp; omega)).mono ?_
    rintro e w5 ⟨rfl, h5⟩
    have HW5 := Lib.hid (HW4.out.step h5)
    clear h5
    have HT5 := Lib.hid (HT2.out.below HW5.out.low (by omega))
    (refine hK.out _ _ (fun _ => ⟨HT5.out.cell 0, HT5.out.cell 1, HT5.out.cell 2, HT5.out.cell 3⟩) ?_; clear hK K; try simp only [Act.put, List.setIfInBounds_toArray, List.set_cons_zero, List.set_cons_succ])
    refine wpSeq_done ?_
    have HB5 := Lib.hid (HB2.out.trans ((stepA w2 (.cells #[.pointer none, .slice none 0 0] 63)).mono (by omega)))
    have hlow := HW5.out.low
    have hs5 := hlow.size
    have HLO := Lib.hid (HB3.out.trans (hlow.mono (by omega)))
    go_wp2_with fail
    refine (string_any w2.heap.size w2.heap.size ([] ++ f.txt) w5 HW5.out.isB (by have := HSS.out; omega)).mono ?_
    rintro e w6 ⟨rfl, hb6⟩
    have HB6 := Lib.hid (HLO.out.trans (hb6.mono (by omega)))
    clear hb6
    go_wp2_with fail
    go_ret2
    rw [HPP.out]
    exact Ret.mk rfl HB6.out
end Go.Proofs.YtijecfmblddanaaDoor
