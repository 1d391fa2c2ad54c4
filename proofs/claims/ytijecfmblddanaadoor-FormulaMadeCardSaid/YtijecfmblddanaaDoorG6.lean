/- Formulas: Size, Right. Formulas: Print. Formulas: the document's text and part. Formulas: the document's Right, Size, Print. Formulas, the statements' same. Formulas: Same. -/
import Derived.Test.YtijecfmblddanaaDoorG3
import Derived.Test.YtijecfmblddanaaDoorG5
import Derived.Test.YtijecfmblddanaaDoorG1
import Derived.RangeFuncBound
import Derived.Shelf.Abstract
import Derived.Lib.Strings
import Derived.WalkLawsBesides
import Derived.Test.YtijecfmblddanaaDoorG2
import Derived.Test.YtijecfmblddanaaDoorProg
set_option linter.unusedVariables false
set_option linter.unusedSimpArgs false
namespace Go.Proofs.YtijecfmblddanaaDoor
open Go.RowKit Go.Maps

set_option maxHeartbeats 1000000 in
theorem size_any (f : Fm) (A : Option Addr) (c : Nat) (w : World) (hf : FmV w w.heap.size f A c) : Calls Tryd.prog 28 #[fmA f A c] w (Ret w (.int .i64 (f.size : Int))) := by
  have HF := Lib.hid hf
  have HSZ : Hid (f.size = if f.wf 60 && decide (0 + (f.sz : Int) ≤ 2000) then f.sz else 0) := Lib.hid (by
    unfold Fm.size Fm.ok
    rw [show decide (0 + (f.sz : Int) ≤ 2000) = decide (f.sz ≤ 2000) from by rw [decide_eq_decide]; omega])
  have hb1 := stepA w (.cells #[.int .i64 f.kind, .string ⟨f.name.toArray⟩, .int .i64 f.lit, .slice A f.kids.length c] 37)
  have HT := Lib.hid (Blk.new w 37 #[.int .i64 f.kind, .string ⟨f.name.toArray⟩, .int .i64 f.lit, .slice A f.kids.length c])
  have HB1 := Lib.hid hb1
  clear hf hb1
  unfold fmA
  go_enter Tryd.func28, Tryd.ntmps28
  go_wp2_with fail
  refine (shapes_any _).mono ?_
  rintro e w2 ⟨rfl, hm, hb2⟩
  have hlt2 : w.heap.size < w2.heap.size := by have := hb2.size; simp at this; omega
  have HT2 := HT.out.below hb2 (by simp)
  have c0 : w2.cell? ⟨w.heap.size, 0, none⟩ = some (.int .i64 f.kind) := HT2.cell 0
  have c1 : w2.cell? ⟨w.heap.size, 1, none⟩ = some (.string ⟨f.name.toArray⟩) := HT2.cell 1
  have c2 : w2.cell? ⟨w.heap.size, 2, none⟩ = some (.int .i64 f.lit) := HT2.cell 2
  have c3 : w2.cell? ⟨w.heap.size, 3, none⟩ = some (.slice A f.kids.length c) := HT2.cell 3
  have hmlt := hm.lt
  have HM := Lib.hid (hm.alloc (.cells #[.map (some (w.alloc (.cells #[.int .i64 f.kind, .string ⟨f.name.toArray⟩, .int .i64 f.lit, .slice A f.kids.length c] 37)).heap.size), .int .i64 0] 70))
  have HB2 := Lib.hid (step2 (step2 HB1.out hb2) (stepA w2 (.cells #[.map (some (w.alloc (.cells #[.int .i64 f.kind, .string ⟨f.name.toArray⟩, .int .i64 f.lit, .slice A f.kids.length c] 37)).heap.size), .int .i64 0] 70)))
  simp only [World.size_alloc] at HM HB2 hmlt
  clear hm hb2 HT2
  go_wp2_with fail
  refine (right_any (f.sz + 1) f (Nat.lt_succ_self _) _ w2.heap.size (w.heap.size + 1) w.heap.size 0 60 A c (Blk.new _ _ _) HM.out (by omega) (HF.out.low HB2.out) (by omega) (by omega) (by omega) (by omega) (by omega)).mono ?_
  rintro e w3 ⟨m1, rfl, hP⟩
  have p1 := hP.blk.cell 1
  have HP := Lib.hid hP
  have HG := Lib.hid (HB2.out.grown hP.grown HB2.out.size (fun k e => by cases e; omega))
  clear hP
  cases hres : (f.wf 60 && decide (0 + (f.sz : Int) ≤ 2000)) with
  | true =>
    have HE : Hid (m1 = (f.size : Int)) := Lib.hid (by
      rw [HSZ.out, hres, if_pos rfl, HP.out.eq hres]
      omega)
    clear hres
    go_wp2_with fail
    go_ret
    exact Ret.mk (by rw [HE.out]; rfl) HG.out
  | false =>
    have HE : Hid (f.size = 0) := Lib.hid (by rw [HSZ.out, hres]; rfl)
    clear hres
    go_wp2_with fail
    go_ret
    exact Ret.mk (by rw [HE.out]; rfl) HG.out

theorem size_pos (f : Fm) : decide (0 < f.size) = f.ok := by
  unfold Fm.size
  have := f.sz_pos
  cases f.ok <;> simp [this]

set_option maxHeartbeats 1000000 in
theorem fright_any (f : Fm) (A : Option Addr) (c : Nat) (w : World) (hf : FmV w w.heap.size f A c) : Calls Tryd.prog 36 #[fmA f A c] w (Ret w (.bool f.ok)) := by
  have HF := Lib.hid hf
  have hb1 := stepA w (.cells #[.int .i64 f.kind, .string ⟨f.name.toArray⟩, .int .i64 f.lit, .slice A f.kids.length c] 37)
  have HS := Lib.hid (size_any f A c _ (hf.after hb1))
  have HP := Lib.hid (size_pos f)
  have HB1 := Lib.hid hb1
  clear hf hb1
  unfold fmA at HS ⊢
  generalize f.size = n at HS HP
  go_enter Tryd.func36, Tryd.ntmps36
  go_wp2_with fail
  refine HS.out.mono ?_
  rintro e w2 ⟨rfl, hb2⟩
  have HB2 := Lib.hid hb2
  clear hb2
  go_wp2_with fail
  go_ret
  refine Ret.mk (by rw [← HP.out]; first | rfl | (congr 1; rw [decide_eq_decide]; omega)) (step2 HB1.out HB2.out)
end Go.Proofs.YtijecfmblddanaaDoor

set_option linter.unusedVariables false
set_option linter.unusedSimpArgs false
namespace Go.Proofs.YtijecfmblddanaaDoor
open Go.RowKit Go.Maps

theorem shp_len (k : Int) : (shp k).1.length ≤ 5 ∧ (shp k).2.1.length ≤ 5 ∧ (shp k).2.2.length ≤ 1 := by
  have h : ∀ n : Nat, n < 19 → (shp n).1.length ≤ 5 ∧ (shp n).2.1.length ≤ 5 ∧ (shp n).2.2.length ≤ 1 := by decide
  by_cases hk : 0 ≤ k ∧ k < 19
  · have := h k.toNat (by omega)
    rwa [Int.toNat_of_nonneg hk.1] at this
  · have e : shp k = ([], [], []) := by
      unfold shp
      iterate 17 rw [if_neg (by omega)]
    rw [e]
    decide
theorem part_len (f : Fm) : f.part.length ≤ f.txt.length + 2 := by
  unfold Fm.part parT
  split <;> simp
theorem joinB_len {b : List UInt8} (hb : b.length ≤ 5) : ∀ (l : List Fm), (∀ k ∈ l, k.txt.length + 14 ≤ 36 * k.sz) → (l.flatMap fun k => b ++ k.part).length + 7 * l.length ≤ 36 * szL l
  | [], _ => by simp [szL]
  | f :: l, h => by
    have h1 := h f List.mem_cons_self
    have h2 := joinB_len hb l fun k hk => h k (List.mem_cons_of_mem _ hk)
    have h3 := part_len f
    simp only [List.flatMap_cons, List.length_append, List.length_cons, szL]
    omega
theorem atomT_len (l : List UInt8) : (atomT l).length ≤ l.length + 2 := by
  unfold atomT
  split <;> simp
theorem txt_len : ∀ (n : Nat) (f : Fm), f.sz < n → ∀ d, f.wf d = true → f.txt.length + 14 ≤ 36 * f.sz
  | 0, f, h => by omega
  | n + 1, f, hn => by
    intro d hwf
    obtain ⟨_, _, h3, h4⟩ := wf_parts hwf
    have hp := f.sz_pos
    rw [f.txt_eq]
    by_cases hk : f.kind = 3
    · rw [if_pos hk]
      have hw := h3 hk
      rw [wordB_eq] at hw
      simp only [Bool.and_eq_true, decide_eq_true_eq] at hw
      have := atomT_len f.name
      omega
    · rw [if_neg hk]
      obtain ⟨s1, s2, s3⟩ := shp_len f.kind
      have hs := f.sz_eq
      have hj : (joinB (shp f.kind).2.1 (f.kids.map Fm.part)).length ≤ 36 * szL f.kids := by
        have h5 := joinB_len s2 f.kids fun k hk => txt_len n k (by have := Fm.kid_sz hk; omega) (d - 1) (h4 k hk)
        cases hl : f.kids with
        | nil => simp [joinB, szL]
        | cons a l =>
          rw [hl] at h5
          simp only [List.flatMap_cons, List.length_append, List.length_cons] at h5
          have h6 : joinB (shp f.kind).2.1 ((a :: l).map Fm.part) = a.part ++ l.flatMap fun k => (shp f.kind).2.1 ++ k.part := by
            rw [List.map_cons, joinB, List.flatMap_map]
          rw [h6, List.length_append]
          omega
      simp only [List.length_append]
      omega
theorem ok_txt_len {f : Fm} (h : f.ok = true) : f.txt.length ≤ 72000 := by
  unfold Fm.ok at h
  simp only [Bool.and_eq_true, decide_eq_true_eq] at h
  have := txt_len (f.sz + 1) f (Nat.lt_succ_self _) 60 h.1
  omega
theorem ok_wf {f : Fm} (h : f.ok = true) : f.wf 60 = true := by
  unfold Fm.ok at h
  simp only [Bool.and_eq_true, decide_eq_true_eq] at h
  exact h.1

/-- Print's text and error. -/
def Fm.print (f : Fm) : List UInt8 × Int := if f.ok then (f.txt, 0) else ([], 1)
def printV (p : List UInt8 × Int) : Value := .tuple #[.string ⟨p.1.toArray⟩, .int .i64 p.2]

theorem isB_new (w : World) : IsB w.heap.size w.heap.size [] (w.alloc (.cells #[.pointer none, .slice none 0 0] 63)) :=
  .inl ⟨Nat.le_refl _, .slice none 0 0, Blk.new _ _ _, ⟨rfl, .inl ⟨rfl, rfl⟩⟩, by simp [Value.ownBlock]⟩

set_option maxHeartbeats 1000000 in
theorem print_any (f : Fm) (A : Option Addr) (c : Nat) (w : World) (hf : FmV w w.heap.size f A c) : Calls Tryd.prog 27 #[fmA f A c] w (Ret w (printV f.print)) := by
  have hb1 := stepA w (.cells #[.int .i64 f.kind, .string ⟨f.name.toArray⟩, .int .i64 f.lit, .slice A f.kids.length c] 37)
  have HT := Lib.hid (Blk.new w 37 #[.int .i64 f.kind, .string ⟨f.name.toArray⟩, .int .i64 f.lit, .slice A f.kids.length c])
  have HR := Lib.hid (fright_any f A c _ (hf.after hb1))
  have HP : Hid (f.print = if f.ok then (f.txt, 0) else ([], 1)) := Lib.hid rfl
  have HF := Lib.hid hf
  have HB1 := Lib.hid hb1
  have e0 := HT.out.cell 0
  have e1 := HT.out.cell 1
  have e2 := HT.out.cell 2
  have e3 := HT.out.cell 3
  clear hf hb1
  unfold fmA at HR ⊢
  unfold printV
  cases hok : f.ok with
  | false =>
    rw [hok] at HR HP
    have HPP : Hid (f.print = ([], 1)) := Lib.hid HP.out
    go_enter Tryd.func27, Tryd.ntmps27
    go_wp2_with fail
    refine HR.out.mono ?_
    rintro e w2 ⟨rfl, hb2⟩
    have HB2 := Lib.hid hb2
    clear hb2 hok
    go_wp2_with fail
    go_ret2
    rw [HPP.out]
    exact Ret.mk rfl (step2 HB1.out HB2.out)
  | true =>
    have HTL := Lib.hid (ok_txt_len hok)
    have HWF := Lib.hid (ok_wf hok)
    rw [hok] at HR HP
    have HPP : Hid (f.print = (f.txt, 0)) := Lib.hid HP.out
    go_enter Tryd.func27, Tryd.ntmps27
    go_wp2_with fail
    refine HR.out.mono ?_
    rintro e w2 ⟨rfl, hb2⟩
    have hlt2 : w.heap.size < w2.heap.size := by have := hb2.size; simp at this; omega
    have HT2 := Lib.hid ((HT.out.below hb2 (by simp)).alloc (.cells #[.pointer none, .slice none 0 0] 63))
    have HB2 := Lib.hid (step2 HB1.out hb2)
    have HI2 := Lib.hid (isB_new w2)
    have HB3 := Lib.hid (step2 HB2.out (stepA w2 (.cells #[.pointer none, .slice none 0 0] 63)))
    clear hb2 hok e0 e1 e2 e3
    go_wp2_with fail
    have hss : (w2.alloc (.cells #[.pointer none, .slice none 0 0] 63)).heap.size = w2.heap.size + 1 := World.size_alloc _ _
    obtain ⟨w3, hw3⟩ : ∃ w3, w3 = w2.alloc (.cells #[.pointer none, .slice none 0 0] 63) := ⟨_, rfl⟩
    rw [← hw3] at HT2 HI2 HB3 hss ⊢
    clear hw3
    have HSS := Lib.hid hss
    clear hss
    refine wp_region_noPanic ?_
    refine wp_region_seq (fun W => W.cell? ⟨w.heap.size, 0, none⟩ = some (.int .i64 f.kind) ∧ W.cell? ⟨w.heap.size, 1, none⟩ = some (.string ⟨f.name.toArray⟩) ∧ W.cell? ⟨w.heap.size, 2, none⟩ = some (.int .i64 f.lit) ∧ W.cell? ⟨w.heap.size, 3, none⟩ = some (.slice A f.kids.length c)) [1, 0, 2] [1] [] (by kernel_rfl) (by kernel_rfl) rfl (by kernel_rfl) (by kernel_rfl) (fun _ _ _ _ _ h => h) ?_ (fun hSS => ?_)
    · exact ⟨HT2.out.cell 0, HT2.out.cell 1, HT2.out.cell 2, HT2.out.cell 3⟩
    (refine wpSeq_mov rfl rfl ?_; intro o ho; simp only [List.getElem?_toArray, List.getElem?_cons_zero, List.getElem?_cons_succ, Option.some.injEq] at ho; subst ho; refine ⟨?_, Or.inl ⟨by rfl, fun W hSW => ?_⟩, ?_⟩; rotate_left; (focus (go_simp; first | done | with_reducible rfl)); try simp only [Act.put, List.setIfInBounds_toArray, List.set_cons_zero, List.set_cons_succ])
    (refine wpSeq_fix rfl rfl ?_; intro o ho; simp only [List.getElem?_toArray, List.getElem?_cons_zero, List.getElem?_cons_succ, Option.some.injEq] at ho; subst ho; intro K hK)
    go_simp
    refine (shapes_any _).mono ?_
    rintro e w4 ⟨rfl, hm, hb4⟩
    have hd : Below w3.heap.size w3 w3.drew := stepD1 w3
    have hb34 := step2 hd hb4
    have HT4 := Lib.hid (HT2.out.below hb34 (by have := HSS.out; omega))
    have HW4 := Lib.hid ((Wr.of HI2.out).after (by have := HSS.out; omega) hb34)
    have HM4 : Hid (IMap Tryd.prog 3 w4 w3.heap.size 17 shapeF) := Lib.hid hm
    have HB4 := Lib.hid (step2 HB3.out hb34)
    have HF4 := Lib.hid ((HF.out.low HB4.out).more (show w.heap.size ≤ w2.heap.size by omega))
    have hs4 := hb34.size
    rw [HSS.out] at hs4
    have HS4 := Lib.hid hs4
    clear hm hb4 hd hb34 hs4
    (refine hK.out _ _ (fun _ => ⟨HT4.out.cell 0, HT4.out.cell 1, HT4.out.cell 2, HT4.out.cell 3⟩) ?_; clear hK K; try simp only [Act.put, List.setIfInBounds_toArray, List.set_cons_zero, List.set_cons_succ])
    (refine wpSeq_fix rfl rfl ?_; intro o ho; simp only [List.getElem?_toArray, List.getElem?_cons_zero, List.getElem?_cons_succ, Option.some.injEq] at ho; subst ho; intro K hK)
    go_simp
    refine (text_any (f.sz + 1) f (Nat.lt_succ_self _) 60 HWF.out w4 w3.heap.size w2.heap.size w2.heap.size [] A c HM4.out (by have := HSS.out; omega) HW4.out.isB (by have := HS4.out; omega) HF4.out (by have := HTL.out; simp; omega)).mono ?_
    rintro e w5 ⟨rfl, h5⟩
    have HW5 := Lib.hid (HW4.out.step h5)
    clear h5
    have HT5 := Lib.hid (HT2.out.below HW5.out.low (by omega))
    (refine hK.out _ _ (fun _ => ⟨HT5.out.cell 0, HT5.out.cell 1, HT5.out.cell 2, HT5.out.cell 3⟩) ?_; clear hK K; try simp only [Act.put, List.setIfInBounds_toArray, List.set_cons_zero, List.set_cons_succ])
    refine wpSeq_done ?_
    have HB5 := Lib.hid (HB2.out.trans ((stepA w2 (.cells #[.pointer none, .slice none 0 0] 63)).mono (by omega)))
    have hlow := HW5.out.low
    have hs5 := hlow.size
    have HLO := Lib.hid (HB3.out.trans (hlow.mono (by omega)))
    go_wp2_with fail
    refine (string_any w2.heap.size w2.heap.size ([] ++ f.txt) w5 HW5.out.isB (by have := HSS.out; omega)).mono ?_
    rintro e w6 ⟨rfl, hb6⟩
    have HB6 := Lib.hid (HLO.out.trans (hb6.mono (by omega)))
    clear hb6
    go_wp2_with fail
    go_ret2
    rw [HPP.out]
    exact Ret.mk rfl HB6.out
end Go.Proofs.YtijecfmblddanaaDoor

set_option linter.unusedVariables false
set_option linter.unusedSimpArgs false
namespace Go.Proofs.YtijecfmblddanaaDoor
open Go.RowKit Go.Maps

/-- A text comes back. -/
def RetS (w : World) (l : List UInt8) (e : Ending) (w' : World) : Prop := ∃ t : ByteArray, e = .returned (.string t) ∧ t.data.toList = l ∧ Below w.heap.size w w'
theorem ba_size (t : ByteArray) : t.size = t.data.toList.length := Array.length_toList.symm

set_option maxHeartbeats 1000000 in
theorem rpart_of (f : Fm) (w : World) (B : Nat) (A : Option Addr) (c : Nat) (hlen : f.txt.length ≤ 100000) (hf : FmV w B f A c) (hB : B ≤ w.heap.size) (hT : ∀ W, FmV W B f A c → B ≤ W.heap.size → Calls Tryd.prog 57 #[fmA f A c] W (RetS W f.txt)) :
    Calls Tryd.prog 76 #[fmA f A c] w (RetS w f.part) := by
  have hb1 := stepA w (.cells #[.int .i64 f.kind, .string ⟨f.name.toArray⟩, .int .i64 f.lit, .slice A f.kids.length c] 37)
  have HC := Lib.hid (hT _ (hf.low (hb1.mono hB)) (by have := hb1.size; omega))
  have HB1 := Lib.hid hb1
  have hk1 := hf.kind.1
  have hk2 := hf.kind.2
  clear hb1 hT hf
  unfold fmA at HC ⊢
  by_cases hin : 5 ≤ f.kind ∧ f.kind ≤ 8
  · have HP : Hid (f.part = 40 :: (f.txt ++ [41])) := Lib.hid (by unfold Fm.part parT; rw [if_pos hin])
    obtain ⟨h5, h8⟩ := hin
    go_enter Tryd.func76, Tryd.ntmps76
    go_wp2_with fail
    refine HC.out.mono ?_
    rintro e w2 ⟨t, rfl, ht, hb2⟩
    have hts : t.size ≤ 100000 := by rw [ba_size, ht]; exact hlen
    have HT := Lib.hid ht
    have HB2 := Lib.hid hb2
    clear ht hb2
    go_wp2_with fail
    go_ret
    refine ⟨_, rfl, ?_, step2 HB1.out HB2.out⟩
    rw [HP.out, ← HT.out]
    simp
  · have HP : Hid (f.part = f.txt) := Lib.hid (by unfold Fm.part parT; rw [if_neg hin])
    rcases (show f.kind < 5 ∨ (5 ≤ f.kind ∧ 8 < f.kind) by omega) with h5 | ⟨h5, h8⟩
    all_goals
      clear hin
      go_enter Tryd.func76, Tryd.ntmps76
      go_wp2_with fail
      refine HC.out.mono ?_
      rintro e w2 ⟨t, rfl, ht, hb2⟩
      have HT := Lib.hid ht
      have HB2 := Lib.hid hb2
      clear ht hb2
      go_wp2_with fail
      go_ret
      refine ⟨_, rfl, ?_, step2 HB1.out HB2.out⟩
      rw [HP.out, ← HT.out]

theorem kids_one {f : Fm} (h : (f.kids.length : Int) = 1) : ∃ k, f.kids = [k] := by
  match hk : f.kids, h with
  | [k], _ => exact ⟨k, rfl⟩
  | [], h => simp at h
  | _ :: _ :: _, h => simp at h; omega
theorem kids_two {f : Fm} (h : (f.kids.length : Int) = 2) : ∃ k j, f.kids = [k, j] := by
  match hk : f.kids, h with
  | [k, j], _ => exact ⟨k, j, rfl⟩
  | [], h => simp at h
  | [_], h => simp at h
  | _ :: _ :: _ :: _, h => simp at h; omega
-- rtext
set_option maxRecDepth 100000 in
set_option maxHeartbeats 4000000 in
theorem rtext_any : ∀ (n : Nat) (f : Fm), f.sz < n → ∀ (d : Int), f.wf d = true → f.sz ≤ 2000 → ∀ (w : World) (B : Nat) (A : Option Addr) (c : Nat), FmV w B f A c → B ≤ w.heap.size → Calls Tryd.prog 57 #[fmA f A c] w (RetS w f.txt)
  | 0, f, h => by omega
  | n + 1, f, hn => by
    intro d hwf hbig w B A c hf hB
    obtain ⟨⟨hk1, hk18⟩, hkn, hkw, hkk⟩ := wf_parts hwf
    have hb1 := stepA w (.cells #[.int .i64 f.kind, .string ⟨f.name.toArray⟩, .int .i64 f.lit, .slice A f.kids.length c] 37)
    have HX := Lib.hid (Blk.new w 37 #[.int .i64 f.kind, .string ⟨f.name.toArray⟩, .int .i64 f.lit, .slice A f.kids.length c])
    have HB1 := Lib.hid hb1
    have HF := Lib.hid hf
    have e0 := HX.out.cell 0
    have e1 := HX.out.cell 1
    have e3 := HX.out.cell 3
    have HKID : Hid (∀ k, k ∈ f.kids → ∀ (Ak : Option Addr) (ck : Nat), FmV w B k Ak ck → ∀ W, Below w.heap.size w W → Calls Tryd.prog 76 #[fmA k Ak ck] W (RetS W k.part)) := Lib.hid fun k hk Ak ck hv W hW => by
      have h1 := Fm.kid_sz hk
      have h2 := txt_len (k.sz + 1) k (Nat.lt_succ_self _) _ (hkk k hk)
      exact rpart_of k W B Ak ck (by omega) (hv.low (hW.mono hB)) (by have := hW.size; omega) fun W' hv' hB' => rtext_any n k (by omega) _ (hkk k hk) (by omega) W' B Ak ck hv' hB'
    have HKL : Hid (∀ k, k ∈ f.kids → k.part.length ≤ 100000) := Lib.hid fun k hk => by
      have h1 := Fm.kid_sz hk
      have h2 := txt_len (k.sz + 1) k (Nat.lt_succ_self _) _ (hkk k hk)
      have h3 := part_len k
      omega
    clear hb1 hkk hwf hn hbig
    unfold fmA
    by_cases h1 : f.kind = 1
    · have HTX : Hid (f.txt = [102, 97, 108, 115, 101]) := Lib.hid (by
        rw [f.txt_eq, h1, if_neg (by decide), show f.kids = [] from List.eq_nil_of_length_eq_zero (by rw [h1] at hkn; have : nk 1 = 0 := rfl; omega)]
        rfl)
      have h1' : (f.kind == 1) = true := by simp [h1]
      clear h1
      go_enter Tryd.func57, Tryd.ntmps57
      go_wp2_with fail
      go_ret
      exact ⟨_, rfl, HTX.out.symm, HB1.out⟩
    have h1' : (f.kind == 1) = false := by simpa using h1
    by_cases h2 : f.kind = 2
    · have HTX : Hid (f.txt = [116, 114, 117, 101]) := Lib.hid (by
        rw [f.txt_eq, h2, if_neg (by decide), show f.kids = [] from List.eq_nil_of_length_eq_zero (by rw [h2] at hkn; have : nk 2 = 0 := rfl; omega)]
        rfl)
      have h2' : (f.kind == 2) = true := by simp [h2]
      clear h1 h2
      go_enter Tryd.func57, Tryd.ntmps57
      go_wp2_with fail
      go_ret
      exact ⟨_, rfl, HTX.out.symm, HB1.out⟩
    have h2' : (f.kind == 2) = false := by simpa using h2
    by_cases h3 : f.kind = 3
    · have HTX : Hid (f.txt = if plainB f.name then f.name else 34 :: (f.name ++ [34])) := Lib.hid (by rw [f.txt_eq, if_pos h3]; rfl)
      have hnm : f.name.length ≤ 140737488355328 := HF.out.name
      have HPL := Lib.hid (fun W => plain_any ⟨f.name.toArray⟩ (by show f.name.toArray.size ≤ _; rw [List.size_toArray]; omega) W)
      have h3' : (f.kind == 3) = true := by simp [h3]
      have HXB := Lib.hid (fun W (h : Below (w.alloc (.cells #[.int .i64 f.kind, .string ⟨f.name.toArray⟩, .int .i64 f.lit, .slice A f.kids.length c] 37)).heap.size (w.alloc (.cells #[.int .i64 f.kind, .string ⟨f.name.toArray⟩, .int .i64 f.lit, .slice A f.kids.length c] 37)) W) => (HX.out.below h (by simp)).cell 0)
      have HXC := Lib.hid (fun W (h : Below (w.alloc (.cells #[.int .i64 f.kind, .string ⟨f.name.toArray⟩, .int .i64 f.lit, .slice A f.kids.length c] 37)).heap.size (w.alloc (.cells #[.int .i64 f.kind, .string ⟨f.name.toArray⟩, .int .i64 f.lit, .slice A f.kids.length c] 37)) W) => (HX.out.below h (by simp)).cell 1)
      clear h1 h2 h3 hkn hkw
      generalize plainB f.name = pp at HTX HPL
      cases pp with
      | true =>
        go_enter Tryd.func57, Tryd.ntmps57
        go_wp2_with fail
        refine (HPL.out _).mono ?_
        rintro e w2 ⟨rfl, hb2⟩
        have x0 := HXB.out w2 hb2
        have x1 := HXC.out w2 hb2
        have HB2 := Lib.hid (step2 HB1.out hb2)
        clear hb2
        go_wp2_with fail
        go_ret
        exact ⟨_, rfl, HTX.out.symm, HB2.out⟩
      | false =>
        go_enter Tryd.func57, Tryd.ntmps57
        go_wp2_with fail
        refine (HPL.out _).mono ?_
        rintro e w2 ⟨rfl, hb2⟩
        have x0 := HXB.out w2 hb2
        have x1 := HXC.out w2 hb2
        have HB2 := Lib.hid (step2 HB1.out hb2)
        clear hb2
        go_wp2_with fail
        go_ret
        refine ⟨_, rfl, ?_, HB2.out⟩
        rw [HTX.out]
        simp
    have h3' : (f.kind == 3) = false := by simpa using h3
    have HTX : Hid (f.txt = (shp f.kind).1 ++ (joinB (shp f.kind).2.1 (f.kids.map Fm.part) ++ (shp f.kind).2.2)) := Lib.hid (by rw [f.txt_eq, if_neg h3])
    by_cases h4 : f.kind = 4
    · have h4' : (f.kind == 4) = true := by simp [h4]
      obtain ⟨k, hks⟩ := kids_one (f := f) (by rw [h4] at hkn; exact hkn)
      have hmk : k ∈ f.kids := by rw [hks]; exact List.mem_singleton.2 rfl
      obtain ⟨q, o, Ak, ck, rfl, hq, ⟨q0, q1, q2, q3⟩, hkv⟩ := (HF.out.kids.low (HB1.out.mono hB)).v (show f.kids[0]? = some k by rw [hks]; rfl)
      have hkv2 : FmV w B k Ak ck := by
        obtain ⟨q', o', A2, c2, e', _, ⟨_, _, _, p3⟩, hv⟩ := HF.out.kids.v (show f.kids[0]? = some k by rw [hks]; rfl)
        cases e'
        have := (bcell (HB1.out.mono hB)).1 q (o + 0 * 4 + 3) (by omega)
        rw [q3, p3] at this
        cases this
        exact hv
      have HC := Lib.hid (HKID.out k hmk Ak ck hkv2 _ HB1.out)
      have HL := Lib.hid (HKL.out k hmk)
      have HT4 : Hid (f.txt = 33 :: k.part) := Lib.hid (by rw [HTX.out, hks, h4]; simp [shp, joinB])
      have hlen : (0 : Int) < (f.kids.length : Int) := by rw [hks]; simp
      clear h1 h2 h3 h4 hkn hkw hkv hkv2 hmk hks
      unfold fmA at HC
      simp only [Nat.zero_mul, Nat.add_zero] at q0 q1 q2 q3
      go_enter Tryd.func57, Tryd.ntmps57
      go_wp2_with fail
      refine HC.out.mono ?_
      rintro e w2 ⟨t, rfl, ht, hb2⟩
      have hts : t.size ≤ 100000 := by rw [ba_size, ht]; exact HL.out
      have HT := Lib.hid ht
      have HB2 := Lib.hid (step2 HB1.out hb2)
      clear ht hb2
      go_wp2_with fail
      go_ret
      refine ⟨_, rfl, ?_, HB2.out⟩
      rw [HT4.out, ← HT.out]
      simp
    have h4' : (f.kind == 4) = false := by simpa using h4
    by_cases h8 : f.kind ≤ 8
    · have h5 : 5 ≤ f.kind := by omega
      obtain ⟨k, j, hks⟩ := kids_two (f := f) (by rw [hkn]; unfold nk; rw [if_neg (by omega), if_neg (by omega), if_neg (by omega)])
      have hmk : k ∈ f.kids := by rw [hks]; simp
      obtain ⟨q, o, Ak, ck, rfl, hq, ⟨p0, p1, p2, p3⟩, hkv⟩ := HF.out.kids.v (show f.kids[0]? = some k by rw [hks]; rfl)
      have hmj : j ∈ f.kids := by rw [hks]; simp
      obtain ⟨q', o', Aj, cj, e', _, ⟨r0, r1, r2, r3⟩, hjv⟩ := HF.out.kids.v (show f.kids[1]? = some j by rw [hks]; rfl)
      cases e'
      simp only [Nat.zero_mul, Nat.add_zero, Nat.one_mul, Nat.add_assoc, Nat.reduceAdd] at p0 p1 p2 p3 r0 r1 r2 r3
      have HSB : Hid (∀ W, Below (w.alloc (.cells #[.int .i64 f.kind, .string ⟨f.name.toArray⟩, .int .i64 f.lit, .slice (some ⟨q, o, none⟩) f.kids.length c] 37)).heap.size (w.alloc (.cells #[.int .i64 f.kind, .string ⟨f.name.toArray⟩, .int .i64 f.lit, .slice (some ⟨q, o, none⟩) f.kids.length c] 37)) W → ((W.cell? ⟨w.heap.size, 0, none⟩ = some (.int .i64 f.kind) ∧ W.cell? ⟨w.heap.size, 3, none⟩ = some (.slice (some ⟨q, o, none⟩) f.kids.length c)) ∧ (W.cell? ⟨q, o, none⟩ = some (.int .i64 k.kind) ∧ W.cell? ⟨q, o + 1, none⟩ = some (.string ⟨k.name.toArray⟩) ∧ W.cell? ⟨q, o + 2, none⟩ = some (.int .i64 k.lit) ∧ W.cell? ⟨q, o + 3, none⟩ = some (.slice Ak k.kids.length ck)) ∧ (W.cell? ⟨q, o + 4, none⟩ = some (.int .i64 j.kind) ∧ W.cell? ⟨q, o + 5, none⟩ = some (.string ⟨j.name.toArray⟩) ∧ W.cell? ⟨q, o + 6, none⟩ = some (.int .i64 j.lit) ∧ W.cell? ⟨q, o + 7, none⟩ = some (.slice Aj j.kids.length cj)))) := Lib.hid fun W h => by
        have hc := (bcell ((step2 HB1.out h).mono hB)).1 q
        refine ⟨⟨(HX.out.below h (by simp)).cell 0, (HX.out.below h (by simp)).cell 3⟩, ⟨by rw [hc _ hq]; exact p0, by rw [hc _ hq]; exact p1, by rw [hc _ hq]; exact p2, by rw [hc _ hq]; exact p3⟩, ⟨by rw [hc _ hq]; exact r0, by rw [hc _ hq]; exact r1, by rw [hc _ hq]; exact r2, by rw [hc _ hq]; exact r3⟩⟩
      have HCk := Lib.hid (fun W (h : Below (w.alloc (.cells #[.int .i64 f.kind, .string ⟨f.name.toArray⟩, .int .i64 f.lit, .slice (some ⟨q, o, none⟩) f.kids.length c] 37)).heap.size (w.alloc (.cells #[.int .i64 f.kind, .string ⟨f.name.toArray⟩, .int .i64 f.lit, .slice (some ⟨q, o, none⟩) f.kids.length c] 37)) W) => HKID.out k hmk Ak ck hkv W (step2 HB1.out h))
      have HLk := Lib.hid (HKL.out k hmk)
      unfold fmA at HCk
      have HCj := Lib.hid (fun W (h : Below (w.alloc (.cells #[.int .i64 f.kind, .string ⟨f.name.toArray⟩, .int .i64 f.lit, .slice (some ⟨q, o, none⟩) f.kids.length c] 37)).heap.size (w.alloc (.cells #[.int .i64 f.kind, .string ⟨f.name.toArray⟩, .int .i64 f.lit, .slice (some ⟨q, o, none⟩) f.kids.length c] 37)) W) => HKID.out j hmj Aj cj hjv W (step2 HB1.out h))
      have HLj := Lib.hid (HKL.out j hmj)
      unfold fmA at HCj
      have hlen : 0 < f.kids.length := by rw [hks]; simp
      have hlen1 : (1 : Int) < (f.kids.length : Int) := by rw [hks]; simp
      have HT4 : Hid (f.txt = (shp f.kind).1 ++ (k.part ++ ((shp f.kind).2.1 ++ (j.part ++ (shp f.kind).2.2)))) := Lib.hid (by rw [HTX.out, hks]; simp [joinB])
      have HROW : Hid ((#[.string ⟨#[32, 38, 32]⟩, .string ⟨#[32, 124, 32]⟩, .string ⟨#[32, 45, 62, 32]⟩, .string ⟨#[32, 60, 45, 62, 32]⟩] : Array Value)[(f.kind - 5).toNat]? = some (.string ⟨(shp f.kind).2.1.toArray⟩)) := Lib.hid (by rcases (show f.kind = 5 ∨ f.kind = 6 ∨ f.kind = 7 ∨ f.kind = 8 by omega) with h | h | h | h <;> rw [h] <;> rfl)
      have HSH : Hid ((shp f.kind).1 = [] ∧ (shp f.kind).2.2 = []) := Lib.hid (by rcases (show f.kind = 5 ∨ f.kind = 6 ∨ f.kind = 7 ∨ f.kind = 8 by omega) with h | h | h | h <;> rw [h] <;> exact ⟨rfl, rfl⟩)
      have hsl := (shp_len f.kind).2.1
      have hwr : IntKind.i64.wrap (f.kind - 5) = f.kind - 5 := IntWalk.i64_in _ (by omega)
      have hi0 : 0 ≤ f.kind - 5 := by omega
      have hi4 : f.kind - 5 < 4 := by omega
      clear h1 h2 h3 h4 hkn hkw hkv hjv hmk hmj hks p0 p1 p2 p3 r0 r1 r2 r3
      go_enter Tryd.func57, Tryd.ntmps57
      go_wp2_with fail
      refine wp_region_noPanic ?_
      refine wp_region_grow (fun W => ((W.cell? ⟨w.heap.size, 0, none⟩ = some (.int .i64 f.kind) ∧ W.cell? ⟨w.heap.size, 3, none⟩ = some (.slice (some ⟨q, o, none⟩) f.kids.length c)) ∧ (W.cell? ⟨q, o, none⟩ = some (.int .i64 k.kind) ∧ W.cell? ⟨q, o + 1, none⟩ = some (.string ⟨k.name.toArray⟩) ∧ W.cell? ⟨q, o + 2, none⟩ = some (.int .i64 k.lit) ∧ W.cell? ⟨q, o + 3, none⟩ = some (.slice Ak k.kids.length ck)) ∧ (W.cell? ⟨q, o + 4, none⟩ = some (.int .i64 j.kind) ∧ W.cell? ⟨q, o + 5, none⟩ = some (.string ⟨j.name.toArray⟩) ∧ W.cell? ⟨q, o + 6, none⟩ = some (.int .i64 j.lit) ∧ W.cell? ⟨q, o + 7, none⟩ = some (.slice Aj j.kids.length cj)))) (Ord.ofList [0, 1, 2, 3, 6, 7, 8, 12, 13, 14, 15] (.fork 4 (.fork 5 (Ord.ofList [9, 10, 11, 16, 17, 18] .done) 16 (Ord.ofList [5, 9, 10, 11, 17, 18] .done)) 5 (Ord.ofList [9, 10, 4, 11, 16, 17, 18] .done))) [0, 1, 2, 3, 6, 7, 8, 9, 10, 11, 12, 13, 14, 15, 17, 18] (by kernel_rfl) (by kernel_rfl) rfl (by kernel_rfl) (fun _ _ _ _ _ h => h) ?_ (fun hSS => ?_)
      · exact HSB.out _ (stepD1 _)
      have HW0 := Lib.hid (stepD1 (w.alloc (.cells #[.int .i64 f.kind, .string ⟨f.name.toArray⟩, .int .i64 f.lit, .slice (some ⟨q, o, none⟩) f.kids.length c] 37)))
      clear hSS
      generalize (w.alloc (.cells #[.int .i64 f.kind, .string ⟨f.name.toArray⟩, .int .i64 f.lit, .slice (some ⟨q, o, none⟩) f.kids.length c] 37)).drew = v0 at HW0 ⊢
      (refine wpGrow_mov rfl rfl ?_; intro o ho; simp only [List.getElem?_toArray, List.getElem?_cons_zero, List.getElem?_cons_succ, Option.some.injEq] at ho; subst ho; refine ⟨?_, Or.inl ⟨by rfl, fun W hSW => ?_⟩, ?_⟩; rotate_left; (focus (go_simp; first | done | with_reducible rfl)); try simp only [Act.put, List.setIfInBounds_toArray, List.set_cons_zero, List.set_cons_succ])
      (refine wpGrow_mov rfl rfl ?_; intro o ho; simp only [List.getElem?_toArray, List.getElem?_cons_zero, List.getElem?_cons_succ, Option.some.injEq] at ho; subst ho; refine ⟨?_, Or.inl ⟨by rfl, fun W hSW => ?_⟩, ?_⟩; rotate_left; (focus (go_simp; first | done | with_reducible rfl)); try simp only [Act.put, List.setIfInBounds_toArray, List.set_cons_zero, List.set_cons_succ])
      (refine wpGrow_mov rfl rfl ?_; intro o ho; simp only [List.getElem?_toArray, List.getElem?_cons_zero, List.getElem?_cons_succ, Option.some.injEq] at ho; subst ho; refine ⟨?_, Or.inl ⟨by rfl, fun W hSW => ?_⟩, ?_⟩; rotate_left; (focus (go_simp; first | done | with_reducible rfl)); try simp only [Act.put, List.setIfInBounds_toArray, List.set_cons_zero, List.set_cons_succ])
      (refine wpGrow_mov rfl rfl ?_; intro o ho; simp only [List.getElem?_toArray, List.getElem?_cons_zero, List.getElem?_cons_succ, Option.some.injEq] at ho; subst ho; refine ⟨?_, Or.inl ⟨by rfl, fun W hSW => ?_⟩, ?_⟩; rotate_left; (focus (go_simp; first | done | with_reducible rfl)); try simp only [Act.put, List.setIfInBounds_toArray, List.set_cons_zero, List.set_cons_succ])
      (refine wpGrow_mov rfl rfl ?_; intro o ho; simp only [List.getElem?_toArray, List.getElem?_cons_zero, List.getElem?_cons_succ, Option.some.injEq] at ho; subst ho; refine ⟨?_, Or.inl ⟨by rfl, fun W hSW => ?_⟩, ?_⟩; rotate_left; (focus (go_simp; first | done | with_reducible rfl)); try simp only [Act.put, List.setIfInBounds_toArray, List.set_cons_zero, List.set_cons_succ])
      (refine wpGrow_mov rfl rfl ?_; intro o ho; simp only [List.getElem?_toArray, List.getElem?_cons_zero, List.getElem?_cons_succ, Option.some.injEq] at ho; subst ho; refine ⟨?_, Or.inl ⟨by rfl, fun W hSW => ?_⟩, ?_⟩; rotate_left; (focus (go_simp; first | done | with_reducible rfl)); try simp only [Act.put, List.setIfInBounds_toArray, List.set_cons_zero, List.set_cons_succ])
      (refine wpGrow_mov rfl rfl ?_; intro o ho; simp only [List.getElem?_toArray, List.getElem?_cons_zero, List.getElem?_cons_succ, Option.some.injEq] at ho; subst ho; refine ⟨?_, Or.inl ⟨by rfl, fun W hSW => ?_⟩, ?_⟩; rotate_left; (focus (go_simp; first | done | with_reducible rfl)); try simp only [Act.put, List.setIfInBounds_toArray, List.set_cons_zero, List.set_cons_succ])
      (refine wpGrow_mov rfl rfl ?_; intro o ho; simp only [List.getElem?_toArray, List.getElem?_cons_zero, List.getElem?_cons_succ, Option.some.injEq] at ho; subst ho; refine ⟨?_, Or.inl ⟨by rfl, fun W hSW => ?_⟩, ?_⟩; rotate_left; (focus (go_simp; first | done | with_reducible rfl)); try simp only [Act.put, List.setIfInBounds_toArray, List.set_cons_zero, List.set_cons_succ])
      (refine wpGrow_mov rfl rfl ?_; intro o ho; simp only [List.getElem?_toArray, List.getElem?_cons_zero, List.getElem?_cons_succ, Option.some.injEq] at ho; subst ho; refine ⟨?_, Or.inl ⟨by rfl, fun W hSW => ?_⟩, ?_⟩; rotate_left; (focus (go_simp; first | done | with_reducible rfl)); try simp only [Act.put, List.setIfInBounds_toArray, List.set_cons_zero, List.set_cons_succ])
      (refine wpGrow_mov rfl rfl ?_; intro o ho; simp only [List.getElem?_toArray, List.getElem?_cons_zero, List.getElem?_cons_succ, Option.some.injEq] at ho; subst ho; refine ⟨?_, Or.inl ⟨by rfl, fun W hSW => ?_⟩, ?_⟩; rotate_left; (focus (go_simp; first | done | with_reducible rfl)); try simp only [Act.put, List.setIfInBounds_toArray, List.set_cons_zero, List.set_cons_succ])
      (refine wpGrow_mov rfl rfl ?_; intro o ho; simp only [List.getElem?_toArray, List.getElem?_cons_zero, List.getElem?_cons_succ, Option.some.injEq] at ho; subst ho; refine ⟨?_, Or.inl ⟨by rfl, fun W hSW => ?_⟩, ?_⟩; rotate_left; (focus (go_simp; first | done | with_reducible rfl)); try simp only [Act.put, List.setIfInBounds_toArray, List.set_cons_zero, List.set_cons_succ])
      refine wpGrow_fork ?_ ?_
      · skip
        (refine growW_of rfl ?_; intro o ho; simp only [List.getElem?_toArray, List.getElem?_cons_zero, List.getElem?_cons_succ, Option.some.injEq] at ho; subst ho; intro K hK)
        go_simp
        refine (HCk.out _ HW0.out).mono ?_
        rintro e w1 ⟨tk, rfl, ht, hb⟩
        have htk : tk.size ≤ 100000 := by rw [ba_size, ht]; exact HLk.out
        have HTk := Lib.hid ht
        have hsum1 : ¬ 9223372036854775807 < tk.size + (shp f.kind).2.1.length := by omega
        have HW1 := Lib.hid (step2 HW0.out hb)
        clear ht hb
        (refine hK.out _ _ ⟨_, (fun _ h => h), HSB.out _ HW1.out, ?_⟩; clear hK K; try simp only [Act.put, List.setIfInBounds_toArray, List.set_cons_zero, List.set_cons_succ])
        refine wpGrow_fork ?_ ?_
        · skip
          (refine growW_of rfl ?_; intro o ho; simp only [List.getElem?_toArray, List.getElem?_cons_zero, List.getElem?_cons_succ, Option.some.injEq] at ho; subst ho; intro K hK)
          go_simp
          have HW2 := Lib.hid (step2 HW1.out (stepA w1 (.cells #[.string ⟨#[32, 38, 32]⟩, .string ⟨#[32, 124, 32]⟩, .string ⟨#[32, 45, 62, 32]⟩, .string ⟨#[32, 60, 45, 62, 32]⟩] 9)))
          have HR2 := Lib.hid (Blk.new w1 9 #[.string ⟨#[32, 38, 32]⟩, .string ⟨#[32, 124, 32]⟩, .string ⟨#[32, 45, 62, 32]⟩, .string ⟨#[32, 60, 45, 62, 32]⟩])
          (refine hK.out _ _ ⟨(fun W => ((W.cell? ⟨w.heap.size, 0, none⟩ = some (.int .i64 f.kind) ∧ W.cell? ⟨w.heap.size, 3, none⟩ = some (.slice (some ⟨q, o, none⟩) f.kids.length c)) ∧ (W.cell? ⟨q, o, none⟩ = some (.int .i64 k.kind) ∧ W.cell? ⟨q, o + 1, none⟩ = some (.string ⟨k.name.toArray⟩) ∧ W.cell? ⟨q, o + 2, none⟩ = some (.int .i64 k.lit) ∧ W.cell? ⟨q, o + 3, none⟩ = some (.slice Ak k.kids.length ck)) ∧ (W.cell? ⟨q, o + 4, none⟩ = some (.int .i64 j.kind) ∧ W.cell? ⟨q, o + 5, none⟩ = some (.string ⟨j.name.toArray⟩) ∧ W.cell? ⟨q, o + 6, none⟩ = some (.int .i64 j.lit) ∧ W.cell? ⟨q, o + 7, none⟩ = some (.slice Aj j.kids.length cj))) ∧ W.cell? ⟨w1.heap.size, (f.kind - 5).toNat, none⟩ = some (.string ⟨(shp f.kind).2.1.toArray⟩)), (fun _ h => h.1), ⟨HSB.out _ HW2.out, (HR2.out.cell _).trans HROW.out⟩, ?_⟩; clear hK K; try simp only [Act.put, List.setIfInBounds_toArray, List.set_cons_zero, List.set_cons_succ])
          generalize w1.heap.size = rb at HR2 ⊢
          generalize w1.alloc (.cells #[.string ⟨#[32, 38, 32]⟩, .string ⟨#[32, 124, 32]⟩, .string ⟨#[32, 45, 62, 32]⟩, .string ⟨#[32, 60, 45, 62, 32]⟩] 9) = v2 at HW2 HR2 ⊢
          (refine wpGrow_mov rfl rfl ?_; intro o ho; simp only [List.getElem?_toArray, List.getElem?_cons_zero, List.getElem?_cons_succ, Option.some.injEq] at ho; subst ho; refine ⟨?_, Or.inl ⟨by rfl, fun W hSW => ?_⟩, ?_⟩; rotate_left; (focus (go_simp; first | done | with_reducible rfl)); try simp only [Act.put, List.setIfInBounds_toArray, List.set_cons_zero, List.set_cons_succ])
          (refine wpGrow_mov rfl rfl ?_; intro o ho; simp only [List.getElem?_toArray, List.getElem?_cons_zero, List.getElem?_cons_succ, Option.some.injEq] at ho; subst ho; refine ⟨?_, Or.inl ⟨by rfl, fun W hSW => ?_⟩, ?_⟩; rotate_left; (focus (go_simp; first | done | with_reducible rfl)); try simp only [Act.put, List.setIfInBounds_toArray, List.set_cons_zero, List.set_cons_succ])
          (refine wpGrow_mov rfl rfl ?_; intro o ho; simp only [List.getElem?_toArray, List.getElem?_cons_zero, List.getElem?_cons_succ, Option.some.injEq] at ho; subst ho; refine ⟨?_, Or.inl ⟨by rfl, fun W hSW => ?_⟩, ?_⟩; rotate_left; (focus (go_simp; first | done | with_reducible rfl)); try simp only [Act.put, List.setIfInBounds_toArray, List.set_cons_zero, List.set_cons_succ])
          (refine wpGrow_fix rfl rfl ?_; intro o ho; simp only [List.getElem?_toArray, List.getElem?_cons_zero, List.getElem?_cons_succ, Option.some.injEq] at ho; subst ho; intro K hK)
          go_simp
          refine (HCj.out _ HW2.out).mono ?_
          rintro e w3 ⟨tj, rfl, ht, hb⟩
          have htj : tj.size ≤ 100000 := by rw [ba_size, ht]; exact HLj.out
          have HTj := Lib.hid ht
          have hsum2 : ¬ 9223372036854775807 < tk.size + (shp f.kind).2.1.length + tj.size := by omega
          have HW3 := Lib.hid (step2 HW2.out hb)
          have HR3 := Lib.hid (HR2.out.below hb HR2.out.lt)
          clear ht hb
          (refine hK.out _ _ ⟨_, (fun _ h => h), ⟨HSB.out _ HW3.out, (HR3.out.cell _).trans HROW.out⟩, ?_⟩; clear hK K; try simp only [Act.put, List.setIfInBounds_toArray, List.set_cons_zero, List.set_cons_succ])
          (refine wpGrow_mov rfl rfl ?_; intro o ho; simp only [List.getElem?_toArray, List.getElem?_cons_zero, List.getElem?_cons_succ, Option.some.injEq] at ho; subst ho; refine ⟨?_, Or.inl ⟨by rfl, fun W hSW => ?_⟩, ?_⟩; rotate_left; (focus (go_simp; first | done | with_reducible rfl)); try simp only [Act.put, List.setIfInBounds_toArray, List.set_cons_zero, List.set_cons_succ])
          (refine wpGrow_mov rfl rfl ?_; intro o ho; simp only [List.getElem?_toArray, List.getElem?_cons_zero, List.getElem?_cons_succ, Option.some.injEq] at ho; subst ho; refine ⟨?_, Or.inl ⟨by rfl, fun W hSW => ?_⟩, ?_⟩; rotate_left; (focus (go_simp; first | done | with_reducible rfl)); try simp only [Act.put, List.setIfInBounds_toArray, List.set_cons_zero, List.set_cons_succ])
          refine wpGrow_done ?_
          go_wp2_with fail
          go_ret
          refine ⟨_, rfl, ?_, step2 HB1.out HW3.out⟩
          rw [HT4.out, HSH.out.1, HSH.out.2, ← HTk.out, ← HTj.out]
          simp [List.append_assoc]
        · skip
          (refine growW_of rfl ?_; intro o ho; simp only [List.getElem?_toArray, List.getElem?_cons_zero, List.getElem?_cons_succ, Option.some.injEq] at ho; subst ho; intro K hK)
          go_simp
          refine (HCj.out _ HW1.out).mono ?_
          rintro e w2 ⟨tj, rfl, ht, hb⟩
          have htj : tj.size ≤ 100000 := by rw [ba_size, ht]; exact HLj.out
          have HTj := Lib.hid ht
          have hsum2 : ¬ 9223372036854775807 < tk.size + (shp f.kind).2.1.length + tj.size := by omega
          have HW2 := Lib.hid (step2 HW1.out hb)
          clear ht hb
          (refine hK.out _ _ ⟨_, (fun _ h => h), HSB.out _ HW2.out, ?_⟩; clear hK K; try simp only [Act.put, List.setIfInBounds_toArray, List.set_cons_zero, List.set_cons_succ])
          (refine wpGrow_fix rfl rfl ?_; intro o ho; simp only [List.getElem?_toArray, List.getElem?_cons_zero, List.getElem?_cons_succ, Option.some.injEq] at ho; subst ho; intro K hK)
          go_simp
          have HW3 := Lib.hid (step2 HW2.out (stepA w2 (.cells #[.string ⟨#[32, 38, 32]⟩, .string ⟨#[32, 124, 32]⟩, .string ⟨#[32, 45, 62, 32]⟩, .string ⟨#[32, 60, 45, 62, 32]⟩] 9)))
          have HR3 := Lib.hid (Blk.new w2 9 #[.string ⟨#[32, 38, 32]⟩, .string ⟨#[32, 124, 32]⟩, .string ⟨#[32, 45, 62, 32]⟩, .string ⟨#[32, 60, 45, 62, 32]⟩])
          (refine hK.out _ _ ⟨(fun W => ((W.cell? ⟨w.heap.size, 0, none⟩ = some (.int .i64 f.kind) ∧ W.cell? ⟨w.heap.size, 3, none⟩ = some (.slice (some ⟨q, o, none⟩) f.kids.length c)) ∧ (W.cell? ⟨q, o, none⟩ = some (.int .i64 k.kind) ∧ W.cell? ⟨q, o + 1, none⟩ = some (.string ⟨k.name.toArray⟩) ∧ W.cell? ⟨q, o + 2, none⟩ = some (.int .i64 k.lit) ∧ W.cell? ⟨q, o + 3, none⟩ = some (.slice Ak k.kids.length ck)) ∧ (W.cell? ⟨q, o + 4, none⟩ = some (.int .i64 j.kind) ∧ W.cell? ⟨q, o + 5, none⟩ = some (.string ⟨j.name.toArray⟩) ∧ W.cell? ⟨q, o + 6, none⟩ = some (.int .i64 j.lit) ∧ W.cell? ⟨q, o + 7, none⟩ = some (.slice Aj j.kids.length cj))) ∧ W.cell? ⟨w2.heap.size, (f.kind - 5).toNat, none⟩ = some (.string ⟨(shp f.kind).2.1.toArray⟩)), (fun _ h => h.1), ⟨HSB.out _ HW3.out, (HR3.out.cell _).trans HROW.out⟩, ?_⟩; clear hK K; try simp only [Act.put, List.setIfInBounds_toArray, List.set_cons_zero, List.set_cons_succ])
          generalize w2.heap.size = rb at HR3 ⊢
          generalize w2.alloc (.cells #[.string ⟨#[32, 38, 32]⟩, .string ⟨#[32, 124, 32]⟩, .string ⟨#[32, 45, 62, 32]⟩, .string ⟨#[32, 60, 45, 62, 32]⟩] 9) = v3 at HW3 HR3 ⊢
          (refine wpGrow_mov rfl rfl ?_; intro o ho; simp only [List.getElem?_toArray, List.getElem?_cons_zero, List.getElem?_cons_succ, Option.some.injEq] at ho; subst ho; refine ⟨?_, Or.inl ⟨by rfl, fun W hSW => ?_⟩, ?_⟩; rotate_left; (focus (go_simp; first | done | with_reducible rfl)); try simp only [Act.put, List.setIfInBounds_toArray, List.set_cons_zero, List.set_cons_succ])
          (refine wpGrow_mov rfl rfl ?_; intro o ho; simp only [List.getElem?_toArray, List.getElem?_cons_zero, List.getElem?_cons_succ, Option.some.injEq] at ho; subst ho; refine ⟨?_, Or.inl ⟨by rfl, fun W hSW => ?_⟩, ?_⟩; rotate_left; (focus (go_simp; first | done | with_reducible rfl)); try simp only [Act.put, List.setIfInBounds_toArray, List.set_cons_zero, List.set_cons_succ])
          (refine wpGrow_mov rfl rfl ?_; intro o ho; simp only [List.getElem?_toArray, List.getElem?_cons_zero, List.getElem?_cons_succ, Option.some.injEq] at ho; subst ho; refine ⟨?_, Or.inl ⟨by rfl, fun W hSW => ?_⟩, ?_⟩; rotate_left; (focus (go_simp; first | done | with_reducible rfl)); try simp only [Act.put, List.setIfInBounds_toArray, List.set_cons_zero, List.set_cons_succ])
          (refine wpGrow_mov rfl rfl ?_; intro o ho; simp only [List.getElem?_toArray, List.getElem?_cons_zero, List.getElem?_cons_succ, Option.some.injEq] at ho; subst ho; refine ⟨?_, Or.inl ⟨by rfl, fun W hSW => ?_⟩, ?_⟩; rotate_left; (focus (go_simp; first | done | with_reducible rfl)); try simp only [Act.put, List.setIfInBounds_toArray, List.set_cons_zero, List.set_cons_succ])
          (refine wpGrow_mov rfl rfl ?_; intro o ho; simp only [List.getElem?_toArray, List.getElem?_cons_zero, List.getElem?_cons_succ, Option.some.injEq] at ho; subst ho; refine ⟨?_, Or.inl ⟨by rfl, fun W hSW => ?_⟩, ?_⟩; rotate_left; (focus (go_simp; first | done | with_reducible rfl)); try simp only [Act.put, List.setIfInBounds_toArray, List.set_cons_zero, List.set_cons_succ])
          refine wpGrow_done ?_
          go_wp2_with fail
          go_ret
          refine ⟨_, rfl, ?_, step2 HB1.out HW3.out⟩
          rw [HT4.out, HSH.out.1, HSH.out.2, ← HTk.out, ← HTj.out]
          simp [List.append_assoc]
      · skip
        (refine growW_of rfl ?_; intro o ho; simp only [List.getElem?_toArray, List.getElem?_cons_zero, List.getElem?_cons_succ, Option.some.injEq] at ho; subst ho; intro K hK)
        go_simp
        have HW1 := Lib.hid (step2 HW0.out (stepA v0 (.cells #[.string ⟨#[32, 38, 32]⟩, .string ⟨#[32, 124, 32]⟩, .string ⟨#[32, 45, 62, 32]⟩, .string ⟨#[32, 60, 45, 62, 32]⟩] 9)))
        have HR1 := Lib.hid (Blk.new v0 9 #[.string ⟨#[32, 38, 32]⟩, .string ⟨#[32, 124, 32]⟩, .string ⟨#[32, 45, 62, 32]⟩, .string ⟨#[32, 60, 45, 62, 32]⟩])
        (refine hK.out _ _ ⟨(fun W => ((W.cell? ⟨w.heap.size, 0, none⟩ = some (.int .i64 f.kind) ∧ W.cell? ⟨w.heap.size, 3, none⟩ = some (.slice (some ⟨q, o, none⟩) f.kids.length c)) ∧ (W.cell? ⟨q, o, none⟩ = some (.int .i64 k.kind) ∧ W.cell? ⟨q, o + 1, none⟩ = some (.string ⟨k.name.toArray⟩) ∧ W.cell? ⟨q, o + 2, none⟩ = some (.int .i64 k.lit) ∧ W.cell? ⟨q, o + 3, none⟩ = some (.slice Ak k.kids.length ck)) ∧ (W.cell? ⟨q, o + 4, none⟩ = some (.int .i64 j.kind) ∧ W.cell? ⟨q, o + 5, none⟩ = some (.string ⟨j.name.toArray⟩) ∧ W.cell? ⟨q, o + 6, none⟩ = some (.int .i64 j.lit) ∧ W.cell? ⟨q, o + 7, none⟩ = some (.slice Aj j.kids.length cj))) ∧ W.cell? ⟨v0.heap.size, (f.kind - 5).toNat, none⟩ = some (.string ⟨(shp f.kind).2.1.toArray⟩)), (fun _ h => h.1), ⟨HSB.out _ HW1.out, (HR1.out.cell _).trans HROW.out⟩, ?_⟩; clear hK K; try simp only [Act.put, List.setIfInBounds_toArray, List.set_cons_zero, List.set_cons_succ])
        generalize v0.heap.size = rb at HR1 ⊢
        generalize v0.alloc (.cells #[.string ⟨#[32, 38, 32]⟩, .string ⟨#[32, 124, 32]⟩, .string ⟨#[32, 45, 62, 32]⟩, .string ⟨#[32, 60, 45, 62, 32]⟩] 9) = v1 at HW1 HR1 ⊢
        (refine wpGrow_mov rfl rfl ?_; intro o ho; simp only [List.getElem?_toArray, List.getElem?_cons_zero, List.getElem?_cons_succ, Option.some.injEq] at ho; subst ho; refine ⟨?_, Or.inl ⟨by rfl, fun W hSW => ?_⟩, ?_⟩; rotate_left; (focus (go_simp; first | done | with_reducible rfl)); try simp only [Act.put, List.setIfInBounds_toArray, List.set_cons_zero, List.set_cons_succ])
        (refine wpGrow_mov rfl rfl ?_; intro o ho; simp only [List.getElem?_toArray, List.getElem?_cons_zero, List.getElem?_cons_succ, Option.some.injEq] at ho; subst ho; refine ⟨?_, Or.inl ⟨by rfl, fun W hSW => ?_⟩, ?_⟩; rotate_left; (focus (go_simp; first | done | with_reducible rfl)); try simp only [Act.put, List.setIfInBounds_toArray, List.set_cons_zero, List.set_cons_succ])
        (refine wpGrow_fix rfl rfl ?_; intro o ho; simp only [List.getElem?_toArray, List.getElem?_cons_zero, List.getElem?_cons_succ, Option.some.injEq] at ho; subst ho; intro K hK)
        go_simp
        refine (HCk.out _ HW1.out).mono ?_
        rintro e w2 ⟨tk, rfl, ht, hb⟩
        have htk : tk.size ≤ 100000 := by rw [ba_size, ht]; exact HLk.out
        have HTk := Lib.hid ht
        have hsum1 : ¬ 9223372036854775807 < tk.size + (shp f.kind).2.1.length := by omega
        have HW2 := Lib.hid (step2 HW1.out hb)
        have HR2 := Lib.hid (HR1.out.below hb HR1.out.lt)
        clear ht hb
        (refine hK.out _ _ ⟨_, (fun _ h => h), ⟨HSB.out _ HW2.out, (HR2.out.cell _).trans HROW.out⟩, ?_⟩; clear hK K; try simp only [Act.put, List.setIfInBounds_toArray, List.set_cons_zero, List.set_cons_succ])
        (refine wpGrow_mov rfl rfl ?_; intro o ho; simp only [List.getElem?_toArray, List.getElem?_cons_zero, List.getElem?_cons_succ, Option.some.injEq] at ho; subst ho; refine ⟨?_, Or.inl ⟨by rfl, fun W hSW => ?_⟩, ?_⟩; rotate_left; (focus (go_simp; first | done | with_reducible rfl)); try simp only [Act.put, List.setIfInBounds_toArray, List.set_cons_zero, List.set_cons_succ])
        (refine wpGrow_fix rfl rfl ?_; intro o ho; simp only [List.getElem?_toArray, List.getElem?_cons_zero, List.getElem?_cons_succ, Option.some.injEq] at ho; subst ho; intro K hK)
        go_simp
        refine (HCj.out _ HW2.out).mono ?_
        rintro e w3 ⟨tj, rfl, ht, hb⟩
        have htj : tj.size ≤ 100000 := by rw [ba_size, ht]; exact HLj.out
        have HTj := Lib.hid ht
        have hsum2 : ¬ 9223372036854775807 < tk.size + (shp f.kind).2.1.length + tj.size := by omega
        have HW3 := Lib.hid (step2 HW2.out hb)
        have HR3 := Lib.hid (HR2.out.below hb HR2.out.lt)
        clear ht hb
        (refine hK.out _ _ ⟨_, (fun _ h => h), ⟨HSB.out _ HW3.out, (HR3.out.cell _).trans HROW.out⟩, ?_⟩; clear hK K; try simp only [Act.put, List.setIfInBounds_toArray, List.set_cons_zero, List.set_cons_succ])
        (refine wpGrow_mov rfl rfl ?_; intro o ho; simp only [List.getElem?_toArray, List.getElem?_cons_zero, List.getElem?_cons_succ, Option.some.injEq] at ho; subst ho; refine ⟨?_, Or.inl ⟨by rfl, fun W hSW => ?_⟩, ?_⟩; rotate_left; (focus (go_simp; first | done | with_reducible rfl)); try simp only [Act.put, List.setIfInBounds_toArray, List.set_cons_zero, List.set_cons_succ])
        (refine wpGrow_mov rfl rfl ?_; intro o ho; simp only [List.getElem?_toArray, List.getElem?_cons_zero, List.getElem?_cons_succ, Option.some.injEq] at ho; subst ho; refine ⟨?_, Or.inl ⟨by rfl, fun W hSW => ?_⟩, ?_⟩; rotate_left; (focus (go_simp; first | done | with_reducible rfl)); try simp only [Act.put, List.setIfInBounds_toArray, List.set_cons_zero, List.set_cons_succ])
        refine wpGrow_done ?_
        go_wp2_with fail
        go_ret
        refine ⟨_, rfl, ?_, step2 HB1.out HW3.out⟩
        rw [HT4.out, HSH.out.1, HSH.out.2, ← HTk.out, ← HTj.out]
        simp [List.append_assoc]
    by_cases h14 : f.kind ≤ 14
    · have h5 : 9 ≤ f.kind := by omega
      obtain ⟨k, hks⟩ := kids_one (f := f) (by rw [hkn]; unfold nk; rw [if_neg (by omega), if_neg (by omega), if_pos (by omega)])
      have hmk : k ∈ f.kids := by rw [hks]; simp
      obtain ⟨q, o, Ak, ck, rfl, hq, ⟨p0, p1, p2, p3⟩, hkv⟩ := HF.out.kids.v (show f.kids[0]? = some k by rw [hks]; rfl)
      simp only [Nat.zero_mul, Nat.add_zero, Nat.one_mul, Nat.add_assoc, Nat.reduceAdd] at p0 p1 p2 p3
      have HSB : Hid (∀ W, Below (w.alloc (.cells #[.int .i64 f.kind, .string ⟨f.name.toArray⟩, .int .i64 f.lit, .slice (some ⟨q, o, none⟩) f.kids.length c] 37)).heap.size (w.alloc (.cells #[.int .i64 f.kind, .string ⟨f.name.toArray⟩, .int .i64 f.lit, .slice (some ⟨q, o, none⟩) f.kids.length c] 37)) W → ((W.cell? ⟨w.heap.size, 0, none⟩ = some (.int .i64 f.kind) ∧ W.cell? ⟨w.heap.size, 3, none⟩ = some (.slice (some ⟨q, o, none⟩) f.kids.length c)) ∧ (W.cell? ⟨q, o, none⟩ = some (.int .i64 k.kind) ∧ W.cell? ⟨q, o + 1, none⟩ = some (.string ⟨k.name.toArray⟩) ∧ W.cell? ⟨q, o + 2, none⟩ = some (.int .i64 k.lit) ∧ W.cell? ⟨q, o + 3, none⟩ = some (.slice Ak k.kids.length ck)))) := Lib.hid fun W h => by
        have hc := (bcell ((step2 HB1.out h).mono hB)).1 q
        refine ⟨⟨(HX.out.below h (by simp)).cell 0, (HX.out.below h (by simp)).cell 3⟩, ⟨by rw [hc _ hq]; exact p0, by rw [hc _ hq]; exact p1, by rw [hc _ hq]; exact p2, by rw [hc _ hq]; exact p3⟩⟩
      have HCk := Lib.hid (fun W (h : Below (w.alloc (.cells #[.int .i64 f.kind, .string ⟨f.name.toArray⟩, .int .i64 f.lit, .slice (some ⟨q, o, none⟩) f.kids.length c] 37)).heap.size (w.alloc (.cells #[.int .i64 f.kind, .string ⟨f.name.toArray⟩, .int .i64 f.lit, .slice (some ⟨q, o, none⟩) f.kids.length c] 37)) W) => HKID.out k hmk Ak ck hkv W (step2 HB1.out h))
      have HLk := Lib.hid (HKL.out k hmk)
      unfold fmA at HCk
      have hlen : 0 < f.kids.length := by rw [hks]; simp
      have HT4 : Hid (f.txt = (shp f.kind).1 ++ (k.part ++ (shp f.kind).2.2)) := Lib.hid (by rw [HTX.out, hks]; simp [joinB])
      have HROW : Hid ((#[.string ⟨#[69, 88, 32]⟩, .string ⟨#[65, 88, 32]⟩, .string ⟨#[69, 70, 32]⟩, .string ⟨#[65, 70, 32]⟩, .string ⟨#[69, 71, 32]⟩, .string ⟨#[65, 71, 32]⟩] : Array Value)[(f.kind - 9).toNat]? = some (.string ⟨(shp f.kind).1.toArray⟩)) := Lib.hid (by rcases (show f.kind = 9 ∨ f.kind = 10 ∨ f.kind = 11 ∨ f.kind = 12 ∨ f.kind = 13 ∨ f.kind = 14 by omega) with h | h | h | h | h | h <;> rw [h] <;> rfl)
      have HSH : Hid ((shp f.kind).2.2 = []) := Lib.hid (by rcases (show f.kind = 9 ∨ f.kind = 10 ∨ f.kind = 11 ∨ f.kind = 12 ∨ f.kind = 13 ∨ f.kind = 14 by omega) with h | h | h | h | h | h <;> rw [h] <;> rfl)
      have hsl := (shp_len f.kind).1
      have hwr : IntKind.i64.wrap (f.kind - 9) = f.kind - 9 := IntWalk.i64_in _ (by omega)
      have hi0 : 0 ≤ f.kind - 9 := by omega
      have hi4 : f.kind - 9 < 6 := by omega
      clear h1 h2 h3 h4 hkn hkw hkv hmk hks p0 p1 p2 p3
      go_enter Tryd.func57, Tryd.ntmps57
      go_wp2_with fail
      refine wp_region_noPanic ?_
      refine wp_region_grow (fun W => ((W.cell? ⟨w.heap.size, 0, none⟩ = some (.int .i64 f.kind) ∧ W.cell? ⟨w.heap.size, 3, none⟩ = some (.slice (some ⟨q, o, none⟩) f.kids.length c)) ∧ (W.cell? ⟨q, o, none⟩ = some (.int .i64 k.kind) ∧ W.cell? ⟨q, o + 1, none⟩ = some (.string ⟨k.name.toArray⟩) ∧ W.cell? ⟨q, o + 2, none⟩ = some (.int .i64 k.lit) ∧ W.cell? ⟨q, o + 3, none⟩ = some (.slice Ak k.kids.length ck)))) (Ord.ofList [1, 2, 3, 6, 7, 8, 9] (.fork 0 (Ord.ofList [4, 5, 10, 11, 12] .done) 10 (Ord.ofList [0, 4, 5, 11, 12] .done))) [1, 2, 3, 4, 5, 6, 7, 8, 9, 11, 12] (by kernel_rfl) (by kernel_rfl) rfl (by kernel_rfl) (fun _ _ _ _ _ h => h) ?_ (fun hSS => ?_)
      · exact HSB.out _ (stepD1 _)
      have HW0 := Lib.hid (stepD1 (w.alloc (.cells #[.int .i64 f.kind, .string ⟨f.name.toArray⟩, .int .i64 f.lit, .slice (some ⟨q, o, none⟩) f.kids.length c] 37)))
      clear hSS
      generalize (w.alloc (.cells #[.int .i64 f.kind, .string ⟨f.name.toArray⟩, .int .i64 f.lit, .slice (some ⟨q, o, none⟩) f.kids.length c] 37)).drew = v0 at HW0 ⊢
      (refine wpGrow_mov rfl rfl ?_; intro o ho; simp only [List.getElem?_toArray, List.getElem?_cons_zero, List.getElem?_cons_succ, Option.some.injEq] at ho; subst ho; refine ⟨?_, Or.inl ⟨by rfl, fun W hSW => ?_⟩, ?_⟩; rotate_left; (focus (go_simp; first | done | with_reducible rfl)); try simp only [Act.put, List.setIfInBounds_toArray, List.set_cons_zero, List.set_cons_succ])
      (refine wpGrow_mov rfl rfl ?_; intro o ho; simp only [List.getElem?_toArray, List.getElem?_cons_zero, List.getElem?_cons_succ, Option.some.injEq] at ho; subst ho; refine ⟨?_, Or.inl ⟨by rfl, fun W hSW => ?_⟩, ?_⟩; rotate_left; (focus (go_simp; first | done | with_reducible rfl)); try simp only [Act.put, List.setIfInBounds_toArray, List.set_cons_zero, List.set_cons_succ])
      (refine wpGrow_mov rfl rfl ?_; intro o ho; simp only [List.getElem?_toArray, List.getElem?_cons_zero, List.getElem?_cons_succ, Option.some.injEq] at ho; subst ho; refine ⟨?_, Or.inl ⟨by rfl, fun W hSW => ?_⟩, ?_⟩; rotate_left; (focus (go_simp; first | done | with_reducible rfl)); try simp only [Act.put, List.setIfInBounds_toArray, List.set_cons_zero, List.set_cons_succ])
      (refine wpGrow_mov rfl rfl ?_; intro o ho; simp only [List.getElem?_toArray, List.getElem?_cons_zero, List.getElem?_cons_succ, Option.some.injEq] at ho; subst ho; refine ⟨?_, Or.inl ⟨by rfl, fun W hSW => ?_⟩, ?_⟩; rotate_left; (focus (go_simp; first | done | with_reducible rfl)); try simp only [Act.put, List.setIfInBounds_toArray, List.set_cons_zero, List.set_cons_succ])
      (refine wpGrow_mov rfl rfl ?_; intro o ho; simp only [List.getElem?_toArray, List.getElem?_cons_zero, List.getElem?_cons_succ, Option.some.injEq] at ho; subst ho; refine ⟨?_, Or.inl ⟨by rfl, fun W hSW => ?_⟩, ?_⟩; rotate_left; (focus (go_simp; first | done | with_reducible rfl)); try simp only [Act.put, List.setIfInBounds_toArray, List.set_cons_zero, List.set_cons_succ])
      (refine wpGrow_mov rfl rfl ?_; intro o ho; simp only [List.getElem?_toArray, List.getElem?_cons_zero, List.getElem?_cons_succ, Option.some.injEq] at ho; subst ho; refine ⟨?_, Or.inl ⟨by rfl, fun W hSW => ?_⟩, ?_⟩; rotate_left; (focus (go_simp; first | done | with_reducible rfl)); try simp only [Act.put, List.setIfInBounds_toArray, List.set_cons_zero, List.set_cons_succ])
      (refine wpGrow_mov rfl rfl ?_; intro o ho; simp only [List.getElem?_toArray, List.getElem?_cons_zero, List.getElem?_cons_succ, Option.some.injEq] at ho; subst ho; refine ⟨?_, Or.inl ⟨by rfl, fun W hSW => ?_⟩, ?_⟩; rotate_left; (focus (go_simp; first | done | with_reducible rfl)); try simp only [Act.put, List.setIfInBounds_toArray, List.set_cons_zero, List.set_cons_succ])
      refine wpGrow_fork ?_ ?_
      · skip
        (refine growW_of rfl ?_; intro o ho; simp only [List.getElem?_toArray, List.getElem?_cons_zero, List.getElem?_cons_succ, Option.some.injEq] at ho; subst ho; intro K hK)
        go_simp
        have HW1 := Lib.hid (step2 HW0.out (stepA v0 (.cells #[.string ⟨#[69, 88, 32]⟩, .string ⟨#[65, 88, 32]⟩, .string ⟨#[69, 70, 32]⟩, .string ⟨#[65, 70, 32]⟩, .string ⟨#[69, 71, 32]⟩, .string ⟨#[65, 71, 32]⟩] 9)))
        have HR1 := Lib.hid (Blk.new v0 9 #[.string ⟨#[69, 88, 32]⟩, .string ⟨#[65, 88, 32]⟩, .string ⟨#[69, 70, 32]⟩, .string ⟨#[65, 70, 32]⟩, .string ⟨#[69, 71, 32]⟩, .string ⟨#[65, 71, 32]⟩])
        (refine hK.out _ _ ⟨(fun W => ((W.cell? ⟨w.heap.size, 0, none⟩ = some (.int .i64 f.kind) ∧ W.cell? ⟨w.heap.size, 3, none⟩ = some (.slice (some ⟨q, o, none⟩) f.kids.length c)) ∧ (W.cell? ⟨q, o, none⟩ = some (.int .i64 k.kind) ∧ W.cell? ⟨q, o + 1, none⟩ = some (.string ⟨k.name.toArray⟩) ∧ W.cell? ⟨q, o + 2, none⟩ = some (.int .i64 k.lit) ∧ W.cell? ⟨q, o + 3, none⟩ = some (.slice Ak k.kids.length ck))) ∧ W.cell? ⟨v0.heap.size, (f.kind - 9).toNat, none⟩ = some (.string ⟨(shp f.kind).1.toArray⟩)), (fun _ h => h.1), ⟨HSB.out _ HW1.out, (HR1.out.cell _).trans HROW.out⟩, ?_⟩; clear hK K; try simp only [Act.put, List.setIfInBounds_toArray, List.set_cons_zero, List.set_cons_succ])
        generalize v0.heap.size = rb at HR1 ⊢
        generalize v0.alloc (.cells #[.string ⟨#[69, 88, 32]⟩, .string ⟨#[65, 88, 32]⟩, .string ⟨#[69, 70, 32]⟩, .string ⟨#[65, 70, 32]⟩, .string ⟨#[69, 71, 32]⟩, .string ⟨#[65, 71, 32]⟩] 9) = v1 at HW1 HR1 ⊢
        (refine wpGrow_mov rfl rfl ?_; intro o ho; simp only [List.getElem?_toArray, List.getElem?_cons_zero, List.getElem?_cons_succ, Option.some.injEq] at ho; subst ho; refine ⟨?_, Or.inl ⟨by rfl, fun W hSW => ?_⟩, ?_⟩; rotate_left; (focus (go_simp; first | done | with_reducible rfl)); try simp only [Act.put, List.setIfInBounds_toArray, List.set_cons_zero, List.set_cons_succ])
        (refine wpGrow_mov rfl rfl ?_; intro o ho; simp only [List.getElem?_toArray, List.getElem?_cons_zero, List.getElem?_cons_succ, Option.some.injEq] at ho; subst ho; refine ⟨?_, Or.inl ⟨by rfl, fun W hSW => ?_⟩, ?_⟩; rotate_left; (focus (go_simp; first | done | with_reducible rfl)); try simp only [Act.put, List.setIfInBounds_toArray, List.set_cons_zero, List.set_cons_succ])
        (refine wpGrow_fix rfl rfl ?_; intro o ho; simp only [List.getElem?_toArray, List.getElem?_cons_zero, List.getElem?_cons_succ, Option.some.injEq] at ho; subst ho; intro K hK)
        go_simp
        refine (HCk.out _ HW1.out).mono ?_
        rintro e w2 ⟨tk, rfl, ht, hb⟩
        have htk : tk.size ≤ 100000 := by rw [ba_size, ht]; exact HLk.out
        have HTk := Lib.hid ht
        have hsum1 : ¬ 9223372036854775807 < (shp f.kind).1.length + tk.size := by omega
        have HW2 := Lib.hid (step2 HW1.out hb)
        have HR2 := Lib.hid (HR1.out.below hb HR1.out.lt)
        clear ht hb
        (refine hK.out _ _ ⟨_, (fun _ h => h), ⟨HSB.out _ HW2.out, (HR2.out.cell _).trans HROW.out⟩, ?_⟩; clear hK K; try simp only [Act.put, List.setIfInBounds_toArray, List.set_cons_zero, List.set_cons_succ])
        (refine wpGrow_mov rfl rfl ?_; intro o ho; simp only [List.getElem?_toArray, List.getElem?_cons_zero, List.getElem?_cons_succ, Option.some.injEq] at ho; subst ho; refine ⟨?_, Or.inl ⟨by rfl, fun W hSW => ?_⟩, ?_⟩; rotate_left; (focus (go_simp; first | done | with_reducible rfl)); try simp only [Act.put, List.setIfInBounds_toArray, List.set_cons_zero, List.set_cons_succ])
        (refine wpGrow_mov rfl rfl ?_; intro o ho; simp only [List.getElem?_toArray, List.getElem?_cons_zero, List.getElem?_cons_succ, Option.some.injEq] at ho; subst ho; refine ⟨?_, Or.inl ⟨by rfl, fun W hSW => ?_⟩, ?_⟩; rotate_left; (focus (go_simp; first | done | with_reducible rfl)); try simp only [Act.put, List.setIfInBounds_toArray, List.set_cons_zero, List.set_cons_succ])
        refine wpGrow_done ?_
        go_wp2_with fail
        go_ret
        refine ⟨_, rfl, ?_, step2 HB1.out HW2.out⟩
        rw [HT4.out, HSH.out, ← HTk.out]
        simp [List.append_assoc]
      · skip
        (refine growW_of rfl ?_; intro o ho; simp only [List.getElem?_toArray, List.getElem?_cons_zero, List.getElem?_cons_succ, Option.some.injEq] at ho; subst ho; intro K hK)
        go_simp
        refine (HCk.out _ HW0.out).mono ?_
        rintro e w1 ⟨tk, rfl, ht, hb⟩
        have htk : tk.size ≤ 100000 := by rw [ba_size, ht]; exact HLk.out
        have HTk := Lib.hid ht
        have hsum1 : ¬ 9223372036854775807 < (shp f.kind).1.length + tk.size := by omega
        have HW1 := Lib.hid (step2 HW0.out hb)
        clear ht hb
        (refine hK.out _ _ ⟨_, (fun _ h => h), HSB.out _ HW1.out, ?_⟩; clear hK K; try simp only [Act.put, List.setIfInBounds_toArray, List.set_cons_zero, List.set_cons_succ])
        (refine wpGrow_fix rfl rfl ?_; intro o ho; simp only [List.getElem?_toArray, List.getElem?_cons_zero, List.getElem?_cons_succ, Option.some.injEq] at ho; subst ho; intro K hK)
        go_simp
        have HW2 := Lib.hid (step2 HW1.out (stepA w1 (.cells #[.string ⟨#[69, 88, 32]⟩, .string ⟨#[65, 88, 32]⟩, .string ⟨#[69, 70, 32]⟩, .string ⟨#[65, 70, 32]⟩, .string ⟨#[69, 71, 32]⟩, .string ⟨#[65, 71, 32]⟩] 9)))
        have HR2 := Lib.hid (Blk.new w1 9 #[.string ⟨#[69, 88, 32]⟩, .string ⟨#[65, 88, 32]⟩, .string ⟨#[69, 70, 32]⟩, .string ⟨#[65, 70, 32]⟩, .string ⟨#[69, 71, 32]⟩, .string ⟨#[65, 71, 32]⟩])
        (refine hK.out _ _ ⟨(fun W => ((W.cell? ⟨w.heap.size, 0, none⟩ = some (.int .i64 f.kind) ∧ W.cell? ⟨w.heap.size, 3, none⟩ = some (.slice (some ⟨q, o, none⟩) f.kids.length c)) ∧ (W.cell? ⟨q, o, none⟩ = some (.int .i64 k.kind) ∧ W.cell? ⟨q, o + 1, none⟩ = some (.string ⟨k.name.toArray⟩) ∧ W.cell? ⟨q, o + 2, none⟩ = some (.int .i64 k.lit) ∧ W.cell? ⟨q, o + 3, none⟩ = some (.slice Ak k.kids.length ck))) ∧ W.cell? ⟨w1.heap.size, (f.kind - 9).toNat, none⟩ = some (.string ⟨(shp f.kind).1.toArray⟩)), (fun _ h => h.1), ⟨HSB.out _ HW2.out, (HR2.out.cell _).trans HROW.out⟩, ?_⟩; clear hK K; try simp only [Act.put, List.setIfInBounds_toArray, List.set_cons_zero, List.set_cons_succ])
        generalize w1.heap.size = rb at HR2 ⊢
        generalize w1.alloc (.cells #[.string ⟨#[69, 88, 32]⟩, .string ⟨#[65, 88, 32]⟩, .string ⟨#[69, 70, 32]⟩, .string ⟨#[65, 70, 32]⟩, .string ⟨#[69, 71, 32]⟩, .string ⟨#[65, 71, 32]⟩] 9) = v2 at HW2 HR2 ⊢
        (refine wpGrow_mov rfl rfl ?_; intro o ho; simp only [List.getElem?_toArray, List.getElem?_cons_zero, List.getElem?_cons_succ, Option.some.injEq] at ho; subst ho; refine ⟨?_, Or.inl ⟨by rfl, fun W hSW => ?_⟩, ?_⟩; rotate_left; (focus (go_simp; first | done | with_reducible rfl)); try simp only [Act.put, List.setIfInBounds_toArray, List.set_cons_zero, List.set_cons_succ])
        (refine wpGrow_mov rfl rfl ?_; intro o ho; simp only [List.getElem?_toArray, List.getElem?_cons_zero, List.getElem?_cons_succ, Option.some.injEq] at ho; subst ho; refine ⟨?_, Or.inl ⟨by rfl, fun W hSW => ?_⟩, ?_⟩; rotate_left; (focus (go_simp; first | done | with_reducible rfl)); try simp only [Act.put, List.setIfInBounds_toArray, List.set_cons_zero, List.set_cons_succ])
        (refine wpGrow_mov rfl rfl ?_; intro o ho; simp only [List.getElem?_toArray, List.getElem?_cons_zero, List.getElem?_cons_succ, Option.some.injEq] at ho; subst ho; refine ⟨?_, Or.inl ⟨by rfl, fun W hSW => ?_⟩, ?_⟩; rotate_left; (focus (go_simp; first | done | with_reducible rfl)); try simp only [Act.put, List.setIfInBounds_toArray, List.set_cons_zero, List.set_cons_succ])
        (refine wpGrow_mov rfl rfl ?_; intro o ho; simp only [List.getElem?_toArray, List.getElem?_cons_zero, List.getElem?_cons_succ, Option.some.injEq] at ho; subst ho; refine ⟨?_, Or.inl ⟨by rfl, fun W hSW => ?_⟩, ?_⟩; rotate_left; (focus (go_simp; first | done | with_reducible rfl)); try simp only [Act.put, List.setIfInBounds_toArray, List.set_cons_zero, List.set_cons_succ])
        refine wpGrow_done ?_
        go_wp2_with fail
        go_ret
        refine ⟨_, rfl, ?_, step2 HB1.out HW2.out⟩
        rw [HT4.out, HSH.out, ← HTk.out]
        simp [List.append_assoc]
    have h5 : 15 ≤ f.kind := by omega
    obtain ⟨k, j, hks⟩ := kids_two (f := f) (by rw [hkn]; unfold nk; rw [if_neg (by omega), if_neg (by omega), if_neg (by omega)])
    have hmk : k ∈ f.kids := by rw [hks]; simp
    obtain ⟨q, o, Ak, ck, rfl, hq, ⟨p0, p1, p2, p3⟩, hkv⟩ := HF.out.kids.v (show f.kids[0]? = some k by rw [hks]; rfl)
    have hmj : j ∈ f.kids := by rw [hks]; simp
    obtain ⟨q', o', Aj, cj, e', _, ⟨r0, r1, r2, r3⟩, hjv⟩ := HF.out.kids.v (show f.kids[1]? = some j by rw [hks]; rfl)
    cases e'
    simp only [Nat.zero_mul, Nat.add_zero, Nat.one_mul, Nat.add_assoc, Nat.reduceAdd] at p0 p1 p2 p3 r0 r1 r2 r3
    have HSB : Hid (∀ W, Below (w.alloc (.cells #[.int .i64 f.kind, .string ⟨f.name.toArray⟩, .int .i64 f.lit, .slice (some ⟨q, o, none⟩) f.kids.length c] 37)).heap.size (w.alloc (.cells #[.int .i64 f.kind, .string ⟨f.name.toArray⟩, .int .i64 f.lit, .slice (some ⟨q, o, none⟩) f.kids.length c] 37)) W → ((W.cell? ⟨w.heap.size, 0, none⟩ = some (.int .i64 f.kind) ∧ W.cell? ⟨w.heap.size, 3, none⟩ = some (.slice (some ⟨q, o, none⟩) f.kids.length c)) ∧ (W.cell? ⟨q, o, none⟩ = some (.int .i64 k.kind) ∧ W.cell? ⟨q, o + 1, none⟩ = some (.string ⟨k.name.toArray⟩) ∧ W.cell? ⟨q, o + 2, none⟩ = some (.int .i64 k.lit) ∧ W.cell? ⟨q, o + 3, none⟩ = some (.slice Ak k.kids.length ck)) ∧ (W.cell? ⟨q, o + 4, none⟩ = some (.int .i64 j.kind) ∧ W.cell? ⟨q, o + 5, none⟩ = some (.string ⟨j.name.toArray⟩) ∧ W.cell? ⟨q, o + 6, none⟩ = some (.int .i64 j.lit) ∧ W.cell? ⟨q, o + 7, none⟩ = some (.slice Aj j.kids.length cj)))) := Lib.hid fun W h => by
      have hc := (bcell ((step2 HB1.out h).mono hB)).1 q
      refine ⟨⟨(HX.out.below h (by simp)).cell 0, (HX.out.below h (by simp)).cell 3⟩, ⟨by rw [hc _ hq]; exact p0, by rw [hc _ hq]; exact p1, by rw [hc _ hq]; exact p2, by rw [hc _ hq]; exact p3⟩, ⟨by rw [hc _ hq]; exact r0, by rw [hc _ hq]; exact r1, by rw [hc _ hq]; exact r2, by rw [hc _ hq]; exact r3⟩⟩
    have HCk := Lib.hid (fun W (h : Below (w.alloc (.cells #[.int .i64 f.kind, .string ⟨f.name.toArray⟩, .int .i64 f.lit, .slice (some ⟨q, o, none⟩) f.kids.length c] 37)).heap.size (w.alloc (.cells #[.int .i64 f.kind, .string ⟨f.name.toArray⟩, .int .i64 f.lit, .slice (some ⟨q, o, none⟩) f.kids.length c] 37)) W) => HKID.out k hmk Ak ck hkv W (step2 HB1.out h))
    have HLk := Lib.hid (HKL.out k hmk)
    unfold fmA at HCk
    have HCj := Lib.hid (fun W (h : Below (w.alloc (.cells #[.int .i64 f.kind, .string ⟨f.name.toArray⟩, .int .i64 f.lit, .slice (some ⟨q, o, none⟩) f.kids.length c] 37)).heap.size (w.alloc (.cells #[.int .i64 f.kind, .string ⟨f.name.toArray⟩, .int .i64 f.lit, .slice (some ⟨q, o, none⟩) f.kids.length c] 37)) W) => HKID.out j hmj Aj cj hjv W (step2 HB1.out h))
    have HLj := Lib.hid (HKL.out j hmj)
    unfold fmA at HCj
    have hlen : 0 < f.kids.length := by rw [hks]; simp
    have hlen1 : (1 : Int) < (f.kids.length : Int) := by rw [hks]; simp
    have HT4 : Hid (f.txt = (shp f.kind).1 ++ (k.part ++ ((shp f.kind).2.1 ++ (j.part ++ (shp f.kind).2.2)))) := Lib.hid (by rw [HTX.out, hks]; simp [joinB])
    have HROW1 : Hid ((#[.string ⟨#[69, 32, 91]⟩, .string ⟨#[65, 32, 91]⟩, .string ⟨#[69, 32, 91]⟩, .string ⟨#[65, 32, 91]⟩] : Array Value)[(f.kind - 15).toNat]? = some (.string ⟨(shp f.kind).1.toArray⟩)) := Lib.hid (by rcases (show f.kind = 15 ∨ f.kind = 16 ∨ f.kind = 17 ∨ f.kind = 18 by omega) with h | h | h | h <;> rw [h] <;> rfl)
    have HROW2 : Hid ((#[.string ⟨#[32, 85, 32]⟩, .string ⟨#[32, 85, 32]⟩, .string ⟨#[32, 82, 32]⟩, .string ⟨#[32, 82, 32]⟩] : Array Value)[(f.kind - 15).toNat]? = some (.string ⟨(shp f.kind).2.1.toArray⟩)) := Lib.hid (by rcases (show f.kind = 15 ∨ f.kind = 16 ∨ f.kind = 17 ∨ f.kind = 18 by omega) with h | h | h | h <;> rw [h] <;> rfl)
    have HSH : Hid ((shp f.kind).2.2 = [93]) := Lib.hid (by rcases (show f.kind = 15 ∨ f.kind = 16 ∨ f.kind = 17 ∨ f.kind = 18 by omega) with h | h | h | h <;> rw [h] <;> rfl)
    obtain ⟨hsl1, hsl2, hsl3⟩ := shp_len f.kind
    have hwr : IntKind.i64.wrap (f.kind - 15) = f.kind - 15 := IntWalk.i64_in _ (by omega)
    have hi0 : 0 ≤ f.kind - 15 := by omega
    have hi4 : f.kind - 15 < 4 := by omega
    have HZ1 := Lib.hid (stepA (w.alloc (.cells #[.int .i64 f.kind, .string ⟨f.name.toArray⟩, .int .i64 f.lit, .slice (some ⟨q, o, none⟩) f.kids.length c] 37)) (.cells #[.string ⟨#[69, 32, 91]⟩, .string ⟨#[65, 32, 91]⟩, .string ⟨#[69, 32, 91]⟩, .string ⟨#[65, 32, 91]⟩] 9))
    have HZ2 := Lib.hid (step2 HZ1.out (stepA ((w.alloc (.cells #[.int .i64 f.kind, .string ⟨f.name.toArray⟩, .int .i64 f.lit, .slice (some ⟨q, o, none⟩) f.kids.length c] 37)).alloc (.cells #[.string ⟨#[69, 32, 91]⟩, .string ⟨#[65, 32, 91]⟩, .string ⟨#[69, 32, 91]⟩, .string ⟨#[65, 32, 91]⟩] 9)) (.cells #[.string ⟨#[32, 85, 32]⟩, .string ⟨#[32, 85, 32]⟩, .string ⟨#[32, 82, 32]⟩, .string ⟨#[32, 82, 32]⟩] 9)))
    have z1 := ((Blk.new (w.alloc (.cells #[.int .i64 f.kind, .string ⟨f.name.toArray⟩, .int .i64 f.lit, .slice (some ⟨q, o, none⟩) f.kids.length c] 37)) 9 #[.string ⟨#[69, 32, 91]⟩, .string ⟨#[65, 32, 91]⟩, .string ⟨#[69, 32, 91]⟩, .string ⟨#[65, 32, 91]⟩]).cell (f.kind - 15).toNat).trans HROW1.out
    have z2 := ((Blk.new ((w.alloc (.cells #[.int .i64 f.kind, .string ⟨f.name.toArray⟩, .int .i64 f.lit, .slice (some ⟨q, o, none⟩) f.kids.length c] 37)).alloc (.cells #[.string ⟨#[69, 32, 91]⟩, .string ⟨#[65, 32, 91]⟩, .string ⟨#[69, 32, 91]⟩, .string ⟨#[65, 32, 91]⟩] 9)) 9 #[.string ⟨#[32, 85, 32]⟩, .string ⟨#[32, 85, 32]⟩, .string ⟨#[32, 82, 32]⟩, .string ⟨#[32, 82, 32]⟩]).cell (f.kind - 15).toNat).trans HROW2.out
    have y1 := (HSB.out _ HZ1.out).1.1
    have y2 := (HSB.out _ HZ2.out).1.1
    simp only [World.size_alloc] at z1 z2
    clear h1 h2 h3 h4 h8 h14 hkn hkw hkv hjv hmk hmj hks p0 p1 p2 p3 r0 r1 r2 r3
    go_enter Tryd.func57, Tryd.ntmps57
    go_wp2_with fail
    refine wp_region_noPanic ?_
    refine wp_region_grow (fun W => ((W.cell? ⟨w.heap.size, 0, none⟩ = some (.int .i64 f.kind) ∧ W.cell? ⟨w.heap.size, 3, none⟩ = some (.slice (some ⟨q, o, none⟩) f.kids.length c)) ∧ (W.cell? ⟨q, o, none⟩ = some (.int .i64 k.kind) ∧ W.cell? ⟨q, o + 1, none⟩ = some (.string ⟨k.name.toArray⟩) ∧ W.cell? ⟨q, o + 2, none⟩ = some (.int .i64 k.lit) ∧ W.cell? ⟨q, o + 3, none⟩ = some (.slice Ak k.kids.length ck)) ∧ (W.cell? ⟨q, o + 4, none⟩ = some (.int .i64 j.kind) ∧ W.cell? ⟨q, o + 5, none⟩ = some (.string ⟨j.name.toArray⟩) ∧ W.cell? ⟨q, o + 6, none⟩ = some (.int .i64 j.lit) ∧ W.cell? ⟨q, o + 7, none⟩ = some (.slice Aj j.kids.length cj)))) (Ord.ofList [0, 1, 2, 3, 4, 7, 9, 10, 11, 12, 5, 6, 8, 13, 14, 15, 16] .done) [0, 1, 2, 3, 4, 6, 7, 8, 9, 10, 11, 12, 14, 15, 16] (by kernel_rfl) (by kernel_rfl) rfl (by kernel_rfl) (fun _ _ _ _ _ h => h) ?_ (fun hSS => ?_)
    · exact HSB.out _ (step2 HZ2.out (stepD1 _))
    have HW0 := Lib.hid (step2 HZ2.out (stepD1 (((w.alloc (.cells #[.int .i64 f.kind, .string ⟨f.name.toArray⟩, .int .i64 f.lit, .slice (some ⟨q, o, none⟩) f.kids.length c] 37)).alloc (.cells #[.string ⟨#[69, 32, 91]⟩, .string ⟨#[65, 32, 91]⟩, .string ⟨#[69, 32, 91]⟩, .string ⟨#[65, 32, 91]⟩] 9)).alloc (.cells #[.string ⟨#[32, 85, 32]⟩, .string ⟨#[32, 85, 32]⟩, .string ⟨#[32, 82, 32]⟩, .string ⟨#[32, 82, 32]⟩] 9))))
    clear hSS z1 z2 y1 y2
    generalize (((w.alloc (.cells #[.int .i64 f.kind, .string ⟨f.name.toArray⟩, .int .i64 f.lit, .slice (some ⟨q, o, none⟩) f.kids.length c] 37)).alloc (.cells #[.string ⟨#[69, 32, 91]⟩, .string ⟨#[65, 32, 91]⟩, .string ⟨#[69, 32, 91]⟩, .string ⟨#[65, 32, 91]⟩] 9)).alloc (.cells #[.string ⟨#[32, 85, 32]⟩, .string ⟨#[32, 85, 32]⟩, .string ⟨#[32, 82, 32]⟩, .string ⟨#[32, 82, 32]⟩] 9)).drew = v0 at HW0 ⊢
    (refine wpGrow_mov rfl rfl ?_; intro o ho; simp only [List.getElem?_toArray, List.getElem?_cons_zero, List.getElem?_cons_succ, Option.some.injEq] at ho; subst ho; refine ⟨?_, Or.inl ⟨by rfl, fun W hSW => ?_⟩, ?_⟩; rotate_left; (focus (go_simp; first | done | with_reducible rfl)); try simp only [Act.put, List.setIfInBounds_toArray, List.set_cons_zero, List.set_cons_succ])
    (refine wpGrow_mov rfl rfl ?_; intro o ho; simp only [List.getElem?_toArray, List.getElem?_cons_zero, List.getElem?_cons_succ, Option.some.injEq] at ho; subst ho; refine ⟨?_, Or.inl ⟨by rfl, fun W hSW => ?_⟩, ?_⟩; rotate_left; (focus (go_simp; first | done | with_reducible rfl)); try simp only [Act.put, List.setIfInBounds_toArray, List.set_cons_zero, List.set_cons_succ])
    (refine wpGrow_mov rfl rfl ?_; intro o ho; simp only [List.getElem?_toArray, List.getElem?_cons_zero, List.getElem?_cons_succ, Option.some.injEq] at ho; subst ho; refine ⟨?_, Or.inl ⟨by rfl, fun W hSW => ?_⟩, ?_⟩; rotate_left; (focus (go_simp; first | done | with_reducible rfl)); try simp only [Act.put, List.setIfInBounds_toArray, List.set_cons_zero, List.set_cons_succ])
    (refine wpGrow_mov rfl rfl ?_; intro o ho; simp only [List.getElem?_toArray, List.getElem?_cons_zero, List.getElem?_cons_succ, Option.some.injEq] at ho; subst ho; refine ⟨?_, Or.inl ⟨by rfl, fun W hSW => ?_⟩, ?_⟩; rotate_left; (focus (go_simp; first | done | with_reducible rfl)); try simp only [Act.put, List.setIfInBounds_toArray, List.set_cons_zero, List.set_cons_succ])
    (refine wpGrow_mov rfl rfl ?_; intro o ho; simp only [List.getElem?_toArray, List.getElem?_cons_zero, List.getElem?_cons_succ, Option.some.injEq] at ho; subst ho; refine ⟨?_, Or.inl ⟨by rfl, fun W hSW => ?_⟩, ?_⟩; rotate_left; (focus (go_simp; first | done | with_reducible rfl)); try simp only [Act.put, List.setIfInBounds_toArray, List.set_cons_zero, List.set_cons_succ])
    (refine wpGrow_mov rfl rfl ?_; intro o ho; simp only [List.getElem?_toArray, List.getElem?_cons_zero, List.getElem?_cons_succ, Option.some.injEq] at ho; subst ho; refine ⟨?_, Or.inl ⟨by rfl, fun W hSW => ?_⟩, ?_⟩; rotate_left; (focus (go_simp; first | done | with_reducible rfl)); try simp only [Act.put, List.setIfInBounds_toArray, List.set_cons_zero, List.set_cons_succ])
    (refine wpGrow_mov rfl rfl ?_; intro o ho; simp only [List.getElem?_toArray, List.getElem?_cons_zero, List.getElem?_cons_succ, Option.some.injEq] at ho; subst ho; refine ⟨?_, Or.inl ⟨by rfl, fun W hSW => ?_⟩, ?_⟩; rotate_left; (focus (go_simp; first | done | with_reducible rfl)); try simp only [Act.put, List.setIfInBounds_toArray, List.set_cons_zero, List.set_cons_succ])
    (refine wpGrow_mov rfl rfl ?_; intro o ho; simp only [List.getElem?_toArray, List.getElem?_cons_zero, List.getElem?_cons_succ, Option.some.injEq] at ho; subst ho; refine ⟨?_, Or.inl ⟨by rfl, fun W hSW => ?_⟩, ?_⟩; rotate_left; (focus (go_simp; first | done | with_reducible rfl)); try simp only [Act.put, List.setIfInBounds_toArray, List.set_cons_zero, List.set_cons_succ])
    (refine wpGrow_mov rfl rfl ?_; intro o ho; simp only [List.getElem?_toArray, List.getElem?_cons_zero, List.getElem?_cons_succ, Option.some.injEq] at ho; subst ho; refine ⟨?_, Or.inl ⟨by rfl, fun W hSW => ?_⟩, ?_⟩; rotate_left; (focus (go_simp; first | done | with_reducible rfl)); try simp only [Act.put, List.setIfInBounds_toArray, List.set_cons_zero, List.set_cons_succ])
    (refine wpGrow_mov rfl rfl ?_; intro o ho; simp only [List.getElem?_toArray, List.getElem?_cons_zero, List.getElem?_cons_succ, Option.some.injEq] at ho; subst ho; refine ⟨?_, Or.inl ⟨by rfl, fun W hSW => ?_⟩, ?_⟩; rotate_left; (focus (go_simp; first | done | with_reducible rfl)); try simp only [Act.put, List.setIfInBounds_toArray, List.set_cons_zero, List.set_cons_succ])
    (refine wpGrow_fix rfl rfl ?_; intro o ho; simp only [List.getElem?_toArray, List.getElem?_cons_zero, List.getElem?_cons_succ, Option.some.injEq] at ho; subst ho; intro K hK)
    go_simp
    refine (HCk.out _ HW0.out).mono ?_
    rintro e w1 ⟨tk, rfl, ht, hb⟩
    have htk : tk.size ≤ 100000 := by rw [ba_size, ht]; exact HLk.out
    have HTk := Lib.hid ht
    have hsum1 : ¬ 9223372036854775807 < (shp f.kind).1.length + tk.size := by omega
    have hsum2 : ¬ 9223372036854775807 < (shp f.kind).1.length + tk.size + (shp f.kind).2.1.length := by omega
    have HW1 := Lib.hid (step2 HW0.out hb)
    clear ht hb
    (refine hK.out _ _ ⟨_, (fun _ h => h), HSB.out _ HW1.out, ?_⟩; clear hK K; try simp only [Act.put, List.setIfInBounds_toArray, List.set_cons_zero, List.set_cons_succ])
    (refine wpGrow_mov rfl rfl ?_; intro o ho; simp only [List.getElem?_toArray, List.getElem?_cons_zero, List.getElem?_cons_succ, Option.some.injEq] at ho; subst ho; refine ⟨?_, Or.inl ⟨by rfl, fun W hSW => ?_⟩, ?_⟩; rotate_left; (focus (go_simp; first | done | with_reducible rfl)); try simp only [Act.put, List.setIfInBounds_toArray, List.set_cons_zero, List.set_cons_succ])
    (refine wpGrow_mov rfl rfl ?_; intro o ho; simp only [List.getElem?_toArray, List.getElem?_cons_zero, List.getElem?_cons_succ, Option.some.injEq] at ho; subst ho; refine ⟨?_, Or.inl ⟨by rfl, fun W hSW => ?_⟩, ?_⟩; rotate_left; (focus (go_simp; first | done | with_reducible rfl)); try simp only [Act.put, List.setIfInBounds_toArray, List.set_cons_zero, List.set_cons_succ])
    (refine wpGrow_fix rfl rfl ?_; intro o ho; simp only [List.getElem?_toArray, List.getElem?_cons_zero, List.getElem?_cons_succ, Option.some.injEq] at ho; subst ho; intro K hK)
    go_simp
    refine (HCj.out _ HW1.out).mono ?_
    rintro e w2 ⟨tj, rfl, ht, hb⟩
    have htj : tj.size ≤ 100000 := by rw [ba_size, ht]; exact HLj.out
    have HTj := Lib.hid ht
    have hsum3 : ¬ 9223372036854775807 < (shp f.kind).1.length + tk.size + (shp f.kind).2.1.length + tj.size := by omega
    have hsum4 : ¬ 9223372036854775807 < (shp f.kind).1.length + tk.size + (shp f.kind).2.1.length + tj.size + 1 := by omega
    have HW2 := Lib.hid (step2 HW1.out hb)
    clear ht hb
    (refine hK.out _ _ ⟨_, (fun _ h => h), HSB.out _ HW2.out, ?_⟩; clear hK K; try simp only [Act.put, List.setIfInBounds_toArray, List.set_cons_zero, List.set_cons_succ])
    (refine wpGrow_mov rfl rfl ?_; intro o ho; simp only [List.getElem?_toArray, List.getElem?_cons_zero, List.getElem?_cons_succ, Option.some.injEq] at ho; subst ho; refine ⟨?_, Or.inl ⟨by rfl, fun W hSW => ?_⟩, ?_⟩; rotate_left; (focus (go_simp; first | done | with_reducible rfl)); try simp only [Act.put, List.setIfInBounds_toArray, List.set_cons_zero, List.set_cons_succ])
    (refine wpGrow_mov rfl rfl ?_; intro o ho; simp only [List.getElem?_toArray, List.getElem?_cons_zero, List.getElem?_cons_succ, Option.some.injEq] at ho; subst ho; refine ⟨?_, Or.inl ⟨by rfl, fun W hSW => ?_⟩, ?_⟩; rotate_left; (focus (go_simp; first | done | with_reducible rfl)); try simp only [Act.put, List.setIfInBounds_toArray, List.set_cons_zero, List.set_cons_succ])
    (refine wpGrow_mov rfl rfl ?_; intro o ho; simp only [List.getElem?_toArray, List.getElem?_cons_zero, List.getElem?_cons_succ, Option.some.injEq] at ho; subst ho; refine ⟨?_, Or.inl ⟨by rfl, fun W hSW => ?_⟩, ?_⟩; rotate_left; (focus (go_simp; first | done | with_reducible rfl)); try simp only [Act.put, List.setIfInBounds_toArray, List.set_cons_zero, List.set_cons_succ])
    refine wpGrow_done ?_
    go_wp2_with fail
    go_ret
    refine ⟨_, rfl, ?_, step2 HB1.out HW2.out⟩
    rw [HT4.out, HSH.out, ← HTk.out, ← HTj.out]
    simp [List.append_assoc]
end Go.Proofs.YtijecfmblddanaaDoor

set_option linter.unusedVariables false
set_option linter.unusedSimpArgs false
namespace Go.Proofs.YtijecfmblddanaaDoor
open Go.RowKit Go.Maps

theorem rr_ok (f : Fm) : rr f 60 = f.ok := rfl
theorem rr_size (f : Fm) : (if rr f 60 then (f.sz : Int) else 0) = (f.size : Int) := by
  rw [rr_ok]
  unfold Fm.size
  cases f.ok <;> rfl

set_option maxHeartbeats 1000000 in
theorem rfright_any (f : Fm) (A : Option Addr) (c : Nat) (w : World) (hf : FmV w w.heap.size f A c) : Calls Tryd.prog 37 #[fmA f A c] w (Ret w (.bool f.ok)) := by
  have hb1 := stepA w (.cells #[.int .i64 f.kind, .string ⟨f.name.toArray⟩, .int .i64 f.lit, .slice A f.kids.length c] 37)
  have hS := rright_any (f.sz + 1) f (Nat.lt_succ_self _) _ 60 A c (hf.after hb1) (by omega) (by omega)
  unfold RRet at hS
  rw [rr_size, rr_ok] at hS
  have HS := Lib.hid hS
  have HB1 := Lib.hid hb1
  clear hf hb1 hS
  unfold fmA at HS ⊢
  generalize (f.size : Int) = n at HS
  generalize f.ok = o at HS ⊢
  go_enter Tryd.func37, Tryd.ntmps37
  go_wp2_with fail
  refine HS.out.mono ?_
  rintro e w2 ⟨rfl, hb2⟩
  have HB2 := Lib.hid hb2
  clear hb2
  go_wp2_with fail
  go_ret
  exact Ret.mk rfl (step2 HB1.out HB2.out)

set_option maxHeartbeats 1000000 in
theorem rsize_any (f : Fm) (A : Option Addr) (c : Nat) (w : World) (hf : FmV w w.heap.size f A c) : Calls Tryd.prog 38 #[fmA f A c] w (Ret w (.int .i64 (f.size : Int))) := by
  have hb1 := stepA w (.cells #[.int .i64 f.kind, .string ⟨f.name.toArray⟩, .int .i64 f.lit, .slice A f.kids.length c] 37)
  have hS := rright_any (f.sz + 1) f (Nat.lt_succ_self _) _ 60 A c (hf.after hb1) (by omega) (by omega)
  unfold RRet at hS
  rw [rr_size, rr_ok] at hS
  have HS := Lib.hid hS
  have HB1 := Lib.hid hb1
  clear hf hb1 hS
  unfold fmA at HS ⊢
  generalize (f.size : Int) = n at HS ⊢
  generalize f.ok = o at HS
  go_enter Tryd.func38, Tryd.ntmps38
  go_wp2_with fail
  refine HS.out.mono ?_
  rintro e w2 ⟨rfl, hb2⟩
  have HB2 := Lib.hid hb2
  clear hb2
  go_wp2_with fail
  go_ret
  exact Ret.mk rfl (step2 HB1.out HB2.out)

set_option maxHeartbeats 1000000 in
theorem rprint_any (f : Fm) (A : Option Addr) (c : Nat) (w : World) (hf : FmV w w.heap.size f A c) : Calls Tryd.prog 35 #[fmA f A c] w (Ret w (printV f.print)) := by
  have hb1 := stepA w (.cells #[.int .i64 f.kind, .string ⟨f.name.toArray⟩, .int .i64 f.lit, .slice A f.kids.length c] 37)
  have HT := Lib.hid (Blk.new w 37 #[.int .i64 f.kind, .string ⟨f.name.toArray⟩, .int .i64 f.lit, .slice A f.kids.length c])
  have HR := Lib.hid (rfright_any f A c _ (hf.after hb1))
  have HP : Hid (f.print = if f.ok then (f.txt, 0) else ([], 1)) := Lib.hid rfl
  have HF := Lib.hid hf
  have HB1 := Lib.hid hb1
  have e0 := HT.out.cell 0
  have e1 := HT.out.cell 1
  have e2 := HT.out.cell 2
  have e3 := HT.out.cell 3
  clear hf hb1
  unfold printV
  cases hok : f.ok with
  | false =>
    rw [hok] at HR HP
    have HPP : Hid (f.print = ([], 1)) := Lib.hid HP.out
    unfold fmA at HR ⊢
    go_enter Tryd.func35, Tryd.ntmps35
    go_wp2_with fail
    refine HR.out.mono ?_
    rintro e w2 ⟨rfl, hb2⟩
    have HB2 := Lib.hid hb2
    clear hb2 hok
    go_wp2_with fail
    go_ret2
    rw [HPP.out]
    exact Ret.mk rfl (step2 HB1.out HB2.out)
  | true =>
    have HWF := Lib.hid (ok_wf hok)
    have HSZ : Hid (f.sz ≤ 2000) := Lib.hid (by
      unfold Fm.ok at hok
      simp only [Bool.and_eq_true, decide_eq_true_eq] at hok
      exact hok.2)
    have HTX := Lib.hid (fun W (h : Below w.heap.size w W) => rtext_any (f.sz + 1) f (Nat.lt_succ_self _) 60 HWF.out HSZ.out W w.heap.size A c (HF.out.low h) h.size)
    rw [hok] at HR HP
    have HPP : Hid (f.print = (f.txt, 0)) := Lib.hid HP.out
    unfold fmA at HR HTX ⊢
    go_enter Tryd.func35, Tryd.ntmps35
    go_wp2_with fail
    refine HR.out.mono ?_
    rintro e w2 ⟨rfl, hb2⟩
    have HT2 := HT.out.below hb2 (by simp)
    have q0 := HT2.cell 0
    have q1 := HT2.cell 1
    have q2 := HT2.cell 2
    have q3 := HT2.cell 3
    have HB2 := Lib.hid (step2 HB1.out hb2)
    clear hb2 hok e0 e1 e2 e3 HT2
    go_wp2_with fail
    refine (HTX.out _ HB2.out).mono ?_
    rintro e w3 ⟨t, rfl, ht, hb3⟩
    obtain rfl : t = ⟨f.txt.toArray⟩ := by rw [← ht]
    have HB3 := Lib.hid (step2 HB2.out hb3)
    clear ht hb3
    go_wp2_with fail
    go_ret2
    rw [HPP.out]
    exact Ret.mk rfl HB3.out
end Go.Proofs.YtijecfmblddanaaDoor

set_option linter.unusedVariables false
set_option linter.unusedSimpArgs false
namespace Go.Proofs.YtijecfmblddanaaDoor
open Go.RowKit Go.Maps

set_option maxRecDepth 100000 in
set_option maxHeartbeats 2000000 in
theorem lsame_any (f : Fm) (A : Option Addr) (c : Nat) (w : World) (hf : FmV w w.heap.size f A c) : Calls Tryd.prog 22 #[fmA f A c] w (Ret w (.bool true)) := by
  have hb1 := stepA w (.cells #[.int .i64 f.kind, .string ⟨f.name.toArray⟩, .int .i64 f.lit, .slice A f.kids.length c] 37)
  have hV := hf.after hb1
  have HX := Lib.hid (Blk.new w 37 #[.int .i64 f.kind, .string ⟨f.name.toArray⟩, .int .i64 f.lit, .slice A f.kids.length c])
  have HB1 := Lib.hid hb1
  have HP := Lib.hid (fun W (h : Below (w.alloc (.cells #[.int .i64 f.kind, .string ⟨f.name.toArray⟩, .int .i64 f.lit, .slice A f.kids.length c] 37)).heap.size (w.alloc (.cells #[.int .i64 f.kind, .string ⟨f.name.toArray⟩, .int .i64 f.lit, .slice A f.kids.length c] 37)) W) => print_any f A c W (hV.after h))
  have HQ := Lib.hid (fun W (h : Below (w.alloc (.cells #[.int .i64 f.kind, .string ⟨f.name.toArray⟩, .int .i64 f.lit, .slice A f.kids.length c] 37)).heap.size (w.alloc (.cells #[.int .i64 f.kind, .string ⟨f.name.toArray⟩, .int .i64 f.lit, .slice A f.kids.length c] 37)) W) => rprint_any f A c W (hV.after h))
  have HR := Lib.hid (fun W (h : Below (w.alloc (.cells #[.int .i64 f.kind, .string ⟨f.name.toArray⟩, .int .i64 f.lit, .slice A f.kids.length c] 37)).heap.size (w.alloc (.cells #[.int .i64 f.kind, .string ⟨f.name.toArray⟩, .int .i64 f.lit, .slice A f.kids.length c] 37)) W) => fright_any f A c W (hV.after h))
  have HT := Lib.hid (fun W (h : Below (w.alloc (.cells #[.int .i64 f.kind, .string ⟨f.name.toArray⟩, .int .i64 f.lit, .slice A f.kids.length c] 37)).heap.size (w.alloc (.cells #[.int .i64 f.kind, .string ⟨f.name.toArray⟩, .int .i64 f.lit, .slice A f.kids.length c] 37)) W) => rfright_any f A c W (hV.after h))
  have HU := Lib.hid (fun W (h : Below (w.alloc (.cells #[.int .i64 f.kind, .string ⟨f.name.toArray⟩, .int .i64 f.lit, .slice A f.kids.length c] 37)).heap.size (w.alloc (.cells #[.int .i64 f.kind, .string ⟨f.name.toArray⟩, .int .i64 f.lit, .slice A f.kids.length c] 37)) W) => size_any f A c W (hV.after h))
  have HV := Lib.hid (fun W (h : Below (w.alloc (.cells #[.int .i64 f.kind, .string ⟨f.name.toArray⟩, .int .i64 f.lit, .slice A f.kids.length c] 37)).heap.size (w.alloc (.cells #[.int .i64 f.kind, .string ⟨f.name.toArray⟩, .int .i64 f.lit, .slice A f.kids.length c] 37)) W) => rsize_any f A c W (hV.after h))
  have HSB : Hid (∀ W, Below (w.alloc (.cells #[.int .i64 f.kind, .string ⟨f.name.toArray⟩, .int .i64 f.lit, .slice A f.kids.length c] 37)).heap.size (w.alloc (.cells #[.int .i64 f.kind, .string ⟨f.name.toArray⟩, .int .i64 f.lit, .slice A f.kids.length c] 37)) W → (fun W => W.cell? ⟨w.heap.size, 0, none⟩ = some (.int .i64 f.kind) ∧ W.cell? ⟨w.heap.size, 1, none⟩ = some (.string ⟨f.name.toArray⟩) ∧ W.cell? ⟨w.heap.size, 2, none⟩ = some (.int .i64 f.lit) ∧ W.cell? ⟨w.heap.size, 3, none⟩ = some (.slice A f.kids.length c)) W) := Lib.hid fun W h => ⟨(HX.out.below h (by simp)).cell 0, (HX.out.below h (by simp)).cell 1, (HX.out.below h (by simp)).cell 2, (HX.out.below h (by simp)).cell 3⟩
  have HW0 := Lib.hid (Below.refl (w.alloc (.cells #[.int .i64 f.kind, .string ⟨f.name.toArray⟩, .int .i64 f.lit, .slice A f.kids.length c] 37)).heap.size (w.alloc (.cells #[.int .i64 f.kind, .string ⟨f.name.toArray⟩, .int .i64 f.lit, .slice A f.kids.length c] 37)))
  obtain ⟨e0, e1, e2, e3⟩ := HSB.out _ HW0.out
  clear hf hb1 hV
  unfold fmA at HP HQ HR HT HU HV ⊢
  unfold printV at HP HQ
  generalize f.print = pr at HP HQ
  generalize f.ok = ok at HR HT
  generalize (f.size : Int) = sz at HU HV
  obtain ⟨l, er⟩ := pr
  have hll : (l == l) = true := by simp
  have hee : (er == er) = true := by simp
  have hoo : (ok == ok) = true := by simp
  have hzz : (sz == sz) = true := by simp
  go_enter Tryd.func22, Tryd.ntmps22
  go_wp2_with fail
  refine (HP.out _ HW0.out).mono ?_
  rintro e w2 ⟨rfl, hb2⟩
  have HW2 := Lib.hid (step2 HW0.out hb2)
  obtain ⟨a0, a1, a2, a3⟩ := HSB.out _ HW2.out
  clear hb2 e0 e1 e2 e3
  go_wp2_with fail
  refine (HQ.out _ HW2.out).mono ?_
  rintro e w3 ⟨rfl, hb3⟩
  have HW3 := Lib.hid (step2 HW2.out hb3)
  clear hb3 a0 a1 a2 a3
  go_wp2_with fail
  refine wp_region_noPanic ?_
  refine wp_region_seq (fun W => W.cell? ⟨w.heap.size, 0, none⟩ = some (.int .i64 f.kind) ∧ W.cell? ⟨w.heap.size, 1, none⟩ = some (.string ⟨f.name.toArray⟩) ∧ W.cell? ⟨w.heap.size, 2, none⟩ = some (.int .i64 f.lit) ∧ W.cell? ⟨w.heap.size, 3, none⟩ = some (.slice A f.kids.length c)) [0, 2, 1, 3, 4, 5, 6, 8, 7, 9, 10, 11, 12, 13, 14, 15, 16, 17, 18, 19, 20, 21, 22] [0, 2, 4, 5, 6, 8, 10, 11, 12, 13, 14, 15, 16, 17, 18, 19, 20, 21, 22] [] (by kernel_rfl) (by kernel_rfl) rfl (by kernel_rfl) (by kernel_rfl) (fun _ _ _ _ _ h => h) ?_ (fun hSS => ?_)
  · exact HSB.out _ (step2 HW3.out (stepD1 _))
  have HW4 := Lib.hid (step2 HW3.out (stepD1 _))
  clear hSS
  generalize w3.drew = w4 at HW4 ⊢
  (refine wpSeq_mov rfl rfl ?_; intro o ho; simp only [List.getElem?_toArray, List.getElem?_cons_zero, List.getElem?_cons_succ, Option.some.injEq] at ho; subst ho; refine ⟨?_, Or.inl ⟨by rfl, fun W hSW => ?_⟩, ?_⟩; rotate_left; (focus (go_simp; first | done | with_reducible rfl)); try simp only [Act.put, List.setIfInBounds_toArray, List.set_cons_zero, List.set_cons_succ])
  (refine wpSeq_mov rfl rfl ?_; intro o ho; simp only [List.getElem?_toArray, List.getElem?_cons_zero, List.getElem?_cons_succ, Option.some.injEq] at ho; subst ho; refine ⟨?_, Or.inl ⟨by rfl, fun W hSW => ?_⟩, ?_⟩; rotate_left; (focus (go_simp; first | done | with_reducible rfl)); try simp only [Act.put, List.setIfInBounds_toArray, List.set_cons_zero, List.set_cons_succ])
  (refine wpSeq_fix rfl rfl ?_; intro o ho; simp only [List.getElem?_toArray, List.getElem?_cons_zero, List.getElem?_cons_succ, Option.some.injEq] at ho; subst ho; intro K hK)
  go_simp
  refine (HR.out _ HW4.out).mono ?_
  rintro e w5 ⟨rfl, hb⟩
  have HW5 := Lib.hid (step2 HW4.out hb)
  clear hb
  (refine hK.out _ _ (fun _ => HSB.out _ HW5.out) ?_; clear hK K; try simp only [Act.put, List.setIfInBounds_toArray, List.set_cons_zero, List.set_cons_succ])
  (refine wpSeq_fix rfl rfl ?_; intro o ho; simp only [List.getElem?_toArray, List.getElem?_cons_zero, List.getElem?_cons_succ, Option.some.injEq] at ho; subst ho; intro K hK)
  go_simp
  refine (HT.out _ HW5.out).mono ?_
  rintro e w6 ⟨rfl, hb⟩
  have HW6 := Lib.hid (step2 HW5.out hb)
  clear hb
  (refine hK.out _ _ (fun _ => HSB.out _ HW6.out) ?_; clear hK K; try simp only [Act.put, List.setIfInBounds_toArray, List.set_cons_zero, List.set_cons_succ])
  (refine wpSeq_mov rfl rfl ?_; intro o ho; simp only [List.getElem?_toArray, List.getElem?_cons_zero, List.getElem?_cons_succ, Option.some.injEq] at ho; subst ho; refine ⟨?_, Or.inl ⟨by rfl, fun W hSW => ?_⟩, ?_⟩; rotate_left; (focus (go_simp; first | done | with_reducible rfl)); try simp only [Act.put, List.setIfInBounds_toArray, List.set_cons_zero, List.set_cons_succ])
  (refine wpSeq_mov rfl rfl ?_; intro o ho; simp only [List.getElem?_toArray, List.getElem?_cons_zero, List.getElem?_cons_succ, Option.some.injEq] at ho; subst ho; refine ⟨?_, Or.inl ⟨by rfl, fun W hSW => ?_⟩, ?_⟩; rotate_left; (focus (go_simp; first | done | with_reducible rfl)); try simp only [Act.put, List.setIfInBounds_toArray, List.set_cons_zero, List.set_cons_succ])
  (refine wpSeq_mov rfl rfl ?_; intro o ho; simp only [List.getElem?_toArray, List.getElem?_cons_zero, List.getElem?_cons_succ, Option.some.injEq] at ho; subst ho; refine ⟨?_, Or.inl ⟨by rfl, fun W hSW => ?_⟩, ?_⟩; rotate_left; (focus (go_simp; first | done | with_reducible rfl)); try simp only [Act.put, List.setIfInBounds_toArray, List.set_cons_zero, List.set_cons_succ])
  (refine wpSeq_mov rfl rfl ?_; intro o ho; simp only [List.getElem?_toArray, List.getElem?_cons_zero, List.getElem?_cons_succ, Option.some.injEq] at ho; subst ho; refine ⟨?_, Or.inl ⟨by rfl, fun W hSW => ?_⟩, ?_⟩; rotate_left; (focus (go_simp; first | done | with_reducible rfl)); try simp only [Act.put, List.setIfInBounds_toArray, List.set_cons_zero, List.set_cons_succ])
  (refine wpSeq_fix rfl rfl ?_; intro o ho; simp only [List.getElem?_toArray, List.getElem?_cons_zero, List.getElem?_cons_succ, Option.some.injEq] at ho; subst ho; intro K hK)
  go_simp
  refine (HU.out _ HW6.out).mono ?_
  rintro e w7 ⟨rfl, hb⟩
  have HW7 := Lib.hid (step2 HW6.out hb)
  clear hb
  (refine hK.out _ _ (fun _ => HSB.out _ HW7.out) ?_; clear hK K; try simp only [Act.put, List.setIfInBounds_toArray, List.set_cons_zero, List.set_cons_succ])
  (refine wpSeq_fix rfl rfl ?_; intro o ho; simp only [List.getElem?_toArray, List.getElem?_cons_zero, List.getElem?_cons_succ, Option.some.injEq] at ho; subst ho; intro K hK)
  go_simp
  refine (HV.out _ HW7.out).mono ?_
  rintro e w8 ⟨rfl, hb⟩
  have HW8 := Lib.hid (step2 HW7.out hb)
  clear hb
  (refine hK.out _ _ (fun _ => HSB.out _ HW8.out) ?_; clear hK K; try simp only [Act.put, List.setIfInBounds_toArray, List.set_cons_zero, List.set_cons_succ])
  (refine wpSeq_mov rfl rfl ?_; intro o ho; simp only [List.getElem?_toArray, List.getElem?_cons_zero, List.getElem?_cons_succ, Option.some.injEq] at ho; subst ho; refine ⟨?_, Or.inl ⟨by rfl, fun W hSW => ?_⟩, ?_⟩; rotate_left; (focus (go_simp; first | done | with_reducible rfl)); try simp only [Act.put, List.setIfInBounds_toArray, List.set_cons_zero, List.set_cons_succ])
  (refine wpSeq_mov rfl rfl ?_; intro o ho; simp only [List.getElem?_toArray, List.getElem?_cons_zero, List.getElem?_cons_succ, Option.some.injEq] at ho; subst ho; refine ⟨?_, Or.inl ⟨by rfl, fun W hSW => ?_⟩, ?_⟩; rotate_left; (focus (go_simp; first | done | with_reducible rfl)); try simp only [Act.put, List.setIfInBounds_toArray, List.set_cons_zero, List.set_cons_succ])
  (refine wpSeq_mov rfl rfl ?_; intro o ho; simp only [List.getElem?_toArray, List.getElem?_cons_zero, List.getElem?_cons_succ, Option.some.injEq] at ho; subst ho; refine ⟨?_, Or.inl ⟨by rfl, fun W hSW => ?_⟩, ?_⟩; rotate_left; (focus (go_simp; first | done | with_reducible rfl)); try simp only [Act.put, List.setIfInBounds_toArray, List.set_cons_zero, List.set_cons_succ])
  (refine wpSeq_mov rfl rfl ?_; intro o ho; simp only [List.getElem?_toArray, List.getElem?_cons_zero, List.getElem?_cons_succ, Option.some.injEq] at ho; subst ho; refine ⟨?_, Or.inl ⟨by rfl, fun W hSW => ?_⟩, ?_⟩; rotate_left; (focus (go_simp; first | done | with_reducible rfl)); try simp only [Act.put, List.setIfInBounds_toArray, List.set_cons_zero, List.set_cons_succ])
  (refine wpSeq_mov rfl rfl ?_; intro o ho; simp only [List.getElem?_toArray, List.getElem?_cons_zero, List.getElem?_cons_succ, Option.some.injEq] at ho; subst ho; refine ⟨?_, Or.inl ⟨by rfl, fun W hSW => ?_⟩, ?_⟩; rotate_left; (focus (go_simp; first | done | with_reducible rfl)); try simp only [Act.put, List.setIfInBounds_toArray, List.set_cons_zero, List.set_cons_succ])
  (refine wpSeq_mov rfl rfl ?_; intro o ho; simp only [List.getElem?_toArray, List.getElem?_cons_zero, List.getElem?_cons_succ, Option.some.injEq] at ho; subst ho; refine ⟨?_, Or.inl ⟨by rfl, fun W hSW => ?_⟩, ?_⟩; rotate_left; (focus (go_simp; first | done | with_reducible rfl)); try simp only [Act.put, List.setIfInBounds_toArray, List.set_cons_zero, List.set_cons_succ])
  (refine wpSeq_mov rfl rfl ?_; intro o ho; simp only [List.getElem?_toArray, List.getElem?_cons_zero, List.getElem?_cons_succ, Option.some.injEq] at ho; subst ho; refine ⟨?_, Or.inl ⟨by rfl, fun W hSW => ?_⟩, ?_⟩; rotate_left; (focus (go_simp; first | done | with_reducible rfl)); try simp only [Act.put, List.setIfInBounds_toArray, List.set_cons_zero, List.set_cons_succ])
  (refine wpSeq_mov rfl rfl ?_; intro o ho; simp only [List.getElem?_toArray, List.getElem?_cons_zero, List.getElem?_cons_succ, Option.some.injEq] at ho; subst ho; refine ⟨?_, Or.inl ⟨by rfl, fun W hSW => ?_⟩, ?_⟩; rotate_left; (focus (go_simp; first | done | with_reducible rfl)); try simp only [Act.put, List.setIfInBounds_toArray, List.set_cons_zero, List.set_cons_succ])
  (refine wpSeq_mov rfl rfl ?_; intro o ho; simp only [List.getElem?_toArray, List.getElem?_cons_zero, List.getElem?_cons_succ, Option.some.injEq] at ho; subst ho; refine ⟨?_, Or.inl ⟨by rfl, fun W hSW => ?_⟩, ?_⟩; rotate_left; (focus (go_simp; first | done | with_reducible rfl)); try simp only [Act.put, List.setIfInBounds_toArray, List.set_cons_zero, List.set_cons_succ])
  (refine wpSeq_mov rfl rfl ?_; intro o ho; simp only [List.getElem?_toArray, List.getElem?_cons_zero, List.getElem?_cons_succ, Option.some.injEq] at ho; subst ho; refine ⟨?_, Or.inl ⟨by rfl, fun W hSW => ?_⟩, ?_⟩; rotate_left; (focus (go_simp; first | done | with_reducible rfl)); try simp only [Act.put, List.setIfInBounds_toArray, List.set_cons_zero, List.set_cons_succ])
  (refine wpSeq_mov rfl rfl ?_; intro o ho; simp only [List.getElem?_toArray, List.getElem?_cons_zero, List.getElem?_cons_succ, Option.some.injEq] at ho; subst ho; refine ⟨?_, Or.inl ⟨by rfl, fun W hSW => ?_⟩, ?_⟩; rotate_left; (focus (go_simp; first | done | with_reducible rfl)); try simp only [Act.put, List.setIfInBounds_toArray, List.set_cons_zero, List.set_cons_succ])
  (refine wpSeq_mov rfl rfl ?_; intro o ho; simp only [List.getElem?_toArray, List.getElem?_cons_zero, List.getElem?_cons_succ, Option.some.injEq] at ho; subst ho; refine ⟨?_, Or.inl ⟨by rfl, fun W hSW => ?_⟩, ?_⟩; rotate_left; (focus (go_simp; first | done | with_reducible rfl)); try simp only [Act.put, List.setIfInBounds_toArray, List.set_cons_zero, List.set_cons_succ])
  (refine wpSeq_mov rfl rfl ?_; intro o ho; simp only [List.getElem?_toArray, List.getElem?_cons_zero, List.getElem?_cons_succ, Option.some.injEq] at ho; subst ho; refine ⟨?_, Or.inl ⟨by rfl, fun W hSW => ?_⟩, ?_⟩; rotate_left; (focus (go_simp; first | done | with_reducible rfl)); try simp only [Act.put, List.setIfInBounds_toArray, List.set_cons_zero, List.set_cons_succ])
  refine wpSeq_done ?_
  go_wp2_with fail
  go_ret
  exact Ret.mk rfl (step2 HB1.out HW8.out)
end Go.Proofs.YtijecfmblddanaaDoor

set_option linter.unusedVariables false
set_option linter.unusedSimpArgs false
namespace Go.Proofs.YtijecfmblddanaaDoor
open Go.RowKit Go.Maps Go.Shelf

theorem sameL_false {fs gs : List Fm} (h : fs ≠ gs) : sameL fs gs = false := by
  rw [Bool.eq_false_iff]
  exact fun e => h ((sameL_iff fs gs).1 e)
theorem same_false {f g : Fm} (h : f ≠ g) : f.same g = false := by
  rw [Bool.eq_false_iff]
  exact fun e => h ((Fm.same_iff f g).1 e)

set_option maxHeartbeats 1000000 in
theorem eqf_any (fs gs : List Fm) (ih : ∀ k, k ∈ fs → ∀ (g : Fm) (w : World) (B : Nat) (A A' : Option Addr) (c c' : Nat), FmV w B k A c → FmV w B g A' c' → B ≤ w.heap.size → Calls Tryd.prog 23 #[fmA k A c, fmA g A' c'] w (Ret w (.bool (k.same g))))
    (w : World) (B : Nat) (A A' : Option Addr) (c c' : Nat) (hf : FmS w B fs A) (hg : FmS w B gs A') (hB : B ≤ w.heap.size) (h1 : fs.length ≤ 140737488355328) (h2 : gs.length ≤ 140737488355328) :
    Calls Tryd.prog 39 #[.slice A fs.length c, .slice A' gs.length c', .func (.func 23) #[] #[]] w (Ret w (.bool (sameL fs gs))) := by
  have hE : ∀ args w, (callFunc 23 args).run Tryd.prog w = .ok (.enter 23 args) w := enters_of Tryd.func23 (by kernel_rfl) rfl
  have HIH := Lib.hid ih
  have HF := Lib.hid hf
  have HG := Lib.hid hg
  clear ih hf hg
  by_cases hl : fs.length = gs.length
  · have hl' : ((fs.length : Int) != (gs.length : Int)) = false := by simp [hl]
    have HL := Lib.hid hl
    have hll : gs.length = fs.length := hl.symm
    clear hl
    rw [hll] at hl' h2 ⊢
    have HLL := Lib.hid hll
    clear hll
    go_enter Tryd.func39, Tryd.ntmps39
    go_wp2_with fail
    go_loopw [17] (fun iv wr => ∃ i : Nat, i ≤ fs.length ∧ iv = .int .i64 (i : Int) ∧ Below w.heap.size w wr ∧ ∀ j, j < i → fs[j]? = gs[j]?) (fun iv _ => fs.length - (intOf iv).toNat)
    case atStart => exact ⟨0, Nat.zero_le _, rfl, Below.refl _ _, fun j h => by omega⟩
    case round =>
      obtain ⟨i, hi, rfl, hbr, hall⟩ := hrel
      have hszr := hbr.size
      have HBR := Lib.hid hbr
      have HALL := Lib.hid hall
      clear hbr hall
      by_cases hlt : i < fs.length
      · have hlt' : (i : Int) < (fs.length : Int) := by omega
        obtain ⟨k, hk⟩ : ∃ k, fs[i]? = some k := ⟨_, List.getElem?_eq_getElem hlt⟩
        obtain ⟨g, hg⟩ : ∃ g, gs[i]? = some g := ⟨_, List.getElem?_eq_getElem (by rw [HLL.out]; exact hlt)⟩
        have hmem := List.mem_of_getElem? hk
        obtain ⟨q, o, Ak, ck, rfl, hq, ⟨q0, q1, q2, q3⟩, hkv⟩ := (HF.out.low (HBR.out.mono hB)).v hk
        have hst := stepA wr (.cells #[.int .i64 k.kind, .string ⟨k.name.toArray⟩, .int .i64 k.lit, .slice Ak k.kids.length ck] 37)
        obtain ⟨r, u, Ag, cg, rfl, hr, ⟨r0, r1, r2, r3⟩, hgv⟩ := ((HG.out.low (HBR.out.mono hB)).low (hst.mono (by omega))).v hg
        have hst2 := stepA (wr.alloc (.cells #[.int .i64 k.kind, .string ⟨k.name.toArray⟩, .int .i64 k.lit, .slice Ak k.kids.length ck] 37)) (.cells #[.int .i64 g.kind, .string ⟨g.name.toArray⟩, .int .i64 g.lit, .slice Ag g.kids.length cg] 37)
        have hst3 := step2 hst hst2
        have HC := Lib.hid (HIH.out k hmem g _ B Ak Ag ck cg (hkv.low (hst3.mono (by omega))) (hgv.low (hst2.mono (by have := hst.size; omega))) (by have := hst3.size; omega))
        have HST := Lib.hid (step2 HBR.out hst3)
        have HK := Lib.hid hk
        have HGG := Lib.hid hg
        unfold fmA at HC
        clear hst hst2 hst3 hkv hgv hk hg hmem
        go_wp2_with fail
        refine HC.out.mono ?_
        rintro e w3 ⟨rfl, hb3⟩
        have HB3 := Lib.hid (step2 HST.out hb3)
        clear hb3
        by_cases he : k = g
        · have hkg : k.same g = true := (Fm.same_iff k g).2 he
          have HEQ := Lib.hid he
          clear he
          rw [hkg]
          clear hkg
          go_wp2_with fail
          go_roundw
          case rel =>
            refine ⟨i + 1, by omega, by go_num, HB3.out, fun j hj => ?_⟩
            by_cases e : j = i
            · rw [e, HK.out, HGG.out, HEQ.out]
            · exact HALL.out j (by omega)
          case measure => simp [intOf]; omega
        · have hkg : k.same g = false := same_false he
          have HE : Hid (sameL fs gs = false) := Lib.hid (sameL_false fun e => he (by
            have h1 := HK.out
            rw [e, HGG.out] at h1
            exact (Option.some.inj h1).symm))
          clear he
          rw [hkg]
          clear hkg
          go_wp2_with fail
          go_ret
          rw [HE.out]
          exact ⟨rfl, HB3.out⟩
      · have hii : i = fs.length := by omega
        have HE : Hid (sameL fs gs = true) := Lib.hid ((sameL_iff fs gs).2 (List.ext_getElem? fun j => by
          by_cases hj : j < fs.length
          · exact HALL.out j (by omega)
          · rw [List.getElem?_eq_none (by omega), List.getElem?_eq_none (by rw [HLL.out]; omega)]))
        clear hii
        go_wp2_with fail
        go_ret
        rw [HE.out]
        exact ⟨rfl, HBR.out⟩
  · have hl' : ((fs.length : Int) != (gs.length : Int)) = true := by simp; omega
    have HE : Hid (sameL fs gs = false) := Lib.hid (sameL_false fun e => hl (by rw [e]))
    clear hl
    go_enter Tryd.func39, Tryd.ntmps39
    go_wp2_with fail
    go_ret
    rw [HE.out]
    exact ⟨rfl, Below.refl _ _⟩

set_option maxHeartbeats 1000000 in
theorem same_any : ∀ (n : Nat) (f : Fm), f.sz < n → ∀ (g : Fm) (w : World) (B : Nat) (A A' : Option Addr) (c c' : Nat), FmV w B f A c → FmV w B g A' c' → B ≤ w.heap.size → Calls Tryd.prog 23 #[fmA f A c, fmA g A' c'] w (Ret w (.bool (f.same g)))
  | 0, f, h => by omega
  | n + 1, f, hn => by
    intro g w B A A' c c' hf hg hB
    have hst := stepA w (.cells #[.int .i64 f.kind, .string ⟨f.name.toArray⟩, .int .i64 f.lit, .slice A f.kids.length c] 37)
    have hst2 := stepA (w.alloc (.cells #[.int .i64 f.kind, .string ⟨f.name.toArray⟩, .int .i64 f.lit, .slice A f.kids.length c] 37)) (.cells #[.int .i64 g.kind, .string ⟨g.name.toArray⟩, .int .i64 g.lit, .slice A' g.kids.length c'] 37)
    have hst3 := step2 hst hst2
    have hcap := hf.cap
    have hcap2 := hg.cap
    have hbig := hf.big
    have hbig2 := hg.big
    have HC := Lib.hid (eqf_any f.kids g.kids (fun k hk g w B A A' c c' h1 h2 h3 => same_any n k (by have := Fm.kid_sz hk; omega) g w B A A' c c' h1 h2 h3) _ B A A' c c' (hf.kids.low (hst3.mono hB)) (hg.kids.low (hst3.mono hB)) (by have := hst3.size; omega) (by omega) (by omega))
    have HST := Lib.hid hst3
    have HS : Hid (f.same g = (decide (f.kind = g.kind) && decide (f.name = g.name) && decide (f.lit = g.lit) && sameL f.kids g.kids)) := Lib.hid (f.same_eq g)
    have hnn : (f.name == g.name) = decide (f.name = g.name) := by rw [Bool.eq_iff_iff]; simp
    have hkk : (f.kind == g.kind) = decide (f.kind = g.kind) := by rw [Bool.eq_iff_iff]; simp
    have hll : (f.lit == g.lit) = decide (f.lit = g.lit) := by rw [Bool.eq_iff_iff]; simp
    clear hst hst2 hst3 hf hg hcap hcap2 hbig hbig2
    unfold fmA
    generalize f.same g = R at HS ⊢
    generalize sameL f.kids g.kids = S at HS HC
    generalize decide (f.kind = g.kind) = b1 at HS hkk
    generalize decide (f.name = g.name) = b2 at HS hnn
    generalize decide (f.lit = g.lit) = b3 at HS hll
    cases b1 with
    | false =>
      have HE : Hid (R = false) := Lib.hid (by rw [HS.out]; simp)
      go_enter Tryd.func23, Tryd.ntmps23
      go_wp2_with fail
      go_ret
      rw [HE.out]
      exact ⟨rfl, HST.out⟩
    | true =>
      cases b2 with
      | false =>
        have HE : Hid (R = false) := Lib.hid (by rw [HS.out]; simp)
        go_enter Tryd.func23, Tryd.ntmps23
        go_wp2_with fail
        go_ret
        rw [HE.out]
        exact ⟨rfl, HST.out⟩
      | true =>
        cases b3 with
        | false =>
          have HE : Hid (R = false) := Lib.hid (by rw [HS.out]; simp)
          go_enter Tryd.func23, Tryd.ntmps23
          go_wp2_with fail
          go_ret
          rw [HE.out]
          exact ⟨rfl, HST.out⟩
        | true =>
          have HE : Hid (R = S) := Lib.hid (by rw [HS.out]; simp)
          go_enter Tryd.func23, Tryd.ntmps23
          go_wp2_with fail
          refine HC.out.mono ?_
          rintro e w3 ⟨rfl, hb3⟩
          have HB3 := Lib.hid (step2 HST.out hb3)
          clear hb3
          go_wp2_with fail
          go_ret
          rw [HE.out]
          exact ⟨rfl, HB3.out⟩
end Go.Proofs.YtijecfmblddanaaDoor
