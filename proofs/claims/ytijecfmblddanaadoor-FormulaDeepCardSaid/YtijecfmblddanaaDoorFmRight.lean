/- Formulas: right, Size, Right. -/
import Derived.Test.YtijecfmblddanaaDoorSeq
import Derived.Test.YtijecfmblddanaaDoorFmShapes
import Derived.Test.YtijecfmblddanaaDoorFmWord
set_option linter.unusedVariables false
set_option linter.unusedSimpArgs false
namespace Go.Proofs.YtijecfmblddanaaDoor
open Go.RowKit Go.Maps

theorem below_grown {w w' : World} (h : Below w.heap.size w w') (row : Option Nat) : w.grownBy w' row := ⟨h.os, h.tape, h.output, h.size, fun i hi _ => h.block i hi⟩

/-- What right leaves. -/
structure RightP (f : Fm) (d m0 : Int) (xb mb : Nat) (w w' : World) (m1 : Int) : Prop where
  lo : m0 ≤ m1
  hi : m1 ≤ 2001
  eq : (f.wf d && decide (m0 + f.sz ≤ 2000)) = true → m1 = m0 + f.sz
  blk : Blk w' xb 70 #[.map (some mb), .int .i64 m1]
  grown : w.grownBy w' (some xb)
def RightPost (f : Fm) (d m0 : Int) (xb mb : Nat) (w : World) (e : Ending) (w' : World) : Prop := ∃ m1, e = .returned (.bool (f.wf d && decide (m0 + f.sz ≤ 2000))) ∧ RightP f d m0 xb mb w w' m1

theorem zeroShape (w : World) : (zeroValue 93).run Tryd.prog w = .ok (.agg #[.int .i64 0, .string ⟨#[]⟩, .string ⟨#[]⟩, .string ⟨#[]⟩]) w := by kernel_rfl

theorem wf_false1 {f : Fm} {d : Int} (h : d < 1 ∨ f.lit ≠ 0) : f.wf d = false := by
  rw [f.wf_eq]
  rcases h with h | h
  · rw [decide_eq_false (by omega)]
    rfl
  · rw [decide_eq_false h, Bool.and_false]
    rfl

set_option maxRecDepth 100000 in
set_option maxHeartbeats 4000000 in
theorem right_any : ∀ (n : Nat) (f : Fm), f.sz < n → ∀ (w : World) (xb mb B : Nat) (m0 d : Int) (A : Option Addr) (c : Nat), Blk w xb 70 #[.map (some mb), .int .i64 m0] → IMap Tryd.prog 3 w mb 17 shapeF → mb ≠ xb → FmV w B f A c → B ≤ xb → 0 ≤ m0 → m0 ≤ 2000 → -1000 ≤ d → d ≤ 60 →
    Calls Tryd.prog 46 #[.pointer (some ⟨xb, 0, none⟩), fmA f A c, .int .i64 d] w (RightPost f d m0 xb mb w)
  | 0, f, h => by omega
  | n + 1, f, hn => by
    intro w xb mb B m0 d A c hx hm hmx hf hB h0 h1 hd0 hd1
    have HIH := Lib.hid (right_any n)
    have hlt := hx.lt
    have hk1 := hf.kind.1
    have hk2 := hf.kind.2
    have hss : (w.setCell ⟨xb, 1, none⟩ (.int .i64 (m0 + 1))).heap.size = w.heap.size := by simp [World.setCell]
    have HX := Lib.hid ((hx.set_ 1 (.int .i64 (m0 + 1))).alloc (.cells #[.int .i64 f.kind, .string ⟨f.name.toArray⟩, .int .i64 f.lit, .slice A f.kids.length c] 37))
    have hT := Blk.new (w.setCell ⟨xb, 1, none⟩ (.int .i64 (m0 + 1))) 37 #[.int .i64 f.kind, .string ⟨f.name.toArray⟩, .int .i64 f.lit, .slice A f.kids.length c]
    rw [hss] at hT
    have HT := Lib.hid hT
    have HG := Lib.hid (grown_trans (grown_set (World.grownBy.refl w (some xb)) 1 (.int .i64 (m0 + 1))) (below_grown (stepA (w.setCell ⟨xb, 1, none⟩ (.int .i64 (m0 + 1))) (.cells #[.int .i64 f.kind, .string ⟨f.name.toArray⟩, .int .i64 f.lit, .slice A f.kids.length c] 37)) (some xb)))
    have HM := Lib.hid ((hm.far (p := ⟨xb, 1, none⟩) (by simpa using hmx) (.int .i64 (m0 + 1))).alloc (.cells #[.int .i64 f.kind, .string ⟨f.name.toArray⟩, .int .i64 f.lit, .slice A f.kids.length c] 37))
    clear hT hss
    have x0 : w.cell? ⟨xb, 0, none⟩ = some (.map (some mb)) := hx.cell 0
    have x1 : w.cell? ⟨xb, 1, none⟩ = some (.int .i64 m0) := hx.cell 1
    have xf : w.frozen? ⟨xb, 1, none⟩ = false := hx.frozen 1
    have HF := Lib.hid hf
    have HMW := Lib.hid hm
    have HWF := Lib.hid (f.wf_eq d)
    have HSZ := Lib.hid f.sz_eq
    clear hx hm hf
    unfold fmA
    have hszp := f.sz_pos
    by_cases hA : 2000 < m0 + 1
    · have HE : Hid ((f.wf d && decide (m0 + (f.sz : Int) ≤ 2000)) = false) := Lib.hid (by rw [decide_eq_false (by omega), Bool.and_false])
      go_enter Tryd.func46, Tryd.ntmps46
      go_wp2_with fail
      go_ret
      refine ⟨m0 + 1, by rw [HE.out]; rfl, by omega, by omega, (fun h => by rw [HE.out] at h; cases h), HX.out, HG.out⟩
    · have hA' : ¬ (2000 < m0 + 1) := hA
      by_cases hD : d < 1
      · have HE : Hid ((f.wf d && decide (m0 + (f.sz : Int) ≤ 2000)) = false) := Lib.hid (by rw [wf_false1 (.inl hD), Bool.false_and])
        go_enter Tryd.func46, Tryd.ntmps46
        go_wp2_with fail
        go_ret
        refine ⟨m0 + 1, by rw [HE.out]; rfl, by omega, by omega, (fun h => by rw [HE.out] at h; cases h), HX.out, HG.out⟩
      · by_cases hL : f.lit = 0
        · have hL' : (f.lit != 0) = false := by simp [hL]
          by_cases hK : f.kind = 3
          · have hK' : (f.kind == 3) = true := by simp [hK]
            have HWD := Lib.hid (fun w => word_any ⟨f.name.toArray⟩ (by show f.name.toArray.size ≤ _; rw [List.size_toArray]; have := HF.out.name; omega) w)
            have HE0 : Hid (f.wf d = (wordB f.name && decide (f.kids.length = 0))) := Lib.hid (by
              rw [HWF.out, decide_eq_true hL, decide_eq_true (show 1 ≤ d by omega), if_pos hK, hK, show nk 3 = 0 from rfl]
              cases hkk : f.kids with
              | nil => simp [wfL]
              | cons a l => simp; omega)
            clear hL hK
            have HW1 := HX
            go_enter Tryd.func46, Tryd.ntmps46
            go_wp2_with fail
            refine (HWD.out _).mono ?_
            rintro e w' ⟨rfl, hw'⟩
            have hw2 := hw'.symm
            subst hw2
            have hcap := HF.out.cap
            cases hwb : wordB f.name with
            | false =>
              have HE : Hid ((f.wf d && decide (m0 + (f.sz : Int) ≤ 2000)) = false) := Lib.hid (by rw [HE0.out, hwb]; rfl)
              clear hwb
              go_wp2_with fail
              go_ret
              refine ⟨m0 + 1, by rw [HE.out]; rfl, by omega, by omega, (fun h => by rw [HE.out] at h; cases h), HX.out, HG.out⟩
            | true =>
              by_cases hkl : f.kids.length = 0
              · have hsz1 : f.sz = 1 := by
                  rw [HSZ.out, List.eq_nil_of_length_eq_zero hkl]
                  rfl
                have HE : Hid ((f.wf d && decide (m0 + (f.sz : Int) ≤ 2000)) = true) := Lib.hid (by
                  rw [HE0.out, hwb, decide_eq_true hkl, hsz1, decide_eq_true (by omega)]
                  rfl)
                have hkl' : ((f.kids.length : Int) == 0) = true := by rw [beq_iff_eq]; omega
                have HS1 := Lib.hid hsz1
                clear hwb hkl hsz1
                go_wp2_with fail
                go_ret
                refine ⟨m0 + 1, by rw [HE.out]; rfl, by omega, by omega, (fun h => by rw [HS1.out]; rfl), HX.out, HG.out⟩
              · have HE : Hid ((f.wf d && decide (m0 + (f.sz : Int) ≤ 2000)) = false) := Lib.hid (by
                  rw [HE0.out, decide_eq_false hkl, Bool.and_false]
                  rfl)
                have hkl' : ((f.kids.length : Int) == 0) = false := by rw [beq_eq_false_iff_ne]; omega
                clear hwb hkl
                go_wp2_with fail
                go_ret
                refine ⟨m0 + 1, by rw [HE.out]; rfl, by omega, by omega, (fun h => by rw [HE.out] at h; cases h), HX.out, HG.out⟩
          · have hK' : (f.kind == 3) = false := by simpa using hK
            have HLK := Lib.hid (fun W (h : IMap Tryd.prog 3 W mb 17 shapeF) => h.look_ok Tryd.underlying3 Tryd.underlying65 (zeroShape W) hk1 hk2)
            have hMd := HM.out.drew
            have c0 := HX.out.cell 0
            have e0 := HT.out.cell 0
            have e1 := HT.out.cell 1
            have e3 := HT.out.cell 3
            by_cases hin : 1 ≤ f.kind ∧ f.kind ≤ 18
            · have hsh : shapeF f.kind = some (shapeV f.kind) := by unfold shapeF; rw [if_pos ⟨hin, hK⟩]
              rw [hsh] at HLK
              have hlk := HLK.out _ hMd
              have HE0 : Hid (f.wf d = (decide (nk f.kind = (f.kids.length : Int)) && decide (f.name = []) && wfL f.kids (d - 1))) := Lib.hid (by
                rw [HWF.out, decide_eq_true hL, decide_eq_true (show 1 ≤ d by omega), if_neg hK]
                simp)
              clear hL hK hsh hMd
              unfold shapeV at hlk HLK
              simp only [Option.getD_some, Option.isSome_some] at hlk HLK
              go_enter Tryd.func46, Tryd.ntmps46
              go_wp2_with fail
              refine wp_region_noPanic ?_
              refine wp_region_seq (fun W => (W.cell? ⟨xb, 0, none⟩ = some (.map (some mb)) ∧ W.cell? ⟨w.heap.size, 0, none⟩ = some (.int .i64 f.kind)) ∧ (Instr.lookup 65 (.map (some mb)) (.int .i64 f.kind) true).run Tryd.prog W = .ok (.tuple #[.agg #[.int .i64 (nk f.kind), .string ⟨(shp f.kind).1.toArray⟩, .string ⟨(shp f.kind).2.1.toArray⟩, .string ⟨(shp f.kind).2.2.toArray⟩], .bool true]) W) [0, 4, 5, 1, 2, 3, 6, 7, 8, 9, 10, 11, 12] [0, 4, 5, 1, 2, 3, 6, 7, 8, 9, 12] [] (by kernel_rfl) (by kernel_rfl) rfl (by kernel_rfl) (by kernel_rfl) (fun _ _ _ _ _ h => h) ?_ (fun hSS => ?_)
              · exact ⟨⟨c0, e0⟩, hlk⟩
              (refine wpSeq_mov rfl rfl ?_; intro o ho; simp only [List.getElem?_toArray, List.getElem?_cons_zero, List.getElem?_cons_succ, Option.some.injEq] at ho; subst ho; refine ⟨?_, Or.inl ⟨by rfl, fun W hSW => ?_⟩, ?_⟩; rotate_left; (focus (go_simp; first | done | with_reducible rfl)); try simp only [Act.put, List.setIfInBounds_toArray, List.set_cons_zero, List.set_cons_succ])
              (refine wpSeq_mov rfl rfl ?_; intro o ho; simp only [List.getElem?_toArray, List.getElem?_cons_zero, List.getElem?_cons_succ, Option.some.injEq] at ho; subst ho; refine ⟨?_, Or.inl ⟨by rfl, fun W hSW => ?_⟩, ?_⟩; rotate_left; (focus (go_simp; first | done | with_reducible rfl)); try simp only [Act.put, List.setIfInBounds_toArray, List.set_cons_zero, List.set_cons_succ])
              (refine wpSeq_mov rfl rfl ?_; intro o ho; simp only [List.getElem?_toArray, List.getElem?_cons_zero, List.getElem?_cons_succ, Option.some.injEq] at ho; subst ho; refine ⟨?_, Or.inl ⟨by rfl, fun W hSW => ?_⟩, ?_⟩; rotate_left; (focus (go_simp; first | done | with_reducible rfl)); try simp only [Act.put, List.setIfInBounds_toArray, List.set_cons_zero, List.set_cons_succ])
              (refine wpSeq_mov rfl rfl ?_; intro o ho; simp only [List.getElem?_toArray, List.getElem?_cons_zero, List.getElem?_cons_succ, Option.some.injEq] at ho; subst ho; refine ⟨?_, Or.inl ⟨by rfl, fun W hSW => ?_⟩, ?_⟩; rotate_left; (focus (go_simp; first | done | with_reducible rfl)); try simp only [Act.put, List.setIfInBounds_toArray, List.set_cons_zero, List.set_cons_succ])
              (refine wpSeq_mov rfl rfl ?_; intro o ho; simp only [List.getElem?_toArray, List.getElem?_cons_zero, List.getElem?_cons_succ, Option.some.injEq] at ho; subst ho; refine ⟨?_, Or.inl ⟨by rfl, fun W hSW => ?_⟩, ?_⟩; rotate_left; (focus (go_simp; first | done | with_reducible rfl)); try simp only [Act.put, List.setIfInBounds_toArray, List.set_cons_zero, List.set_cons_succ])
              (refine wpSeq_mov rfl rfl ?_; intro o ho; simp only [List.getElem?_toArray, List.getElem?_cons_zero, List.getElem?_cons_succ, Option.some.injEq] at ho; subst ho; refine ⟨?_, Or.inl ⟨by rfl, fun W hSW => ?_⟩, ?_⟩; rotate_left; (focus (go_simp; first | done | with_reducible rfl)); try simp only [Act.put, List.setIfInBounds_toArray, List.set_cons_zero, List.set_cons_succ])
              (refine wpSeq_mov rfl rfl ?_; intro o ho; simp only [List.getElem?_toArray, List.getElem?_cons_zero, List.getElem?_cons_succ, Option.some.injEq] at ho; subst ho; refine ⟨?_, Or.inl ⟨by rfl, fun W hSW => ?_⟩, ?_⟩; rotate_left; (focus (go_simp; first | done | with_reducible rfl)); try simp only [Act.put, List.setIfInBounds_toArray, List.set_cons_zero, List.set_cons_succ])
              (refine wpSeq_mov rfl rfl ?_; intro o ho; simp only [List.getElem?_toArray, List.getElem?_cons_zero, List.getElem?_cons_succ, Option.some.injEq] at ho; subst ho; refine ⟨?_, Or.inl ⟨by rfl, fun W hSW => ?_⟩, ?_⟩; rotate_left; (focus (go_simp; first | done | with_reducible rfl)); try simp only [Act.put, List.setIfInBounds_toArray, List.set_cons_zero, List.set_cons_succ])
              (refine wpSeq_mov rfl rfl ?_; intro o ho; simp only [List.getElem?_toArray, List.getElem?_cons_zero, List.getElem?_cons_succ, Option.some.injEq] at ho; subst ho; refine ⟨?_, Or.inl ⟨by rfl, fun W hSW => ?_⟩, ?_⟩; rotate_left; (focus (go_simp; first | done | with_reducible rfl)); try simp only [Act.put, List.setIfInBounds_toArray, List.set_cons_zero, List.set_cons_succ])
              (refine wpSeq_mov rfl rfl ?_; intro o ho; simp only [List.getElem?_toArray, List.getElem?_cons_zero, List.getElem?_cons_succ, Option.some.injEq] at ho; subst ho; refine ⟨?_, Or.inl ⟨by rfl, fun W hSW => ?_⟩, ?_⟩; rotate_left; (focus (go_simp; first | done | with_reducible rfl)); try simp only [Act.put, List.setIfInBounds_toArray, List.set_cons_zero, List.set_cons_succ])
              (refine wpSeq_fix rfl rfl ?_; intro o ho; simp only [List.getElem?_toArray, List.getElem?_cons_zero, List.getElem?_cons_succ, Option.some.injEq] at ho; subst ho; intro K hK)
              go_simp
              (refine hK.out _ _ (fun _ => ⟨⟨(HX.out.alloc _).cell 0, (HT.out.alloc _).cell 0⟩, HLK.out _ (HM.out.alloc _).drew⟩) ?_; clear hK K; try simp only [Act.put, List.setIfInBounds_toArray, List.set_cons_zero, List.set_cons_succ])
              (refine wpSeq_fix rfl rfl ?_; intro o ho; simp only [List.getElem?_toArray, List.getElem?_cons_zero, List.getElem?_cons_succ, Option.some.injEq] at ho; subst ho; intro K hK)
              go_simp
              (refine hK.out _ _ (fun _ => ⟨⟨(HX.out.alloc _).cell 0, (HT.out.alloc _).cell 0⟩, HLK.out _ (HM.out.alloc _).drew⟩) ?_; clear hK K; try simp only [Act.put, List.setIfInBounds_toArray, List.set_cons_zero, List.set_cons_succ])
              (refine wpSeq_mov rfl rfl ?_; intro o ho; simp only [List.getElem?_toArray, List.getElem?_cons_zero, List.getElem?_cons_succ, Option.some.injEq] at ho; subst ho; refine ⟨?_, Or.inl ⟨by rfl, fun W hSW => ?_⟩, ?_⟩; rotate_left; (focus (go_simp; first | done | with_reducible rfl)); try simp only [Act.put, List.setIfInBounds_toArray, List.set_cons_zero, List.set_cons_succ])
              refine wpSeq_done ?_
              have hXV := (HX.out.alloc (.cells #[.int .i64 (nk f.kind), .string ⟨(shp f.kind).1.toArray⟩, .string ⟨(shp f.kind).2.1.toArray⟩, .string ⟨(shp f.kind).2.2.toArray⟩] 93)).drew
              have hTV := (HT.out.alloc (.cells #[.int .i64 (nk f.kind), .string ⟨(shp f.kind).1.toArray⟩, .string ⟨(shp f.kind).2.1.toArray⟩, .string ⟨(shp f.kind).2.2.toArray⟩] 93)).drew
              have hYV := (Blk.new ((w.setCell ⟨xb, 1, none⟩ (.int .i64 (m0 + 1))).alloc (.cells #[.int .i64 f.kind, .string ⟨f.name.toArray⟩, .int .i64 f.lit, .slice A f.kids.length c] 37)) 93 #[.int .i64 (nk f.kind), .string ⟨(shp f.kind).1.toArray⟩, .string ⟨(shp f.kind).2.1.toArray⟩, .string ⟨(shp f.kind).2.2.toArray⟩]).drew
              rw [show ((w.setCell ⟨xb, 1, none⟩ (.int .i64 (m0 + 1))).alloc (.cells #[.int .i64 f.kind, .string ⟨f.name.toArray⟩, .int .i64 f.lit, .slice A f.kids.length c] 37)).heap.size = w.heap.size + 1 by simp [World.setCell]] at hYV
              have hGV : w.grownBy (((w.setCell ⟨xb, 1, none⟩ (.int .i64 (m0 + 1))).alloc (.cells #[.int .i64 f.kind, .string ⟨f.name.toArray⟩, .int .i64 f.lit, .slice A f.kids.length c] 37)).alloc (.cells #[.int .i64 (nk f.kind), .string ⟨(shp f.kind).1.toArray⟩, .string ⟨(shp f.kind).2.1.toArray⟩, .string ⟨(shp f.kind).2.2.toArray⟩] 93)).drew (some xb) := grown_trans HG.out (below_grown (step2 (stepA _ _) (stepD1 _)) _)
              generalize (((w.setCell ⟨xb, 1, none⟩ (.int .i64 (m0 + 1))).alloc (.cells #[.int .i64 f.kind, .string ⟨f.name.toArray⟩, .int .i64 f.lit, .slice A f.kids.length c] 37)).alloc (.cells #[.int .i64 (nk f.kind), .string ⟨(shp f.kind).1.toArray⟩, .string ⟨(shp f.kind).2.1.toArray⟩, .string ⟨(shp f.kind).2.2.toArray⟩] 93)).drew = V at hXV hTV hYV hGV ⊢
              have g1 : V.cell? ⟨w.heap.size, 1, none⟩ = some (.string ⟨f.name.toArray⟩) := hTV.cell 1
              have g3 : V.cell? ⟨w.heap.size, 3, none⟩ = some (.slice A f.kids.length c) := hTV.cell 3
              have y0 : V.cell? ⟨w.heap.size + 1, 0, none⟩ = some (.int .i64 (nk f.kind)) := hYV.cell 0
              have HXV := Lib.hid hXV
              have HGV := Lib.hid hGV
              clear hXV hTV hYV hGV hSS
              have hkb : f.kids.length ≤ 140737488355328 := Nat.le_trans HF.out.cap HF.out.big
              have hemp : (⟨f.name.toArray⟩ : ByteArray).toList.isEmpty = decide (f.name = []) := by
                rw [Lib.toList_data]
                show f.name.isEmpty = _
                cases f.name <;> simp
              by_cases hnm : f.name = []
              · have hemp' : (⟨f.name.toArray⟩ : ByteArray).toList.isEmpty = true := by rw [hemp, decide_eq_true hnm]
                have HNM := Lib.hid hnm
                clear hemp hnm
                by_cases hkl : nk f.kind = (f.kids.length : Int)
                · have hkl' : ((f.kids.length : Int) != nk f.kind) = false := by rw [hkl]; simp
                  have HKL := Lib.hid hkl
                  have HT0 : Hid (f.wf d = wfL f.kids (d - 1)) := Lib.hid (by rw [HE0.out, decide_eq_true HNM.out, decide_eq_true hkl]; simp)
                  clear hkl
                  go_wp2_with fail
                  go_loopw [72] (fun iv wr => ∃ (i : Nat) (m : Int), i ≤ f.kids.length ∧ iv = .int .i64 (i : Int) ∧ m = m0 + 1 + (szL (f.kids.take i) : Nat) ∧ m ≤ 2000 ∧ wfL (f.kids.take i) (d - 1) = true ∧ Blk wr xb 70 #[.map (some mb), .int .i64 m] ∧ w.grownBy wr (some xb)) (fun iv _ => f.kids.length - (intOf iv).toNat)
                  case atStart => exact ⟨0, m0 + 1, Nat.zero_le _, rfl, by simp [szL], by omega, rfl, HXV.out, HGV.out⟩
                  case round =>
                    obtain ⟨i, m, hi, rfl, hm, hm2, hwf, hxr, hgr⟩ := hrel
                    have HXR := Lib.hid hxr
                    have HGR := Lib.hid hgr
                    have HWFI := Lib.hid hwf
                    have HMI := Lib.hid hm
                    have hsr := hgr.size
                    clear hwf hxr hgr
                    by_cases hlt : i < f.kids.length
                    · have hlt' : (i : Int) < (f.kids.length : Int) := by omega
                      obtain ⟨k, hk⟩ : ∃ k, f.kids[i]? = some k := ⟨_, List.getElem?_eq_getElem hlt⟩
                      have hksz : k.sz < n := by
                        have := Fm.kid_sz (List.mem_of_getElem? hk)
                        omega
                      obtain ⟨b, o, A', c', rfl, hb, ⟨q0, q1, q2, q3⟩, hv⟩ := (HF.out.kids.grown (by omega) HGR.out (fun r e => by cases e; exact hB)).v hk
                      have hst := stepA wr (.cells #[.int .i64 k.kind, .string ⟨k.name.toArray⟩, .int .i64 k.lit, .slice A' k.kids.length c'] 37)
                      have hcall := HIH.out k hksz (wr.alloc (.cells #[.int .i64 k.kind, .string ⟨k.name.toArray⟩, .int .i64 k.lit, .slice A' k.kids.length c'] 37)) xb mb B m (d - 1) A' c' (HXR.out.alloc _) ((HMW.out.same (HGR.out.block mb HMW.out.lt (fun e => hmx (by cases e; rfl)))).alloc _) hmx (hv.low (hst.mono (by omega))) hB (by omega) hm2 (by omega) (by omega)
                      have HC := Lib.hid hcall
                      have HST := Lib.hid hst
                      have HK := Lib.hid hk
                      clear hcall hst hk hv hm
                      unfold fmA at HC
                      go_wp2_with fail
                      refine HC.out.mono ?_
                      rintro e w3 ⟨m1, rfl, hP⟩
                      have HP := Lib.hid hP
                      clear hP
                      have HG3 := Lib.hid (grown_trans HGR.out (grown_trans (below_grown HST.out (some xb)) HP.out.grown))
                      have hszi : szL (f.kids.take (i + 1)) = szL (f.kids.take i) + k.sz := by rw [List.take_add_one, HK.out]; exact szL_snoc _ _
                      have hszle := szL_take_le f.kids (i + 1)
                      have hsf := HSZ.out
                      have hwi : wfL (f.kids.take (i + 1)) (d - 1) = (wfL (f.kids.take i) (d - 1) && k.wf (d - 1)) := by rw [List.take_add_one, HK.out]; exact wfL_snoc _ _ _
                      cases hres : (k.wf (d - 1) && decide (m + (k.sz : Int) ≤ 2000)) with
                      | true =>
                        have hm1 := HP.out.eq hres
                        have hres2 := hres
                        simp only [Bool.and_eq_true, decide_eq_true_eq] at hres2
                        have HR2 := Lib.hid hres2
                        have HM1 := Lib.hid hm1
                        have HWI := Lib.hid hwi
                        have HSZI := Lib.hid hszi
                        clear hres hres2 hm1 hwi hszi hsf
                        go_wp2_with fail
                        go_roundw
                        case rel =>
                          refine ⟨i + 1, m1, by omega, by go_num, ?_, ?_, ?_, HP.out.blk, HG3.out⟩
                          · rw [HM1.out, HMI.out, HSZI.out]
                            omega
                          · rw [HM1.out]
                            exact HR2.out.2
                          · rw [HWI.out, HWFI.out, HR2.out.1]
                            rfl
                        case measure => simp [intOf]; omega
                      | false =>
                        have HE : Hid ((f.wf d && decide (m0 + (f.sz : Int) ≤ 2000)) = false) := Lib.hid (by
                          rw [HT0.out]
                          cases hkw : k.wf (d - 1) with
                          | true =>
                            rw [hkw, Bool.true_and, decide_eq_false_iff_not] at hres
                            have hmm := HMI.out
                            rw [decide_eq_false (by omega), Bool.and_false]
                          | false =>
                            have : wfL f.kids (d - 1) = false := by
                              rw [wfL_all, Bool.eq_false_iff]
                              intro h2
                              rw [List.all_eq_true] at h2
                              have := h2 k (List.mem_of_getElem? HK.out)
                              rw [hkw] at this
                              cases this
                            rw [this, Bool.false_and])
                        have hm0 : m0 ≤ m1 := by
                          have := HP.out.lo
                          have := HMI.out
                          omega
                        clear hres hwi hszi hsf
                        go_wp2_with fail
                        go_ret
                        refine ⟨m1, by rw [HE.out]; rfl, hm0, HP.out.hi, (fun h => by rw [HE.out] at h; cases h), HP.out.blk, HG3.out⟩
                    · obtain rfl : i = f.kids.length := by omega
                      have hsf := HSZ.out
                      have hmm := HMI.out
                      rw [List.take_length] at hmm
                      have hw3 := HWFI.out
                      rw [List.take_length] at hw3
                      have hme : m = m0 + (f.sz : Int) := by omega
                      have HE : Hid ((f.wf d && decide (m0 + (f.sz : Int) ≤ 2000)) = true) := Lib.hid (by rw [HT0.out, hw3, decide_eq_true (by omega)]; rfl)
                      have HME := Lib.hid hme
                      clear hsf hmm hw3 hme hm
                      go_wp2_with fail
                      go_ret
                      refine ⟨m, by rw [HE.out]; rfl, by have := HMI.out; omega, by omega, (fun _ => HME.out), HXR.out, HGR.out⟩
                · have hkl' : ((f.kids.length : Int) != nk f.kind) = true := by rw [bne_iff_ne]; exact fun e => hkl e.symm
                  have HE : Hid ((f.wf d && decide (m0 + (f.sz : Int) ≤ 2000)) = false) := Lib.hid (by rw [HE0.out, decide_eq_false hkl]; rfl)
                  clear hkl
                  go_wp2_with fail
                  go_ret
                  refine ⟨m0 + 1, by rw [HE.out]; rfl, by omega, by omega, (fun h => by rw [HE.out] at h; cases h), HXV.out, HGV.out⟩
              · have hnm' : ¬ f.name = [] := hnm
                have HE : Hid ((f.wf d && decide (m0 + (f.sz : Int) ≤ 2000)) = false) := Lib.hid (by rw [HE0.out, decide_eq_false hnm, Bool.and_false]; rfl)
                clear hemp
                go_wp2_with fail
                go_ret
                refine ⟨m0 + 1, by rw [HE.out]; rfl, by omega, by omega, (fun h => by rw [HE.out] at h; cases h), HXV.out, HGV.out⟩
            · have hsh : shapeF f.kind = none := by unfold shapeF; rw [if_neg (fun h => hin h.1)]
              rw [hsh] at HLK
              have hlk := HLK.out _ hMd
              have HE : Hid ((f.wf d && decide (m0 + (f.sz : Int) ≤ 2000)) = false) := Lib.hid (by
                rw [HWF.out, show nk f.kind = -1 by unfold nk; rw [if_pos (by omega)], decide_eq_false (show ¬ (-1 : Int) = (f.kids.length : Int) by omega)]
                simp)
              clear hL hK hsh hMd
              simp only [Option.getD_none, Option.isSome_none] at hlk HLK
              go_enter Tryd.func46, Tryd.ntmps46
              go_wp2_with fail
              refine wp_region_noPanic ?_
              refine wp_region_seq (fun W => (W.cell? ⟨xb, 0, none⟩ = some (.map (some mb)) ∧ W.cell? ⟨w.heap.size, 0, none⟩ = some (.int .i64 f.kind)) ∧ (Instr.lookup 65 (.map (some mb)) (.int .i64 f.kind) true).run Tryd.prog W = .ok (.tuple #[.agg #[.int .i64 0, .string ⟨#[]⟩, .string ⟨#[]⟩, .string ⟨#[]⟩], .bool false]) W) [0, 4, 5, 1, 2, 3, 6, 7, 8, 9, 10, 11, 12] [0, 4, 5, 1, 2, 3, 6, 7, 8, 9, 12] [] (by kernel_rfl) (by kernel_rfl) rfl (by kernel_rfl) (by kernel_rfl) (fun _ _ _ _ _ h => h) ?_ (fun hSS => ?_)
              · exact ⟨⟨c0, e0⟩, hlk⟩
              (refine wpSeq_mov rfl rfl ?_; intro o ho; simp only [List.getElem?_toArray, List.getElem?_cons_zero, List.getElem?_cons_succ, Option.some.injEq] at ho; subst ho; refine ⟨?_, Or.inl ⟨by rfl, fun W hSW => ?_⟩, ?_⟩; rotate_left; (focus (go_simp; first | done | with_reducible rfl)); try simp only [Act.put, List.setIfInBounds_toArray, List.set_cons_zero, List.set_cons_succ])
              (refine wpSeq_mov rfl rfl ?_; intro o ho; simp only [List.getElem?_toArray, List.getElem?_cons_zero, List.getElem?_cons_succ, Option.some.injEq] at ho; subst ho; refine ⟨?_, Or.inl ⟨by rfl, fun W hSW => ?_⟩, ?_⟩; rotate_left; (focus (go_simp; first | done | with_reducible rfl)); try simp only [Act.put, List.setIfInBounds_toArray, List.set_cons_zero, List.set_cons_succ])
              (refine wpSeq_mov rfl rfl ?_; intro o ho; simp only [List.getElem?_toArray, List.getElem?_cons_zero, List.getElem?_cons_succ, Option.some.injEq] at ho; subst ho; refine ⟨?_, Or.inl ⟨by rfl, fun W hSW => ?_⟩, ?_⟩; rotate_left; (focus (go_simp; first | done | with_reducible rfl)); try simp only [Act.put, List.setIfInBounds_toArray, List.set_cons_zero, List.set_cons_succ])
              (refine wpSeq_mov rfl rfl ?_; intro o ho; simp only [List.getElem?_toArray, List.getElem?_cons_zero, List.getElem?_cons_succ, Option.some.injEq] at ho; subst ho; refine ⟨?_, Or.inl ⟨by rfl, fun W hSW => ?_⟩, ?_⟩; rotate_left; (focus (go_simp; first | done | with_reducible rfl)); try simp only [Act.put, List.setIfInBounds_toArray, List.set_cons_zero, List.set_cons_succ])
              (refine wpSeq_mov rfl rfl ?_; intro o ho; simp only [List.getElem?_toArray, List.getElem?_cons_zero, List.getElem?_cons_succ, Option.some.injEq] at ho; subst ho; refine ⟨?_, Or.inl ⟨by rfl, fun W hSW => ?_⟩, ?_⟩; rotate_left; (focus (go_simp; first | done | with_reducible rfl)); try simp only [Act.put, List.setIfInBounds_toArray, List.set_cons_zero, List.set_cons_succ])
              (refine wpSeq_mov rfl rfl ?_; intro o ho; simp only [List.getElem?_toArray, List.getElem?_cons_zero, List.getElem?_cons_succ, Option.some.injEq] at ho; subst ho; refine ⟨?_, Or.inl ⟨by rfl, fun W hSW => ?_⟩, ?_⟩; rotate_left; (focus (go_simp; first | done | with_reducible rfl)); try simp only [Act.put, List.setIfInBounds_toArray, List.set_cons_zero, List.set_cons_succ])
              (refine wpSeq_mov rfl rfl ?_; intro o ho; simp only [List.getElem?_toArray, List.getElem?_cons_zero, List.getElem?_cons_succ, Option.some.injEq] at ho; subst ho; refine ⟨?_, Or.inl ⟨by rfl, fun W hSW => ?_⟩, ?_⟩; rotate_left; (focus (go_simp; first | done | with_reducible rfl)); try simp only [Act.put, List.setIfInBounds_toArray, List.set_cons_zero, List.set_cons_succ])
              (refine wpSeq_mov rfl rfl ?_; intro o ho; simp only [List.getElem?_toArray, List.getElem?_cons_zero, List.getElem?_cons_succ, Option.some.injEq] at ho; subst ho; refine ⟨?_, Or.inl ⟨by rfl, fun W hSW => ?_⟩, ?_⟩; rotate_left; (focus (go_simp; first | done | with_reducible rfl)); try simp only [Act.put, List.setIfInBounds_toArray, List.set_cons_zero, List.set_cons_succ])
              (refine wpSeq_mov rfl rfl ?_; intro o ho; simp only [List.getElem?_toArray, List.getElem?_cons_zero, List.getElem?_cons_succ, Option.some.injEq] at ho; subst ho; refine ⟨?_, Or.inl ⟨by rfl, fun W hSW => ?_⟩, ?_⟩; rotate_left; (focus (go_simp; first | done | with_reducible rfl)); try simp only [Act.put, List.setIfInBounds_toArray, List.set_cons_zero, List.set_cons_succ])
              (refine wpSeq_mov rfl rfl ?_; intro o ho; simp only [List.getElem?_toArray, List.getElem?_cons_zero, List.getElem?_cons_succ, Option.some.injEq] at ho; subst ho; refine ⟨?_, Or.inl ⟨by rfl, fun W hSW => ?_⟩, ?_⟩; rotate_left; (focus (go_simp; first | done | with_reducible rfl)); try simp only [Act.put, List.setIfInBounds_toArray, List.set_cons_zero, List.set_cons_succ])
              (refine wpSeq_fix rfl rfl ?_; intro o ho; simp only [List.getElem?_toArray, List.getElem?_cons_zero, List.getElem?_cons_succ, Option.some.injEq] at ho; subst ho; intro K hK)
              go_simp
              (refine hK.out _ _ (fun _ => ⟨⟨(HX.out.alloc _).cell 0, (HT.out.alloc _).cell 0⟩, HLK.out _ (HM.out.alloc _).drew⟩) ?_; clear hK K; try simp only [Act.put, List.setIfInBounds_toArray, List.set_cons_zero, List.set_cons_succ])
              (refine wpSeq_fix rfl rfl ?_; intro o ho; simp only [List.getElem?_toArray, List.getElem?_cons_zero, List.getElem?_cons_succ, Option.some.injEq] at ho; subst ho; intro K hK)
              go_simp
              (refine hK.out _ _ (fun _ => ⟨⟨(HX.out.alloc _).cell 0, (HT.out.alloc _).cell 0⟩, HLK.out _ (HM.out.alloc _).drew⟩) ?_; clear hK K; try simp only [Act.put, List.setIfInBounds_toArray, List.set_cons_zero, List.set_cons_succ])
              (refine wpSeq_mov rfl rfl ?_; intro o ho; simp only [List.getElem?_toArray, List.getElem?_cons_zero, List.getElem?_cons_succ, Option.some.injEq] at ho; subst ho; refine ⟨?_, Or.inl ⟨by rfl, fun W hSW => ?_⟩, ?_⟩; rotate_left; (focus (go_simp; first | done | with_reducible rfl)); try simp only [Act.put, List.setIfInBounds_toArray, List.set_cons_zero, List.set_cons_succ])
              refine wpSeq_done ?_
              have hXV := (HX.out.alloc (.cells #[.int .i64 0, .string ⟨#[]⟩, .string ⟨#[]⟩, .string ⟨#[]⟩] 93)).drew
              have hGV : w.grownBy (((w.setCell ⟨xb, 1, none⟩ (.int .i64 (m0 + 1))).alloc (.cells #[.int .i64 f.kind, .string ⟨f.name.toArray⟩, .int .i64 f.lit, .slice A f.kids.length c] 37)).alloc (.cells #[.int .i64 0, .string ⟨#[]⟩, .string ⟨#[]⟩, .string ⟨#[]⟩] 93)).drew (some xb) := grown_trans HG.out (below_grown (step2 (stepA _ _) (stepD1 _)) _)
              generalize (((w.setCell ⟨xb, 1, none⟩ (.int .i64 (m0 + 1))).alloc (.cells #[.int .i64 f.kind, .string ⟨f.name.toArray⟩, .int .i64 f.lit, .slice A f.kids.length c] 37)).alloc (.cells #[.int .i64 0, .string ⟨#[]⟩, .string ⟨#[]⟩, .string ⟨#[]⟩] 93)).drew = V at hXV hGV ⊢
              have HXV := Lib.hid hXV
              have HGV := Lib.hid hGV
              clear hXV hGV hSS
              go_wp2_with fail
              go_ret
              refine ⟨m0 + 1, by rw [HE.out]; rfl, by omega, by omega, (fun h => by rw [HE.out] at h; cases h), HXV.out, HGV.out⟩
        · have hL' : (f.lit != 0) = true := by simpa using hL
          have HE : Hid ((f.wf d && decide (m0 + (f.sz : Int) ≤ 2000)) = false) := Lib.hid (by rw [wf_false1 (.inr hL), Bool.false_and])
          clear hL
          go_enter Tryd.func46, Tryd.ntmps46
          go_wp2_with fail
          go_ret
          refine ⟨m0 + 1, by rw [HE.out]; rfl, by omega, by omega, (fun h => by rw [HE.out] at h; cases h), HX.out, HG.out⟩
end Go.Proofs.YtijecfmblddanaaDoor
