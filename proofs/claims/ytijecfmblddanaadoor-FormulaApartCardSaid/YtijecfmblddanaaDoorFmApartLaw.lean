/- Formulas: FormulaApart. -/
import Derived.Test.YtijecfmblddanaaDoorFmSizeLaw
set_option linter.unusedVariables false
set_option linter.unusedSimpArgs false
namespace Go.Proofs.YtijecfmblddanaaDoor
open Go.RowKit Go.Maps

set_option maxRecDepth 100000 in
set_option maxHeartbeats 4000000 in
theorem formulaApart_any (l0 : List Int) (A0 : Option Addr) (c0 : Nat) (m0 : List Int) (B0 : Option Addr) (d0 : Nat) (w : World) (hr : ∀ x ∈ l0, 0 ≤ x ∧ x ≤ 255) (hc : l0.length ≤ c0) (hl : c0 ≤ 140737488355328) (hA : Vals w w.heap.size A0 (l0.map (.int .u8 ·)))
    (hr2 : ∀ x ∈ m0, 0 ≤ x ∧ x ≤ 255) (hc2 : m0.length ≤ d0) (hl2 : d0 ≤ 140737488355328) (hA2 : Vals w w.heap.size B0 (m0.map (.int .u8 ·))) :
    Calls Tryd.prog 10 #[.slice A0 l0.length c0, .slice B0 m0.length d0] w (Ret w (.bool true)) := by
  have n1 := nums_of hA hr
  have n2 := nums_of hA2 hr2
  rw [← bytesI_len l0, ← bytesI_len m0]
  rw [← bytesI_len l0] at hc
  rw [← bytesI_len m0] at hc2
  clear hA hA2 hr hr2
  obtain ⟨l, hl'⟩ : ∃ l, l = bytesI l0 := ⟨_, rfl⟩
  obtain ⟨m, hm'⟩ : ∃ m, m = bytesI m0 := ⟨_, rfl⟩
  rw [← hl'] at n1 hc ⊢
  rw [← hm'] at n2 hc2 ⊢
  clear hl' hm' l0 m0
  have HM1 := Lib.hid (fun W (h : Below w.heap.size w W) => made_any l W A0 c0 hc hl (fun i b hi => by
    obtain ⟨q, o, h1, h2, h3⟩ := n1.low h i b hi
    exact ⟨q, o, h1, Nat.lt_of_lt_of_le h2 h.size, h3⟩))
  have HM2 := Lib.hid (fun W (h : Below w.heap.size w W) => made_any m W B0 d0 hc2 hl2 (fun i b hi => by
    obtain ⟨q, o, h1, h2, h3⟩ := n2.low h i b hi
    exact ⟨q, o, h1, Nat.lt_of_lt_of_le h2 h.size, h3⟩))
  clear n1 n2 hc hc2
  go_enter Tryd.func10, Tryd.ntmps10
  go_wp2_with fail
  refine (awake8_any _).mono ?_
  rintro e w1 ⟨rfl, hb1⟩
  have HB1 := Lib.hid hb1
  clear hb1
  go_wp2_with fail
  refine (HM1.out _ HB1.out).mono ?_
  rintro e w2 ⟨A1, c1, rfl, hv, hb⟩
  have HV2 := Lib.hid (hv.v (B := w2.heap.size) (fun b h => h.2))
  have HB2 := Lib.hid (step2 HB1.out hb)
  clear hv hb
  unfold fmA
  go_wp2_with fail
  refine (HM2.out _ HB2.out).mono ?_
  rintro e w3 ⟨A2, c2, rfl, hv, hb⟩
  have HV3 := Lib.hid (hv.v (B := w3.heap.size) (fun b h => h.2))
  have HU3 := Lib.hid (HV2.out.after hb)
  have HB3 := Lib.hid (step2 HB2.out hb)
  clear hv hb HV2
  unfold fmA
  obtain ⟨f, hf⟩ : ∃ f, f = madeF l := ⟨_, rfl⟩
  obtain ⟨g, hg⟩ : ∃ g, g = madeF m := ⟨_, rfl⟩
  have HF : Hid (f.ok = true) := Lib.hid (by rw [hf]; exact madeF_ok l)
  have HG : Hid (g.ok = true) := Lib.hid (by rw [hg]; exact madeF_ok m)
  have hfl : f.sz ≤ 127 := by rw [hf]; exact madeF_sz l
  rw [← hf, ← hg]
  rw [← hf] at HU3
  rw [← hg] at HV3
  clear hf hg HM1 HM2
  -- the two formulas, laid
  obtain ⟨W, hW⟩ : ∃ W, W = (w3.alloc (.cells #[.int .i64 f.kind, .string ⟨f.name.toArray⟩, .int .i64 f.lit, .slice A1 f.kids.length c1] 37)).alloc (.cells #[.int .i64 g.kind, .string ⟨g.name.toArray⟩, .int .i64 g.lit, .slice A2 g.kids.length c2] 37) := ⟨_, rfl⟩
  have hbW : Below w3.heap.size w3 W := by rw [hW]; exact (stepA w3 _).alloc (by simp) _
  have bF : Blk W w3.heap.size 37 #[.int .i64 f.kind, .string ⟨f.name.toArray⟩, .int .i64 f.lit, .slice A1 f.kids.length c1] := by rw [hW]; exact (Blk.new w3 _ _).alloc _
  have bG : Blk W (w3.heap.size + 1) 37 #[.int .i64 g.kind, .string ⟨g.name.toArray⟩, .int .i64 g.lit, .slice A2 g.kids.length c2] := by
    rw [hW]
    have := Blk.new (w3.alloc (.cells #[.int .i64 f.kind, .string ⟨f.name.toArray⟩, .int .i64 f.lit, .slice A1 f.kids.length c1] 37)) 37 #[.int .i64 g.kind, .string ⟨g.name.toArray⟩, .int .i64 g.lit, .slice A2 g.kids.length c2]
    rwa [World.size_alloc] at this
  have HBW := Lib.hid (step2 HB3.out hbW)
  have HVF := Lib.hid (HU3.out.after hbW)
  have HVG := Lib.hid (HV3.out.after hbW)
  have HSB : Hid (∀ V, Below W.heap.size W V → (V.cell? ⟨w3.heap.size, 0, none⟩ = some (.int .i64 f.kind) ∧ V.cell? ⟨w3.heap.size, 1, none⟩ = some (.string ⟨f.name.toArray⟩) ∧ V.cell? ⟨w3.heap.size, 2, none⟩ = some (.int .i64 f.lit) ∧ V.cell? ⟨w3.heap.size, 3, none⟩ = some (.slice A1 f.kids.length c1)) ∧
      V.cell? ⟨w3.heap.size + 1, 0, none⟩ = some (.int .i64 g.kind) ∧ V.cell? ⟨w3.heap.size + 1, 1, none⟩ = some (.string ⟨g.name.toArray⟩) ∧ V.cell? ⟨w3.heap.size + 1, 2, none⟩ = some (.int .i64 g.lit) ∧ V.cell? ⟨w3.heap.size + 1, 3, none⟩ = some (.slice A2 g.kids.length c2)) := Lib.hid fun V hb => by
    have h1 := bF.below hb bF.lt
    have h2 := bG.below hb bG.lt
    exact ⟨⟨h1.cell 0, h1.cell 1, h1.cell 2, h1.cell 3⟩, h2.cell 0, h2.cell 1, h2.cell 2, h2.cell 3⟩
  have HWW := Lib.hid (Below.refl W.heap.size W)
  -- what is called
  have hp1 : f.print = (f.txt, 0) := by unfold Fm.print; rw [if_pos HF.out]
  have hp2 : g.print = (g.txt, 0) := by unfold Fm.print; rw [if_pos HG.out]
  have CP := Lib.hid (fun V (h : Below W.heap.size W V) => print_any f _ _ V (HVF.out.after h))
  have CQ := Lib.hid (fun V (h : Below W.heap.size W V) => print_any g _ _ V (HVG.out.after h))
  have CS := Lib.hid (fun V (h : Below W.heap.size W V) => same_any (f.sz + 1) f (Nat.lt_succ_self _) g V V.heap.size _ _ _ _ (HVF.out.after h) (HVG.out.after h) (Nat.le_refl _))
  have htl := txt_len _ f (Nat.lt_succ_self _) 60 (ok_wf HF.out)
  have hlo : lexOf f.txt = (lexToks f.txt, 0, 0) := by
    unfold lexOf
    rw [if_neg (by omega), if_neg (by rw [(lex_ok f (ok_wf HF.out)).1]; decide)]
  have CL := Lib.hid (fun V => lex_any ⟨f.txt.toArray⟩ (by show f.txt.toArray.size ≤ _; rw [List.size_toArray]; omega) V)
  rw [show (⟨f.txt.toArray⟩ : ByteArray).data.toList = f.txt from rfl, hlo] at CL
  have hpos := lexToks_two f HF.out
  have hts := txt_same HF.out HG.out
  rw [hp1] at CP
  rw [hp2] at CQ
  unfold printV fmA at CP CQ
  unfold fmA at CS
  rw [← hts] at CS
  have hq : decide (f.txt = g.txt) = (f.txt == g.txt) := by rw [Bool.eq_iff_iff]; simp
  rw [hq] at CS
  have hqq : ((f.txt == g.txt) == (f.txt == g.txt)) = true := by simp
  obtain ⟨n, hn⟩ : ∃ n, n = (lexToks f.txt).length := ⟨_, rfl⟩
  rw [← hn] at hpos
  have CL' : Hid (∀ V, Calls Tryd.prog 19 #[.string ⟨f.txt.toArray⟩] V (fun e W' => ∃ A c, e = .returned (.tuple #[.slice A n c, .int .i64 0, .int .i64 0]) ∧ Below V.heap.size V W')) := Lib.hid fun V => (CL.out V).mono fun e W' h => by
    obtain ⟨A, c, h1, _, _, h2⟩ := h
    exact ⟨A, c, by rw [h1, hn], h2⟩
  have hn1 : 1 < n := hpos
  have hn2 : (1 : Int) < (n : Int) := by omega
  clear hq hts htl hlo hn hp1 hp2 hpos CL bF bG HVF HVG HB1 HB2 HB3 HU3 HV3 HF HG hbW
  generalize f.txt = s at CP CS CL' hqq
  generalize g.txt = t at CQ CS hqq
  obtain ⟨⟨e0, e1, e2, e3⟩, e4, e5, e6, e7⟩ := HSB.out _ HWW.out
  go_wp2_with fail
  rw [← hW]
  clear hW
  refine (CP.out _ HWW.out).mono ?_
  rintro e w4 ⟨rfl, hb⟩
  have HW4 := Lib.hid (step2 HWW.out hb)
  clear hb e0 e1 e2 e3 e4 e5 e6 e7
  obtain ⟨⟨e0, e1, e2, e3⟩, e4, e5, e6, e7⟩ := HSB.out _ HW4.out
  go_wp2_with fail
  refine (CQ.out _ HW4.out).mono ?_
  rintro e w5 ⟨rfl, hb⟩
  have HW5 := Lib.hid (step2 HW4.out hb)
  clear hb e0 e1 e2 e3 e4 e5 e6 e7
  go_wp2_with fail
  refine (CL'.out _).mono ?_
  rintro e w6 ⟨A, c, rfl, hb⟩
  have HW6 := Lib.hid (step2 HW5.out hb)
  clear hb
  obtain ⟨⟨e0, e1, e2, e3⟩, e4, e5, e6, e7⟩ := HSB.out _ HW6.out
  go_wp2_with fail
  refine (CS.out _ HW6.out).mono ?_
  rintro e w8 ⟨rfl, hb⟩
  have HW8 := Lib.hid (step2 HW6.out hb)
  clear hb e0 e1 e2 e3 e4 e5 e6 e7
  go_wp2_with fail
  go_ret
  exact Ret.mk rfl (step2 HBW.out HW8.out)
end Go.Proofs.YtijecfmblddanaaDoor
