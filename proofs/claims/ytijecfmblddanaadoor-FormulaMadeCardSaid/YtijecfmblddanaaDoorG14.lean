/- Formulas: the document's Same. Parsing: the statements' awake. -/
import Derived.Test.YtijecfmblddanaaDoorG1
import Derived.Test.YtijecfmblddanaaDoorG6
import Derived.Test.YtijecfmblddanaaDoorG9
set_option linter.unusedVariables false
set_option linter.unusedSimpArgs false
namespace Go.Proofs.YtijecfmblddanaaDoor
open Go.RowKit Go.Maps

set_option maxRecDepth 100000 in
set_option maxHeartbeats 2000000 in
theorem rsame_any : ∀ (n : Nat) (f : Fm), f.sz < n → ∀ (g : Fm) (w : World) (B : Nat) (A A' : Option Addr) (c c' : Nat), FmV w B f A c → FmV w B g A' c' → B ≤ w.heap.size → Calls Tryd.prog 24 #[fmA f A c, fmA g A' c'] w (Ret w (.bool (f.same g)))
  | 0, f, h => by omega
  | n + 1, f, hn => by
    intro g w B A A' c c' hf hg hB
    have HIH := Lib.hid (rsame_any n)
    have hst := stepA w (.cells #[.int .i64 f.kind, .string ⟨f.name.toArray⟩, .int .i64 f.lit, .slice A f.kids.length c] 37)
    have hst2 := stepA (w.alloc (.cells #[.int .i64 f.kind, .string ⟨f.name.toArray⟩, .int .i64 f.lit, .slice A f.kids.length c] 37)) (.cells #[.int .i64 g.kind, .string ⟨g.name.toArray⟩, .int .i64 g.lit, .slice A' g.kids.length c'] 37)
    have hst3 := step2 hst hst2
    have hX := (Blk.new w 37 #[.int .i64 f.kind, .string ⟨f.name.toArray⟩, .int .i64 f.lit, .slice A f.kids.length c]).alloc (.cells #[.int .i64 g.kind, .string ⟨g.name.toArray⟩, .int .i64 g.lit, .slice A' g.kids.length c'] 37)
    have hY := Blk.new (w.alloc (.cells #[.int .i64 f.kind, .string ⟨f.name.toArray⟩, .int .i64 f.lit, .slice A f.kids.length c] 37)) 37 #[.int .i64 g.kind, .string ⟨g.name.toArray⟩, .int .i64 g.lit, .slice A' g.kids.length c']
    simp only [World.size_alloc] at hY
    have HX := Lib.hid hX
    have HY := Lib.hid hY
    have hcap := hf.cap
    have hcap2 := hg.cap
    have hbig := hf.big
    have hbig2 := hg.big
    have h1 : f.kids.length ≤ 140737488355328 := by omega
    have h2 : g.kids.length ≤ 140737488355328 := by omega
    have HF := Lib.hid (hf.kids.low (hst3.mono hB))
    have HG := Lib.hid (hg.kids.low (hst3.mono hB))
    have hs2 := hst3.size
    have hse : ((w.alloc (.cells #[.int .i64 f.kind, .string ⟨f.name.toArray⟩, .int .i64 f.lit, .slice A f.kids.length c] 37)).alloc (.cells #[.int .i64 g.kind, .string ⟨g.name.toArray⟩, .int .i64 g.lit, .slice A' g.kids.length c'] 37)).heap.size = w.heap.size + 1 + 1 := by simp
    have HST := Lib.hid hst3
    have HS : Hid (f.same g = (decide (f.kind = g.kind) && decide (f.name = g.name) && decide (f.lit = g.lit) && sameL f.kids g.kids)) := Lib.hid (f.same_eq g)
    have hnn : (f.name == g.name) = decide (f.name = g.name) := by rw [Bool.eq_iff_iff]; simp
    have hkk : (f.kind != g.kind) = !decide (f.kind = g.kind) := by rw [Bool.eq_iff_iff]; simp
    have hll : (f.lit != g.lit) = !decide (f.lit = g.lit) := by rw [Bool.eq_iff_iff]; simp
    have hxx : ((f.kids.length : Int) != (g.kids.length : Int)) = !decide (f.kids.length = g.kids.length) := by rw [Bool.eq_iff_iff]; simp; omega
    have HLF : Hid (decide (f.kids.length = g.kids.length) = false → sameL f.kids g.kids = false) := Lib.hid fun h => sameL_false fun e => by rw [e] at h; simp at h
    have HLT : Hid (decide (f.kids.length = g.kids.length) = true → f.kids.length = g.kids.length) := Lib.hid fun h => by simpa using h
    clear hst hst2 hst3 hf hg hcap hcap2 hbig hbig2 hX hY
    unfold fmA
    generalize f.same g = R at HS ⊢
    generalize decide (f.kind = g.kind) = b1 at HS hkk
    generalize decide (f.name = g.name) = b2 at HS hnn
    generalize decide (f.lit = g.lit) = b3 at HS hll
    generalize decide (f.kids.length = g.kids.length) = b4 at HLF HLT hxx
    cases b1 with
    | false =>
      have HE : Hid (R = false) := Lib.hid (by rw [HS.out]; simp)
      clear hse hs2
      go_enter Tryd.func24, Tryd.ntmps24
      go_wp2_with fail
      go_ret
      rw [HE.out]
      exact ⟨rfl, HST.out⟩
    | true =>
      cases b2 with
      | false =>
        have HE : Hid (R = false) := Lib.hid (by rw [HS.out]; simp)
        clear hse hs2
        go_enter Tryd.func24, Tryd.ntmps24
        go_wp2_with fail
        go_ret
        rw [HE.out]
        exact ⟨rfl, HST.out⟩
      | true =>
        cases b3 with
        | false =>
          have HE : Hid (R = false) := Lib.hid (by rw [HS.out]; simp)
          clear hse hs2
          go_enter Tryd.func24, Tryd.ntmps24
          go_wp2_with fail
          go_ret
          rw [HE.out]
          exact ⟨rfl, HST.out⟩
        | true =>
          cases b4 with
          | false =>
            have HE : Hid (R = false) := Lib.hid (by rw [HS.out, HLF.out rfl]; simp)
            clear hse hs2
            go_enter Tryd.func24, Tryd.ntmps24
            go_wp2_with fail
            go_ret
            rw [HE.out]
            exact ⟨rfl, HST.out⟩
          | true =>
            have HE : Hid (R = sameL f.kids g.kids) := Lib.hid (by rw [HS.out]; simp)
            have hlen := HLT.out rfl
            have HSE := Lib.hid hse
            have HSL := Lib.hid hlen
            clear hse hs2 hlen
            go_enter Tryd.func24, Tryd.ntmps24
            go_wp2_with fail
            obtain ⟨v, hv⟩ : ∃ v, v = (w.alloc (.cells #[.int .i64 f.kind, .string ⟨f.name.toArray⟩, .int .i64 f.lit, .slice A f.kids.length c] 37)).alloc (.cells #[.int .i64 g.kind, .string ⟨g.name.toArray⟩, .int .i64 g.lit, .slice A' g.kids.length c'] 37) := ⟨_, rfl⟩
            rw [← hv] at HX HY HF HG HSE HST ⊢
            clear hv
            go_loopw [5] (fun iv wr => ∃ i : Nat, i ≤ f.kids.length ∧ iv = .int .i64 (i : Int) ∧ Below v.heap.size v wr ∧ ∀ j, j < i → f.kids[j]? = g.kids[j]?) (fun iv _ => f.kids.length - (intOf iv).toNat)
            case atStart => exact ⟨0, Nat.zero_le _, rfl, Below.refl _ _, fun j h => by omega⟩
            case round =>
              obtain ⟨i, hi, rfl, hbr, hall⟩ := hrel
              have hszr := hbr.size
              rw [HSE.out] at hszr
              have HBR := Lib.hid hbr
              have HALL := Lib.hid hall
              have HXR := Lib.hid (HX.out.below hbr (by have := HSE.out; omega))
              have HYR := Lib.hid (HY.out.below hbr (by have := HSE.out; omega))
              have x3 := HXR.out.cell 3
              have y3 := HYR.out.cell 3
              clear hbr hall
              by_cases hlt : i < f.kids.length
              · have hlt' : (i : Int) < (f.kids.length : Int) := by omega
                obtain ⟨k, hk⟩ : ∃ k, f.kids[i]? = some k := ⟨_, List.getElem?_eq_getElem hlt⟩
                have hltg : i < g.kids.length := by have := HSL.out; omega
                obtain ⟨h, hg⟩ : ∃ h, g.kids[i]? = some h := ⟨_, List.getElem?_eq_getElem hltg⟩
                have hltg' : (i : Int) < (g.kids.length : Int) := by omega
                have hmem := Fm.kid_sz (List.mem_of_getElem? hk)
                obtain ⟨q, o, Ak, ck, rfl, hq, ⟨q0, q1, q2, q3⟩, hkv⟩ := (HF.out.low (HBR.out.mono (by have := HSE.out; omega))).v hk
                obtain ⟨r, u, Ag, cg, rfl, hr, ⟨r0, r1, r2, r3⟩, hgv⟩ := (HG.out.low (HBR.out.mono (by have := HSE.out; omega))).v hg
                have HK := Lib.hid hk
                have HGG := Lib.hid hg
                have HKV := Lib.hid hkv
                have HGV := Lib.hid hgv
                have HQ := Lib.hid (And.intro (And.intro q0 (And.intro q1 (And.intro q2 q3))) (And.intro r0 (And.intro r1 (And.intro r2 r3))))
                clear hk hg hkv hgv q0 q1 q2 q3 r0 r1 r2 r3
                go_wp2_with fail
                have hS : (fun W => (W.cell? ⟨w.heap.size, 3, none⟩ = some (.slice (some ⟨q, o, none⟩) f.kids.length c) ∧ W.cell? ⟨w.heap.size + 1, 3, none⟩ = some (.slice (some ⟨r, u, none⟩) g.kids.length c')) ∧ (W.cell? ⟨q, o + i * 4, none⟩ = some (.int .i64 k.kind) ∧ W.cell? ⟨q, o + i * 4 + 1, none⟩ = some (.string ⟨k.name.toArray⟩) ∧ W.cell? ⟨q, o + i * 4 + 2, none⟩ = some (.int .i64 k.lit) ∧ W.cell? ⟨q, o + i * 4 + 3, none⟩ = some (.slice Ak k.kids.length ck)) ∧ (W.cell? ⟨r, u + i * 4, none⟩ = some (.int .i64 h.kind) ∧ W.cell? ⟨r, u + i * 4 + 1, none⟩ = some (.string ⟨h.name.toArray⟩) ∧ W.cell? ⟨r, u + i * 4 + 2, none⟩ = some (.int .i64 h.lit) ∧ W.cell? ⟨r, u + i * 4 + 3, none⟩ = some (.slice Ag h.kids.length cg))) wr.drew := ⟨⟨x3, y3⟩, HQ.out.1, HQ.out.2⟩
                clear x3 y3
                refine wp_region_noPanic ?_
                refine wp_region_seq (fun W => (W.cell? ⟨w.heap.size, 3, none⟩ = some (.slice (some ⟨q, o, none⟩) f.kids.length c) ∧ W.cell? ⟨w.heap.size + 1, 3, none⟩ = some (.slice (some ⟨r, u, none⟩) g.kids.length c')) ∧ (W.cell? ⟨q, o + i * 4, none⟩ = some (.int .i64 k.kind) ∧ W.cell? ⟨q, o + i * 4 + 1, none⟩ = some (.string ⟨k.name.toArray⟩) ∧ W.cell? ⟨q, o + i * 4 + 2, none⟩ = some (.int .i64 k.lit) ∧ W.cell? ⟨q, o + i * 4 + 3, none⟩ = some (.slice Ak k.kids.length ck)) ∧ (W.cell? ⟨r, u + i * 4, none⟩ = some (.int .i64 h.kind) ∧ W.cell? ⟨r, u + i * 4 + 1, none⟩ = some (.string ⟨h.name.toArray⟩) ∧ W.cell? ⟨r, u + i * 4 + 2, none⟩ = some (.int .i64 h.lit) ∧ W.cell? ⟨r, u + i * 4 + 3, none⟩ = some (.slice Ag h.kids.length cg))) [0, 1, 2, 3, 4, 5, 6, 7, 8, 9, 10, 11] [0, 1, 2, 3, 4, 5, 6, 7, 8, 9, 11] [] (by kernel_rfl) (by kernel_rfl) rfl (by kernel_rfl) (by kernel_rfl) (fun _ _ _ _ _ h => h) ?_ (fun hSS => ?_)
                · exact hS
                (refine wpSeq_mov rfl rfl ?_; intro o ho; simp only [List.getElem?_toArray, List.getElem?_cons_zero, List.getElem?_cons_succ, Option.some.injEq] at ho; subst ho; refine ⟨?_, Or.inl ⟨by rfl, fun W hSW => ?_⟩, ?_⟩; rotate_left; (focus (go_simp; first | done | with_reducible rfl)); try simp only [Act.put, List.setIfInBounds_toArray, List.set_cons_zero, List.set_cons_succ])
                (refine wpSeq_mov rfl rfl ?_; intro o ho; simp only [List.getElem?_toArray, List.getElem?_cons_zero, List.getElem?_cons_succ, Option.some.injEq] at ho; subst ho; refine ⟨?_, Or.inl ⟨by rfl, fun W hSW => ?_⟩, ?_⟩; rotate_left; (focus (go_simp; first | done | with_reducible rfl)); try simp only [Act.put, List.setIfInBounds_toArray, List.set_cons_zero, List.set_cons_succ])
                (refine wpSeq_mov rfl rfl ?_; intro o ho; simp only [List.getElem?_toArray, List.getElem?_cons_zero, List.getElem?_cons_succ, Option.some.injEq] at ho; subst ho; refine ⟨?_, Or.inl ⟨by rfl, fun W hSW => ?_⟩, ?_⟩; rotate_left; (focus (go_simp; first | done | with_reducible rfl)); try simp only [Act.put, List.setIfInBounds_toArray, List.set_cons_zero, List.set_cons_succ])
                (refine wpSeq_mov rfl rfl ?_; intro o ho; simp only [List.getElem?_toArray, List.getElem?_cons_zero, List.getElem?_cons_succ, Option.some.injEq] at ho; subst ho; refine ⟨?_, Or.inl ⟨by rfl, fun W hSW => ?_⟩, ?_⟩; rotate_left; (focus (go_simp; first | done | with_reducible rfl)); try simp only [Act.put, List.setIfInBounds_toArray, List.set_cons_zero, List.set_cons_succ])
                (refine wpSeq_mov rfl rfl ?_; intro o ho; simp only [List.getElem?_toArray, List.getElem?_cons_zero, List.getElem?_cons_succ, Option.some.injEq] at ho; subst ho; refine ⟨?_, Or.inl ⟨by rfl, fun W hSW => ?_⟩, ?_⟩; rotate_left; (focus (go_simp; first | done | with_reducible rfl)); try simp only [Act.put, List.setIfInBounds_toArray, List.set_cons_zero, List.set_cons_succ])
                (refine wpSeq_mov rfl rfl ?_; intro o ho; simp only [List.getElem?_toArray, List.getElem?_cons_zero, List.getElem?_cons_succ, Option.some.injEq] at ho; subst ho; refine ⟨?_, Or.inl ⟨by rfl, fun W hSW => ?_⟩, ?_⟩; rotate_left; (focus (go_simp; first | done | with_reducible rfl)); try simp only [Act.put, List.setIfInBounds_toArray, List.set_cons_zero, List.set_cons_succ])
                (refine wpSeq_mov rfl rfl ?_; intro o ho; simp only [List.getElem?_toArray, List.getElem?_cons_zero, List.getElem?_cons_succ, Option.some.injEq] at ho; subst ho; refine ⟨?_, Or.inl ⟨by rfl, fun W hSW => ?_⟩, ?_⟩; rotate_left; (focus (go_simp; first | done | with_reducible rfl)); try simp only [Act.put, List.setIfInBounds_toArray, List.set_cons_zero, List.set_cons_succ])
                (refine wpSeq_mov rfl rfl ?_; intro o ho; simp only [List.getElem?_toArray, List.getElem?_cons_zero, List.getElem?_cons_succ, Option.some.injEq] at ho; subst ho; refine ⟨?_, Or.inl ⟨by rfl, fun W hSW => ?_⟩, ?_⟩; rotate_left; (focus (go_simp; first | done | with_reducible rfl)); try simp only [Act.put, List.setIfInBounds_toArray, List.set_cons_zero, List.set_cons_succ])
                (refine wpSeq_mov rfl rfl ?_; intro o ho; simp only [List.getElem?_toArray, List.getElem?_cons_zero, List.getElem?_cons_succ, Option.some.injEq] at ho; subst ho; refine ⟨?_, Or.inl ⟨by rfl, fun W hSW => ?_⟩, ?_⟩; rotate_left; (focus (go_simp; first | done | with_reducible rfl)); try simp only [Act.put, List.setIfInBounds_toArray, List.set_cons_zero, List.set_cons_succ])
                (refine wpSeq_mov rfl rfl ?_; intro o ho; simp only [List.getElem?_toArray, List.getElem?_cons_zero, List.getElem?_cons_succ, Option.some.injEq] at ho; subst ho; refine ⟨?_, Or.inl ⟨by rfl, fun W hSW => ?_⟩, ?_⟩; rotate_left; (focus (go_simp; first | done | with_reducible rfl)); try simp only [Act.put, List.setIfInBounds_toArray, List.set_cons_zero, List.set_cons_succ])
                (refine wpSeq_fix rfl rfl ?_; intro o ho; simp only [List.getElem?_toArray, List.getElem?_cons_zero, List.getElem?_cons_succ, Option.some.injEq] at ho; subst ho; intro K hK)
                go_simp
                refine (HIH.out k (by omega) h _ B Ak Ag ck cg (HKV.out.low ((stepD1 wr).mono (by have := HSE.out; omega))) (HGV.out.low ((stepD1 wr).mono (by have := HSE.out; omega))) (by have := HBR.out.size; have := HSE.out; simp; omega)).mono ?_
                rintro e w4 ⟨rfl, hb4⟩
                have hbw := step2 (stepD1 wr) hb4
                have hbb := hbw.mono HBR.out.size
                have HB4 := Lib.hid (HBR.out.trans hbb)
                have HX4 := Lib.hid (HX.out.below HB4.out (by have := HSE.out; omega))
                have HY4 := Lib.hid (HY.out.below HB4.out (by have := HSE.out; omega))
                have HQ4 := Lib.hid (And.intro ((bcell hbw).1 q) ((bcell hbw).1 r))
                clear hb4 hbw hbb
                (refine hK.out _ _ (fun _ => ⟨⟨HX4.out.cell 3, HY4.out.cell 3⟩, ⟨by rw [HQ4.out.1 _ (by omega)]; exact HQ.out.1.1, by rw [HQ4.out.1 _ (by omega)]; exact HQ.out.1.2.1, by rw [HQ4.out.1 _ (by omega)]; exact HQ.out.1.2.2.1, by rw [HQ4.out.1 _ (by omega)]; exact HQ.out.1.2.2.2⟩, ⟨by rw [HQ4.out.2 _ (by omega)]; exact HQ.out.2.1, by rw [HQ4.out.2 _ (by omega)]; exact HQ.out.2.2.1, by rw [HQ4.out.2 _ (by omega)]; exact HQ.out.2.2.2.1, by rw [HQ4.out.2 _ (by omega)]; exact HQ.out.2.2.2.2⟩⟩) ?_; clear hK K; try simp only [Act.put, List.setIfInBounds_toArray, List.set_cons_zero, List.set_cons_succ])
                (refine wpSeq_mov rfl rfl ?_; intro o ho; simp only [List.getElem?_toArray, List.getElem?_cons_zero, List.getElem?_cons_succ, Option.some.injEq] at ho; subst ho; refine ⟨?_, Or.inl ⟨by rfl, fun W hSW => ?_⟩, ?_⟩; rotate_left; (focus (go_simp; first | done | with_reducible rfl)); try simp only [Act.put, List.setIfInBounds_toArray, List.set_cons_zero, List.set_cons_succ])
                refine wpSeq_done ?_
                by_cases he : k = h
                · have hkg : k.same h = true := (Fm.same_iff k h).2 he
                  have HEQ := Lib.hid he
                  clear he hSS
                  rw [hkg]
                  clear hkg
                  go_wp2_with fail
                  go_roundw
                  case rel =>
                    refine ⟨i + 1, by omega, by go_num, HB4.out, fun j hj => ?_⟩
                    by_cases e : j = i
                    · rw [e, HK.out, HGG.out, HEQ.out]
                    · exact HALL.out j (by omega)
                  case measure => simp [intOf]; omega
                · have hkg : k.same h = false := same_false he
                  have HE2 : Hid (R = false) := Lib.hid (by
                    rw [HE.out]
                    exact sameL_false fun e => he (by
                      have h1 := HK.out
                      rw [e, HGG.out] at h1
                      exact (Option.some.inj h1).symm))
                  clear he hSS
                  rw [hkg]
                  clear hkg
                  go_wp2_with fail
                  go_ret
                  rw [HE2.out]
                  exact ⟨rfl, step2 HST.out HB4.out⟩
              · have hii : i = f.kids.length := by omega
                have HE2 : Hid (R = true) := Lib.hid (by
                  rw [HE.out]
                  exact (sameL_iff f.kids g.kids).2 (List.ext_getElem? fun j => by
                    by_cases hj : j < f.kids.length
                    · exact HALL.out j (by omega)
                    · have := HSL.out
                      rw [List.getElem?_eq_none (by omega), List.getElem?_eq_none (by omega)]))
                clear hii
                go_wp2_with fail
                go_ret
                rw [HE2.out]
                exact ⟨rfl, step2 HST.out HBR.out⟩
end Go.Proofs.YtijecfmblddanaaDoor

set_option linter.unusedVariables false
set_option linter.unusedSimpArgs false
namespace Go.Proofs.YtijecfmblddanaaDoor
open Go.RowKit Go.Maps

def aw9 : Fm := .mk 7 [] 0 [.mk 3 [97] 0 [], .mk 7 [] 0 [.mk 3 [98] 0 [], .mk 6 [] 0 [.mk 3 [99] 0 [], .mk 5 [] 0 [.mk 3 [100] 0 [], .mk 3 [101] 0 []]]]]
theorem aw9_parse : parseOf [97, 32, 45, 62, 32, 98, 32, 45, 62, 32, 99, 32, 124, 32, 100, 32, 38, 32, 101] = (aw9, 0, 0) := by kernel_rfl
theorem aw9_print : aw9.print = ([97, 32, 45, 62, 32, 40, 98, 32, 45, 62, 32, 40, 99, 32, 124, 32, 40, 100, 32, 38, 32, 101, 41, 41, 41], 0) := by kernel_rfl
theorem aw9_two : parseOf [65, 71, 32, 40, 97] = (fm0, 41, 5) := by kernel_rfl
theorem aw9_three : parseOf [69, 32, 91, 97, 32, 85, 32, 98] = (fm0, 41, 8) := by kernel_rfl

set_option maxRecDepth 100000 in
set_option maxHeartbeats 2000000 in
theorem awake9_any (w : World) : Calls Tryd.prog 29 #[] w (Ret w (.bool true)) := by
  have HP := Lib.hid (fun W => parse_any ⟨#[97, 32, 45, 62, 32, 98, 32, 45, 62, 32, 99, 32, 124, 32, 100, 32, 38, 32, 101]⟩ (by decide) W)
  have HQ := Lib.hid (fun W => parse_any ⟨#[65, 71, 32, 40, 97]⟩ (by decide) W)
  have HR := Lib.hid (fun W => parse_any ⟨#[69, 32, 91, 97, 32, 85, 32, 98]⟩ (by decide) W)
  have e1 : parseOf (⟨#[97, 32, 45, 62, 32, 98, 32, 45, 62, 32, 99, 32, 124, 32, 100, 32, 38, 32, 101]⟩ : ByteArray).data.toList = (aw9, 0, 0) := aw9_parse
  have e2 : parseOf (⟨#[65, 71, 32, 40, 97]⟩ : ByteArray).data.toList = (fm0, 41, 5) := aw9_two
  have e3 : parseOf (⟨#[69, 32, 91, 97, 32, 85, 32, 98]⟩ : ByteArray).data.toList = (fm0, 41, 8) := aw9_three
  rw [e1] at HP
  rw [e2] at HQ
  rw [e3] at HR
  clear e1 e2 e3
  have HT := Lib.hid (fun A c W h => print_any aw9 A c W h)
  rw [aw9_print] at HT
  unfold printV at HT
  generalize aw9 = f at HP HT
  go_enter Tryd.func29, Tryd.ntmps29
  go_wp2_with fail
  refine (HP.out _).mono ?_
  rintro e w1 ⟨A, c, rfl, hv1, hb1⟩
  have hX := Blk.new w1 37 #[.int .i64 f.kind, .string ⟨f.name.toArray⟩, .int .i64 f.lit, .slice A f.kids.length c]
  have hS1 := stepA w1 (.cells #[.int .i64 f.kind, .string ⟨f.name.toArray⟩, .int .i64 f.lit, .slice A f.kids.length c] 37)
  have HV1 := Lib.hid (FmV.after (show FmV w1 w1.heap.size f A c from hv1) hS1)
  have HB1 := Lib.hid (step2 hb1 hS1)
  have x0 := hX.cell 0
  have x1 := hX.cell 1
  have x2 := hX.cell 2
  have x3 := hX.cell 3
  clear hv1 hb1 hX hS1
  dsimp only [fmA]
  go_wp2_with fail
  clear x0 x1 x2 x3
  generalize (w1.alloc (.cells #[.int .i64 f.kind, .string ⟨f.name.toArray⟩, .int .i64 f.lit, .slice A f.kids.length c] 37)) = w2 at HV1 HB1 ⊢
  refine (HT.out A c w2 HV1.out).mono ?_
  rintro e w3 ⟨rfl, hb3⟩
  have HB3 := Lib.hid (step2 HB1.out hb3)
  clear hb3 HB1 HV1
  go_wp2_with fail
  refine (HQ.out _).mono ?_
  rintro e w4 ⟨A2, c2, rfl, -, hb4⟩
  have HB4 := Lib.hid (step2 (step2 HB3.out hb4) (stepA w4 (.cells #[.int .i64 fm0.kind, .string ⟨fm0.name.toArray⟩, .int .i64 fm0.lit, .slice A2 fm0.kids.length c2] 37)))
  clear hb4 HB3
  dsimp only [fmA, fm0, Fm.kind, Fm.name, Fm.lit, Fm.kids, List.length_nil] at HB4 ⊢
  go_wp2_with fail
  generalize (w4.alloc (.cells #[.int .i64 0, .string ⟨[].toArray⟩, .int .i64 0, .slice A2 0 c2] 37)) = w5 at HB4 ⊢
  refine (HR.out _).mono ?_
  rintro e w6 ⟨A3, c3, rfl, -, hb6⟩
  have HB6 := Lib.hid (step2 (step2 HB4.out hb6) (stepA w6 (.cells #[.int .i64 fm0.kind, .string ⟨fm0.name.toArray⟩, .int .i64 fm0.lit, .slice A3 fm0.kids.length c3] 37)))
  clear hb6 HB4
  dsimp only [fmA, fm0, Fm.kind, Fm.name, Fm.lit, Fm.kids, List.length_nil] at HB6 ⊢
  go_wp2_with fail
  go_ret
  exact ⟨rfl, HB6.out⟩
end Go.Proofs.YtijecfmblddanaaDoor
