/- Formulas: Same. -/
import Derived.RangeFuncBound
import Derived.Shelf.Abstract
import Derived.Lib.Strings
import Derived.WalkLawsBesides
import Derived.Test.YtijecfmblddanaaDoorFmMem
import Derived.Test.YtijecfmblddanaaDoorProg
set_option linter.unusedVariables false
set_option linter.unusedSimpArgs false
namespace Go.Proofs.YtijecfmblddanaaDoor
open Go.RowKit Go.Maps Go.Shelf

theorem sameL_false {fs gs : List Fm} (h : fs ≠ gs) : sameL fs gs = false := by
  rw [Bool.eq_false_iff]
  exact fun e => h ((sameL_iff fs gs).1 e)
theorem same_false {f g : Fm} (h : f ≠ g) : f.same g = false := by
  rw [Bool.eq_false_iff]
  exact fun e => h ((Fm.same_iff f g).1 e)

set_option maxHeartbeats 1000000 in
theorem eqf_any (fs gs : List Fm) (ih : ∀ k, k ∈ fs → ∀ (g : Fm) (w : World) (B : Nat) (A A' : Option Addr) (c c' : Nat), FmV w B k A c → FmV w B g A' c' → B ≤ w.heap.size → Calls Tryd.prog 23 #[fmA k A c, fmA g A' c'] w (Ret w (.bool (k.same g))))
    (w : World) (B : Nat) (A A' : Option Addr) (c c' : Nat) (hf : FmS w B fs A) (hg : FmS w B gs A') (hB : B ≤ w.heap.size) (h1 : fs.length ≤ 140737488355328) (h2 : gs.length ≤ 140737488355328) :
    Calls Tryd.prog 39 #[.slice A fs.length c, .slice A' gs.length c', .func (.func 23) #[] #[]] w (Ret w (.bool (sameL fs gs))) := by
  have hE : ∀ args w, (callFunc 23 args).run Tryd.prog w = .ok (.enter 23 args) w := enters_of Tryd.func23 (by kernel_rfl) rfl
  have HIH := Lib.hid ih
  have HF := Lib.hid hf
  have HG := Lib.hid hg
  clear ih hf hg
  by_cases hl : fs.length = gs.length
  · have hl' : ((fs.length : Int) != (gs.length : Int)) = false := by simp [hl]
    have HL := Lib.hid hl
    have hll : gs.length = fs.length := hl.symm
    clear hl
    rw [hll] at hl' h2 ⊢
    have HLL := Lib.hid hll
    clear hll
    go_enter Tryd.func39, Tryd.ntmps39
    go_wp2_with fail
    go_loopw [17] (fun iv wr => ∃ i : Nat, i ≤ fs.length ∧ iv = .int .i64 (i : Int) ∧ Below w.heap.size w wr ∧ ∀ j, j < i → fs[j]? = gs[j]?) (fun iv _ => fs.length - (intOf iv).toNat)
    case atStart => exact ⟨0, Nat.zero_le _, rfl, Below.refl _ _, fun j h => by omega⟩
    case round =>
      obtain ⟨i, hi, rfl, hbr, hall⟩ := hrel
      have hszr := hbr.size
      have HBR := Lib.hid hbr
      have HALL := Lib.hid hall
      clear hbr hall
      by_cases hlt : i < fs.length
      · have hlt' : (i : Int) < (fs.length : Int) := by omega
        obtain ⟨k, hk⟩ : ∃ k, fs[i]? = some k := ⟨_, List.getElem?_eq_getElem hlt⟩
        obtain ⟨g, hg⟩ : ∃ g, gs[i]? = some g := ⟨_, List.getElem?_eq_getElem (by rw [HLL.out]; exact hlt)⟩
        have hmem := List.mem_of_getElem? hk
        obtain ⟨q, o, Ak, ck, rfl, hq, ⟨q0, q1, q2, q3⟩, hkv⟩ := (HF.out.low (HBR.out.mono hB)).v hk
        have hst := stepA wr (.cells #[.int .i64 k.kind, .string ⟨k.name.toArray⟩, .int .i64 k.lit, .slice Ak k.kids.length ck] 37)
        obtain ⟨r, u, Ag, cg, rfl, hr, ⟨r0, r1, r2, r3⟩, hgv⟩ := ((HG.out.low (HBR.out.mono hB)).low (hst.mono (by omega))).v hg
        have hst2 := stepA (wr.alloc (.cells #[.int .i64 k.kind, .string ⟨k.name.toArray⟩, .int .i64 k.lit, .slice Ak k.kids.length ck] 37)) (.cells #[.int .i64 g.kind, .string ⟨g.name.toArray⟩, .int .i64 g.lit, .slice Ag g.kids.length cg] 37)
        have hst3 := step2 hst hst2
        have HC := Lib.hid (HIH.out k hmem g _ B Ak Ag ck cg (hkv.low (hst3.mono (by omega))) (hgv.low (hst2.mono (by have := hst.size; omega))) (by have := hst3.size; omega))
        have HST := Lib.hid (step2 HBR.out hst3)
        have HK := Lib.hid hk
        have HGG := Lib.hid hg
        unfold fmA at HC
        clear hst hst2 hst3 hkv hgv hk hg hmem
        go_wp2_with fail
        refine HC.out.mono ?_
        rintro e w3 ⟨rfl, hb3⟩
        have HB3 := Lib.hid (step2 HST.out hb3)
        clear hb3
        by_cases he : k = g
        · have hkg : k.same g = true := (Fm.same_iff k g).2 he
          have HEQ := Lib.hid he
          clear he
          rw [hkg]
          clear hkg
          go_wp2_with fail
          go_roundw
          case rel =>
            refine ⟨i + 1, by omega, by go_num, HB3.out, fun j hj => ?_⟩
            by_cases e : j = i
            · rw [e, HK.out, HGG.out, HEQ.out]
            · exact HALL.out j (by omega)
          case measure => simp [intOf]; omega
        · have hkg : k.same g = false := same_false he
          have HE : Hid (sameL fs gs = false) := Lib.hid (sameL_false fun e => he (by
            have h1 := HK.out
            rw [e, HGG.out] at h1
            exact (Option.some.inj h1).symm))
          clear he
          rw [hkg]
          clear hkg
          go_wp2_with fail
          go_ret
          rw [HE.out]
          exact ⟨rfl, HB3.out⟩
      · have hii : i = fs.length := by omega
        have HE : Hid (sameL fs gs = true) := Lib.hid ((sameL_iff fs gs).2 (List.ext_getElem? fun j => by
          by_cases hj : j < fs.length
          · exact HALL.out j (by omega)
          · rw [List.getElem?_eq_none (by omega), List.getElem?_eq_none (by rw [HLL.out]; omega)]))
        clear hii
        go_wp2_with fail
        go_ret
        rw [HE.out]
        exact ⟨rfl, HBR.out⟩
  · have hl' : ((fs.length : Int) != (gs.length : Int)) = true := by simp; omega
    have HE : Hid (sameL fs gs = false) := Lib.hid (sameL_false fun e => hl (by rw [e]))
    clear hl
    go_enter Tryd.func39, Tryd.ntmps39
    go_wp2_with fail
    go_ret
    rw [HE.out]
    exact ⟨rfl, Below.refl _ _⟩

set_option maxHeartbeats 1000000 in
theorem same_any : ∀ (n : Nat) (f : Fm), f.sz < n → ∀ (g : Fm) (w : World) (B : Nat) (A A' : Option Addr) (c c' : Nat), FmV w B f A c → FmV w B g A' c' → B ≤ w.heap.size → Calls Tryd.prog 23 #[fmA f A c, fmA g A' c'] w (Ret w (.bool (f.same g)))
  | 0, f, h => by omega
  | n + 1, f, hn => by
    intro g w B A A' c c' hf hg hB
    have hst := stepA w (.cells #[.int .i64 f.kind, .string ⟨f.name.toArray⟩, .int .i64 f.lit, .slice A f.kids.length c] 37)
    have hst2 := stepA (w.alloc (.cells #[.int .i64 f.kind, .string ⟨f.name.toArray⟩, .int .i64 f.lit, .slice A f.kids.length c] 37)) (.cells #[.int .i64 g.kind, .string ⟨g.name.toArray⟩, .int .i64 g.lit, .slice A' g.kids.length c'] 37)
    have hst3 := step2 hst hst2
    have hcap := hf.cap
    have hcap2 := hg.cap
    have hbig := hf.big
    have hbig2 := hg.big
    have HC := Lib.hid (eqf_any f.kids g.kids (fun k hk g w B A A' c c' h1 h2 h3 => same_any n k (by have := Fm.kid_sz hk; omega) g w B A A' c c' h1 h2 h3) _ B A A' c c' (hf.kids.low (hst3.mono hB)) (hg.kids.low (hst3.mono hB)) (by have := hst3.size; omega) (by omega) (by omega))
    have HST := Lib.hid hst3
    have HS : Hid (f.same g = (decide (f.kind = g.kind) && decide (f.name = g.name) && decide (f.lit = g.lit) && sameL f.kids g.kids)) := Lib.hid (f.same_eq g)
    have hnn : (f.name == g.name) = decide (f.name = g.name) := by rw [Bool.eq_iff_iff]; simp
    have hkk : (f.kind == g.kind) = decide (f.kind = g.kind) := by rw [Bool.eq_iff_iff]; simp
    have hll : (f.lit == g.lit) = decide (f.lit = g.lit) := by rw [Bool.eq_iff_iff]; simp
    clear hst hst2 hst3 hf hg hcap hcap2 hbig hbig2
    unfold fmA
    generalize f.same g = R at HS ⊢
    generalize sameL f.kids g.kids = S at HS HC
    generalize decide (f.kind = g.kind) = b1 at HS hkk
    generalize decide (f.name = g.name) = b2 at HS hnn
    generalize decide (f.lit = g.lit) = b3 at HS hll
    cases b1 with
    | false =>
      have HE : Hid (R = false) := Lib.hid (by rw [HS.out]; simp)
      go_enter Tryd.func23, Tryd.ntmps23
      go_wp2_with fail
      go_ret
      rw [HE.out]
      exact ⟨rfl, HST.out⟩
    | true =>
      cases b2 with
      | false =>
        have HE : Hid (R = false) := Lib.hid (by rw [HS.out]; simp)
        go_enter Tryd.func23, Tryd.ntmps23
        go_wp2_with fail
        go_ret
        rw [HE.out]
        exact ⟨rfl, HST.out⟩
      | true =>
        cases b3 with
        | false =>
          have HE : Hid (R = false) := Lib.hid (by rw [HS.out]; simp)
          go_enter Tryd.func23, Tryd.ntmps23
          go_wp2_with fail
          go_ret
          rw [HE.out]
          exact ⟨rfl, HST.out⟩
        | true =>
          have HE : Hid (R = S) := Lib.hid (by rw [HS.out]; simp)
          go_enter Tryd.func23, Tryd.ntmps23
          go_wp2_with fail
          refine HC.out.mono ?_
          rintro e w3 ⟨rfl, hb3⟩
          have HB3 := Lib.hid (step2 HST.out hb3)
          clear hb3
          go_wp2_with fail
          go_ret
          rw [HE.out]
          exact ⟨rfl, HB3.out⟩
end Go.Proofs.YtijecfmblddanaaDoor
