/- Formulas, the statements' own functions: atom, big. -/
import Derived.Test.YtijecfmblddanaaDoorFmMem
import Derived.Test.YtijecfmblddanaaDoorProg
set_option linter.unusedVariables false
set_option linter.unusedSimpArgs false
namespace Go.Proofs.YtijecfmblddanaaDoor
open Go.RowKit Go.Maps

/-- An atom of a name. -/
def atomF (s : List UInt8) : Fm := .mk 3 s 0 []

set_option maxHeartbeats 400000 in
theorem latom_any (s : ByteArray) (w : World) : Calls Tryd.prog 26 #[.string s] w (Ret w (fmA (atomF s.data.toList) none 0)) := by
  have HB := Lib.hid (stepA w (.cells #[.int .i64 3, .string s, .int .i64 0, .slice none 0 0] 37))
  have hB := Blk.new w 37 #[.int .i64 3, .string s, .int .i64 0, .slice none 0 0]
  have c0 := hB.cell 0
  have c1 := hB.cell 1
  have c2 := hB.cell 2
  have c3 := hB.cell 3
  clear hB
  go_enter Tryd.func26, Tryd.ntmps26
  go_wp2_with fail
  refine bodyPost_ret (v := .agg #[.int .i64 3, .string s, .int .i64 0, .slice none 0 0]) (by simp [results, Tryd.results26, go_sem, c0, c1, c2, c3]) rfl ?_
  exact Ret.mk rfl HB.out

set_option maxHeartbeats 1000000 in
theorem big_any : ∀ (n : Nat) (f : Fm), f.sz < n → ∀ (w : World) (B : Nat) (A : Option Addr) (c : Nat) (m : Int), FmV w B f A c → B ≤ w.heap.size → -1 ≤ m → m ≤ 4000 →
    Calls Tryd.prog 20 #[fmA f A c, .int .i64 m] w fun e w' => ∃ r : Int, e = .returned (.int .i64 r) ∧ -1 ≤ r ∧ r ≤ m ∧ Below w.heap.size w w'
  | 0, f, h => by omega
  | n + 1, f, hn => by
    intro w B A c m hf hB h1 h2
    have HIH := Lib.hid (big_any n)
    have hb1 := stepA w (.cells #[.int .i64 f.kind, .string ⟨f.name.toArray⟩, .int .i64 f.lit, .slice A f.kids.length c] 37)
    have HX := Lib.hid (Blk.new w 37 #[.int .i64 f.kind, .string ⟨f.name.toArray⟩, .int .i64 f.lit, .slice A f.kids.length c])
    have hcap := hf.cap
    have hcb := hf.big
    have hkl : f.kids.length ≤ 140737488355328 := by omega
    have HF := Lib.hid hf
    have HB1 := Lib.hid hb1
    have e3 := HX.out.cell 3
    clear hf hb1 hcap hcb
    unfold fmA
    go_enter Tryd.func20, Tryd.ntmps20
    go_wp2_with fail
    obtain ⟨v, hv⟩ : ∃ v, v = w.alloc (.cells #[.int .i64 f.kind, .string ⟨f.name.toArray⟩, .int .i64 f.lit, .slice A f.kids.length c] 37) := ⟨_, rfl⟩
    have hvs : v.heap.size = w.heap.size + 1 := by rw [hv]; simp
    rw [← hv] at HX HB1 e3 ⊢
    have HVS := Lib.hid hvs
    clear hv e3 hvs
    go_loopw [5, 1] (fun i y wr => ∃ (k : Nat) (r : Int), k ≤ f.kids.length ∧ i = .int .i64 (k : Int) ∧ y = .int .i64 r ∧ -1 ≤ r ∧ r ≤ m ∧ Below v.heap.size v wr) (fun i _ _ => f.kids.length - (intOf i).toNat)
    case atStart => exact ⟨0, m, Nat.zero_le _, rfl, rfl, h1, Int.le_refl _, Below.refl _ _⟩
    case round =>
      obtain ⟨k, r, hk, rfl, rfl, hr1, hr2, hbr⟩ := hrel
      have hszr := hbr.size
      have HBR := Lib.hid hbr
      have HXR := Lib.hid (HX.out.below hbr (by have := HVS.out; omega))
      have x3 := HXR.out.cell 3
      clear hbr
      by_cases hlt : k < f.kids.length
      · have hlt' : (k : Int) < (f.kids.length : Int) := by omega
        by_cases hr0 : 0 ≤ r
        · obtain ⟨g, hg⟩ : ∃ g, f.kids[k]? = some g := ⟨_, List.getElem?_eq_getElem hlt⟩
          have hgsz := Fm.kid_sz (List.mem_of_getElem? hg)
          obtain ⟨q, o, Ag, cg, rfl, hq, ⟨q0, q1, q2, q3⟩, hgv⟩ := (HF.out.kids.low ((step2 HB1.out HBR.out).mono hB)).v hg
          have HC := Lib.hid (HIH.out g (by omega) wr B Ag cg (r - 1) hgv (by have := HVS.out; omega) (by omega) (by omega))
          clear hg hgv
          unfold fmA at HC
          go_wp2_with fail
          refine HC.out.mono ?_
          rintro e w3 ⟨r', rfl, hr3, hr4, hb3⟩
          have HB3 := Lib.hid (step2 HBR.out hb3)
          clear hb3
          go_wp2_with fail
          go_roundw
          case rel => exact ⟨k + 1, r', by omega, by go_num, rfl, hr3, by omega, HB3.out⟩
          case measure => simp [intOf]; omega
        · go_wp2_with fail
          go_ret
          exact ⟨r, rfl, hr1, hr2, step2 HB1.out HBR.out⟩
      · go_wp2_with fail
        all_goals go_ret
        all_goals exact ⟨r, rfl, hr1, hr2, step2 HB1.out HBR.out⟩
end Go.Proofs.YtijecfmblddanaaDoor
