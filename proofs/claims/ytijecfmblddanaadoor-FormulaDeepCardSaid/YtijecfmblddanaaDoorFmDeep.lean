/- Formulas: FormulaDeep (printed by laws8d.py). -/
import Derived.Test.YtijecfmblddanaaDoorFmAwake
import Derived.Test.YtijecfmblddanaaDoorFmQ
set_option linter.unusedVariables false
set_option linter.unusedSimpArgs false
namespace Go.Proofs.YtijecfmblddanaaDoor
open Go.RowKit Go.Maps

/-- Four cells stored anew. -/
abbrev put4 (w : World) (x : Nat) (v0 v1 v2 v3 : Value) : World := (((w.setCell ⟨x, 0, none⟩ v0).setCell ⟨x, 1, none⟩ v1).setCell ⟨x, 2, none⟩ v2).setCell ⟨x, 3, none⟩ v3
section
variable {w wr : World} {B x T c : Nat} {Q : Nat → Prop} {A : Option Addr} {f : Fm} {a0 a1 a2 a3 v0 v1 v2 v3 : Value}
theorem put4_blk (h : Blk wr x T #[a0, a1, a2, a3]) : Blk (put4 wr x v0 v1 v2 v3) x T #[v0, v1, v2, v3] := (((h.set_ 0 v0).set_ 1 v1).set_ 2 v2).set_ 3 v3
theorem put4_far (h : FmVQ wr Q f A c) (hQ : ∀ b, Q b → b ≠ x) : FmVQ (put4 wr x v0 v1 v2 v3) Q f A c := (((h.far hQ v0).far hQ v1).far hQ v2).far hQ v3
theorem put4_below (h : Below B w wr) (hx : B ≤ x) : Below B w (put4 wr x v0 v1 v2 v3) := (((h.setCell (p := ⟨x, 0, none⟩) hx v0).setCell (p := ⟨x, 1, none⟩) hx v1).setCell (p := ⟨x, 2, none⟩) hx v2).setCell (p := ⟨x, 3, none⟩) hx v3
theorem put4_size : (put4 wr x v0 v1 v2 v3).heap.size = wr.heap.size := by simp [put4, World.setCell]
end

/-- The formula in block x7. -/
def DeepR (w : World) (x7 : Nat) (wr : World) : Prop := ∃ (f : Fm) (A : Option Addr) (c : Nat), Blk wr x7 37 #[.int .i64 f.kind, .string ⟨f.name.toArray⟩, .int .i64 f.lit, .slice A f.kids.length c] ∧ FmVQ wr (fun b => b ≠ x7 ∧ b < wr.heap.size) f A c ∧ Below w.heap.size w wr

theorem DeepR.one {w wr : World} {x7 : Nat} {f : Fm} {A : Option Addr} {c : Nat} (hxw : w.heap.size ≤ x7) (hX : Blk wr x7 37 #[.int .i64 f.kind, .string ⟨f.name.toArray⟩, .int .i64 f.lit, .slice A f.kids.length c]) (hV : FmVQ wr (fun b => b ≠ x7 ∧ b < wr.heap.size) f A c) (hB : Below w.heap.size w wr) :
    DeepR w x7 ((put4 wr x7 (.int .i64 9) (.string ⟨#[]⟩) (.int .i64 0) (.slice (some ⟨wr.heap.size, 0, none⟩) 1 1)).alloc (.cells #[.int .i64 f.kind, .string ⟨f.name.toArray⟩, .int .i64 f.lit, .slice A f.kids.length c] 37)) := by
  have hs := put4_size (wr := wr) (x := x7) (v0 := .int .i64 9) (v1 := .string ⟨#[]⟩) (v2 := .int .i64 0) (v3 := .slice (some ⟨wr.heap.size, 0, none⟩) 1 1)
  have hlt := hX.lt
  have hX' := (put4_blk (v0 := .int .i64 9) (v1 := .string ⟨#[]⟩) (v2 := .int .i64 0) (v3 := .slice (some ⟨wr.heap.size, 0, none⟩) 1 1) hX).alloc (.cells #[.int .i64 f.kind, .string ⟨f.name.toArray⟩, .int .i64 f.lit, .slice A f.kids.length c] 37)
  have hB' := put4_below (v0 := .int .i64 9) (v1 := .string ⟨#[]⟩) (v2 := .int .i64 0) (v3 := .slice (some ⟨wr.heap.size, 0, none⟩) 1 1) hB hxw
  have hV' := put4_far (x := x7) (v0 := .int .i64 9) (v1 := .string ⟨#[]⟩) (v2 := .int .i64 0) (v3 := .slice (some ⟨wr.heap.size, 0, none⟩) 1 1) hV (fun b h => h.1)
  revert hs hX' hB' hV'
  generalize put4 wr x7 (.int .i64 9) (.string ⟨#[]⟩) (.int .i64 0) (.slice (some ⟨wr.heap.size, 0, none⟩) 1 1) = U
  intro hs hX' hB' hV'
  have hR := Blk.new U 37 #[.int .i64 f.kind, .string ⟨f.name.toArray⟩, .int .i64 f.lit, .slice A f.kids.length c]
  rw [hs] at hR
  have hsz : (U.alloc (.cells #[.int .i64 f.kind, .string ⟨f.name.toArray⟩, .int .i64 f.lit, .slice A f.kids.length c] 37)).heap.size = wr.heap.size + 1 := by rw [World.size_alloc, hs]
  refine ⟨.mk 9 [] 0 [f], some ⟨wr.heap.size, 0, none⟩, 1, hX', ⟨by simp [Fm.kids], by decide, by simp [Fm.kind], by simp [Fm.name], FmQ.one ⟨by omega, by omega⟩ hR (hV'.low (B := U.heap.size) (fun b hb => ⟨by rw [hs]; exact hb.2, hb.1, by have := hb.2; omega⟩) (stepA U _))⟩, hB'.trans ((stepA U _).mono ?_)⟩
  have := hB'.size
  omega

theorem DeepR.two {w wr : World} {x7 : Nat} {f : Fm} {A : Option Addr} {c : Nat} (hxw : w.heap.size ≤ x7) (hX : Blk wr x7 37 #[.int .i64 f.kind, .string ⟨f.name.toArray⟩, .int .i64 f.lit, .slice A f.kids.length c]) (hV : FmVQ wr (fun b => b ≠ x7 ∧ b < wr.heap.size) f A c) (hB : Below w.heap.size w wr) :
    DeepR w x7 ((put4 wr x7 (.int .i64 5) (.string ⟨#[]⟩) (.int .i64 0) (.slice (some ⟨wr.heap.size, 0, none⟩) 2 2)).alloc (.cells #[.int .i64 f.kind, .string ⟨f.name.toArray⟩, .int .i64 f.lit, .slice A f.kids.length c, .int .i64 f.kind, .string ⟨f.name.toArray⟩, .int .i64 f.lit, .slice A f.kids.length c] 37)) := by
  have hs := put4_size (wr := wr) (x := x7) (v0 := .int .i64 5) (v1 := .string ⟨#[]⟩) (v2 := .int .i64 0) (v3 := .slice (some ⟨wr.heap.size, 0, none⟩) 2 2)
  have hlt := hX.lt
  have hX' := (put4_blk (v0 := .int .i64 5) (v1 := .string ⟨#[]⟩) (v2 := .int .i64 0) (v3 := .slice (some ⟨wr.heap.size, 0, none⟩) 2 2) hX).alloc (.cells #[.int .i64 f.kind, .string ⟨f.name.toArray⟩, .int .i64 f.lit, .slice A f.kids.length c, .int .i64 f.kind, .string ⟨f.name.toArray⟩, .int .i64 f.lit, .slice A f.kids.length c] 37)
  have hB' := put4_below (v0 := .int .i64 5) (v1 := .string ⟨#[]⟩) (v2 := .int .i64 0) (v3 := .slice (some ⟨wr.heap.size, 0, none⟩) 2 2) hB hxw
  have hV' := put4_far (x := x7) (v0 := .int .i64 5) (v1 := .string ⟨#[]⟩) (v2 := .int .i64 0) (v3 := .slice (some ⟨wr.heap.size, 0, none⟩) 2 2) hV (fun b h => h.1)
  revert hs hX' hB' hV'
  generalize put4 wr x7 (.int .i64 5) (.string ⟨#[]⟩) (.int .i64 0) (.slice (some ⟨wr.heap.size, 0, none⟩) 2 2) = U
  intro hs hX' hB' hV'
  have hR := Blk.new U 37 #[.int .i64 f.kind, .string ⟨f.name.toArray⟩, .int .i64 f.lit, .slice A f.kids.length c, .int .i64 f.kind, .string ⟨f.name.toArray⟩, .int .i64 f.lit, .slice A f.kids.length c]
  rw [hs] at hR
  have hsz : (U.alloc (.cells #[.int .i64 f.kind, .string ⟨f.name.toArray⟩, .int .i64 f.lit, .slice A f.kids.length c, .int .i64 f.kind, .string ⟨f.name.toArray⟩, .int .i64 f.lit, .slice A f.kids.length c] 37)).heap.size = wr.heap.size + 1 := by rw [World.size_alloc, hs]
  have hV2 : FmVQ (U.alloc (.cells #[.int .i64 f.kind, .string ⟨f.name.toArray⟩, .int .i64 f.lit, .slice A f.kids.length c, .int .i64 f.kind, .string ⟨f.name.toArray⟩, .int .i64 f.lit, .slice A f.kids.length c] 37)) (fun b => b ≠ x7 ∧ b < (U.alloc (.cells #[.int .i64 f.kind, .string ⟨f.name.toArray⟩, .int .i64 f.lit, .slice A f.kids.length c, .int .i64 f.kind, .string ⟨f.name.toArray⟩, .int .i64 f.lit, .slice A f.kids.length c] 37)).heap.size) f A c := hV'.low (B := U.heap.size) (fun b hb => ⟨by rw [hs]; exact hb.2, hb.1, by have := hb.2; omega⟩) (stepA U _)
  refine ⟨.mk 5 [] 0 [f, f], some ⟨wr.heap.size, 0, none⟩, 2, hX', ⟨by simp [Fm.kids], by decide, by simp [Fm.kind], by simp [Fm.name], FmQ.two ⟨by omega, by omega⟩ hR hV2 hV2⟩, hB'.trans ((stepA U _).mono ?_)⟩
  have := hB'.size
  omega

theorem DeepR.zero {w wr : World} {x7 : Nat} (hxw : w.heap.size ≤ x7) (h : DeepR w x7 wr) : DeepR w x7 (put4 wr x7 (.int .i64 3) (.string ⟨#[113]⟩) (.int .i64 0) (.slice none 0 0)) := by
  obtain ⟨f, A, c, hX, hV, hB⟩ := h
  exact ⟨.mk 3 [113] 0 [], none, 0, put4_blk hX, .leaf (by decide) (by decide) rfl (by decide), put4_below hB hxw⟩
theorem DeepR.after {w wr wr' : World} {x7 : Nat} (hx : x7 < wr.heap.size) (h : DeepR w x7 wr) (hb : Below wr.heap.size wr wr') : DeepR w x7 wr' := by
  obtain ⟨f, A, c, hX, hV, hB⟩ := h
  exact ⟨f, A, c, hX.below hb hx, hV.low (B := wr.heap.size) (fun b h => ⟨h.2, h.1, Nat.lt_of_lt_of_le h.2 hb.size⟩) hb, step2 hB hb⟩

set_option maxRecDepth 100000 in
set_option maxHeartbeats 4000000 in
theorem formulaDeep_any (n m : Int) (wide : Bool) (w : World) (hn : 0 ≤ n ∧ n ≤ 255) (hm : 0 ≤ m ∧ m ≤ 65535) : Calls Tryd.prog 9 #[.int .u8 n, .int .u16 m, .bool wide] w (Ret w (.bool true)) := by
  obtain ⟨hn0, hn1⟩ := hn
  obtain ⟨hm0, hm1⟩ := hm
  have HA : Hid (∀ (s : ByteArray) (W : World), Calls Tryd.prog 26 #[.string s] W (Ret W (.agg #[.int .i64 3, .string s, .int .i64 0, .slice none 0 0]))) := Lib.hid (fun s W => latom_any s W)
  have t1 : Int.tmod n 100 = n % 100 := Int.tmod_eq_emod_of_nonneg (by omega)
  have t2 : Int.tmod m 5 = m % 5 := Int.tmod_eq_emod_of_nonneg (by omega)
  go_enter Tryd.func9, Tryd.ntmps9
  go_wp2_with fail
  refine (HA.out _ _).mono ?_
  rintro e w1 ⟨rfl, hb1⟩
  have hw1 := hb1.size
  have HB1 := Lib.hid (step2 hb1 (stepA w1 (.cells #[.int .i64 3, .string ⟨#[113]⟩, .int .i64 0, .slice none 0 0] 37)))
  have HX := Lib.hid (Blk.new w1 37 #[.int .i64 3, .string ⟨#[113]⟩, .int .i64 0, .slice none 0 0])
  clear hb1
  go_wp2_with fail
  obtain ⟨x7, hx7⟩ : ∃ x7, x7 = w1.heap.size := ⟨_, rfl⟩
  obtain ⟨v, hv⟩ : ∃ v, v = w1.alloc (.cells #[.int .i64 3, .string ⟨#[113]⟩, .int .i64 0, .slice none 0 0] 37) := ⟨_, rfl⟩
  have hvx : x7 < v.heap.size := by rw [hv, hx7]; simp
  have hxw : w.heap.size ≤ x7 := by rw [hx7]; exact hw1
  rw [← hv] at HB1 HX ⊢
  rw [← hx7] at HX ⊢
  clear hv hx7 hw1
  go_loopw [8] (fun iv wr => ∃ k : Nat, iv = .int .i64 (k : Int) ∧ k ≤ 1000 ∧ x7 < wr.heap.size ∧ DeepR w x7 wr) (fun iv _ => 200 - (intOf iv).toNat)
  case atStart => exact ⟨0, rfl, by omega, hvx, .mk 3 [113] 0 [], none, 0, HX.out, .leaf (by decide) (by decide) rfl (by decide), HB1.out⟩
  case round =>
    obtain ⟨k, rfl, hk, hxr, hD⟩ := hrel
    have HD := Lib.hid hD
    obtain ⟨f, A, c, hX, hV, hB⟩ := hD
    have HXr := Lib.hid hX
    have HVr := Lib.hid hV
    have HBr := Lib.hid hB
    have e0 := hX.cell 0
    have e1 := hX.cell 1
    have e2 := hX.cell 2
    have e3 := hX.cell 3
    have f0 := hX.frozen 0
    have f1 := hX.frozen 1
    have f2 := hX.frozen 2
    have f3 := hX.frozen 3
    clear hX hV hB
    by_cases hlt : (k : Int) < n % 100
    · go_wp2_with fail
      go_roundw
      case rel =>
        refine ⟨k + 1, by go_num, by omega, ?_, DeepR.one hxw HXr.out HVr.out HBr.out⟩
        simp [World.setCell]
        omega
      case measure => simp [intOf]; omega
    · cases wide with
      | false =>
        have HSM := Lib.hid (fun W (h : Below wr.heap.size wr W) => lsame_any f A c W ((HVr.out.v (B := wr.heap.size) (fun b h => h.2)).after h))
        unfold fmA at HSM
        go_wp2_with fail
        refine (awake8_any _).mono ?_
        rintro e w5 ⟨rfl, hb5⟩
        have hX5 := HXr.out.below hb5 hxr
        have g0 := hX5.cell 0
        have g1 := hX5.cell 1
        have g2 := hX5.cell 2
        have g3 := hX5.cell 3
        have HC := Lib.hid (HSM.out _ hb5)
        have HB5 := Lib.hid (step2 HBr.out hb5)
        clear hb5 hX5 e0 e1 e2 e3 f0 f1 f2 f3
        go_wp2_with fail
        refine HC.out.mono ?_
        rintro e w6 ⟨rfl, hb6⟩
        have HB6 := Lib.hid (step2 HB5.out hb6)
        clear hb6
        go_wp2_with fail
        go_ret
        exact Ret.mk rfl HB6.out
      | true =>
        go_wp2_with fail
        refine (HA.out _ _).mono ?_
        rintro e w5 ⟨rfl, hb5⟩
        have hX5 := HXr.out.below hb5 hxr
        have g0 := hX5.frozen 0
        have g1 := hX5.frozen 1
        have g2 := hX5.frozen 2
        have g3 := hX5.frozen 3
        have c0 := hX5.cell 0
        have c1 := hX5.cell 1
        have c2 := hX5.cell 2
        have c3 := hX5.cell 3
        have hx5 : x7 < w5.heap.size := by have := hb5.size; omega
        have HD5 := Lib.hid (HD.out.after hxr hb5)
        clear hb5 hX5 e0 e1 e2 e3 f0 f1 f2 f3
        go_wp2_with fail
        clear g0 g1 g2 g3 c0 c1 c2 c3
        go_loopw [9] (fun iv wr => ∃ k : Nat, iv = .int .i64 (k : Int) ∧ k ≤ 1000 ∧ x7 < wr.heap.size ∧ DeepR w x7 wr) (fun iv _ => 200 - (intOf iv).toNat)
        case atStart => exact ⟨0, rfl, by omega, by simp [World.setCell]; exact hx5, HD5.out.zero hxw⟩
        case round =>
          clear HXr HVr HBr HD
          obtain ⟨k, rfl, hk, hxr, hD⟩ := hrel
          obtain ⟨f, A, c, hX, hV, hB⟩ := hD
          have HXr := Lib.hid hX
          have HVr := Lib.hid hV
          have HBr := Lib.hid hB
          have e0 := hX.cell 0
          have e1 := hX.cell 1
          have e2 := hX.cell 2
          have e3 := hX.cell 3
          have f0 := hX.frozen 0
          have f1 := hX.frozen 1
          have f2 := hX.frozen 2
          have f3 := hX.frozen 3
          clear hX hV hB
          by_cases hlt2 : (k : Int) < 8 + m % 5
          · go_wp2_with fail
            go_roundw
            case rel =>
              refine ⟨k + 1, by go_num, by omega, ?_, DeepR.two hxw HXr.out HVr.out HBr.out⟩
              simp [World.setCell]
              omega
            case measure => simp [intOf]; omega
          · skip
            have HSM := Lib.hid (fun W (h : Below wr.heap.size wr W) => lsame_any f A c W ((HVr.out.v (B := wr.heap.size) (fun b h => h.2)).after h))
            unfold fmA at HSM
            go_wp2_with fail
            refine (awake8_any _).mono ?_
            rintro e w5 ⟨rfl, hb5⟩
            have hX5 := HXr.out.below hb5 hxr
            have g0 := hX5.cell 0
            have g1 := hX5.cell 1
            have g2 := hX5.cell 2
            have g3 := hX5.cell 3
            have HC := Lib.hid (HSM.out _ hb5)
            have HB5 := Lib.hid (step2 HBr.out hb5)
            clear hb5 hX5 e0 e1 e2 e3 f0 f1 f2 f3
            go_wp2_with fail
            refine HC.out.mono ?_
            rintro e w6 ⟨rfl, hb6⟩
            have HB6 := Lib.hid (step2 HB5.out hb6)
            clear hb6
            go_wp2_with fail
            go_ret
            exact Ret.mk rfl HB6.out
end Go.Proofs.YtijecfmblddanaaDoor
