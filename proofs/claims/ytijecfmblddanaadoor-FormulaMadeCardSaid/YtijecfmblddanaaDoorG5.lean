/- Formulas, the statements' own functions: atom, big. Formulas: the document's right, Right, Size. Formulas: Key, the document's Key and plain. strings.Builder: its contracts at this program, laid by hand (printed by lay_hand.py). Formulas: Key, an atom's text. Formulas: a formula's text. -/
import Derived.Test.YtijecfmblddanaaDoorG2
import Derived.Test.YtijecfmblddanaaDoorProg
import Derived.Test.YtijecfmblddanaaDoorG1
import Derived.Test.YtijecfmblddanaaDoorG3
import Derived.Ground.NamesProg
import Derived.Shelf.Lay
import Derived.Shelf.Strings.BuilderK
import Derived.Laws.RangeString
import Derived.Test.YtijecfmblddanaaDoorFmShelf2
set_option linter.unusedVariables false
set_option linter.unusedSimpArgs false
namespace Go.Proofs.YtijecfmblddanaaDoor
open Go.RowKit Go.Maps

/-- An atom of a name. -/
def atomF (s : List UInt8) : Fm := .mk 3 s 0 []

set_option maxHeartbeats 400000 in
theorem latom_any (s : ByteArray) (w : World) : Calls Tryd.prog 26 #[.string s] w (Ret w (fmA (atomF s.data.toList) none 0)) := by
  have HB := Lib.hid (stepA w (.cells #[.int .i64 3, .string s, .int .i64 0, .slice none 0 0] 37))
  have hB := Blk.new w 37 #[.int .i64 3, .string s, .int .i64 0, .slice none 0 0]
  have c0 := hB.cell 0
  have c1 := hB.cell 1
  have c2 := hB.cell 2
  have c3 := hB.cell 3
  clear hB
  go_enter Tryd.func26, Tryd.ntmps26
  go_wp2_with fail
  refine bodyPost_ret (v := .agg #[.int .i64 3, .string s, .int .i64 0, .slice none 0 0]) (by simp [results, Tryd.results26, go_sem, c0, c1, c2, c3]) rfl ?_
  exact Ret.mk rfl HB.out

set_option maxHeartbeats 1000000 in
theorem big_any : ∀ (n : Nat) (f : Fm), f.sz < n → ∀ (w : World) (B : Nat) (A : Option Addr) (c : Nat) (m : Int), FmV w B f A c → B ≤ w.heap.size → -1 ≤ m → m ≤ 4000 →
    Calls Tryd.prog 20 #[fmA f A c, .int .i64 m] w fun e w' => ∃ r : Int, e = .returned (.int .i64 r) ∧ -1 ≤ r ∧ r ≤ m ∧ Below w.heap.size w w'
  | 0, f, h => by omega
  | n + 1, f, hn => by
    intro w B A c m hf hB h1 h2
    have HIH := Lib.hid (big_any n)
    have hb1 := stepA w (.cells #[.int .i64 f.kind, .string ⟨f.name.toArray⟩, .int .i64 f.lit, .slice A f.kids.length c] 37)
    have HX := Lib.hid (Blk.new w 37 #[.int .i64 f.kind, .string ⟨f.name.toArray⟩, .int .i64 f.lit, .slice A f.kids.length c])
    have hcap := hf.cap
    have hcb := hf.big
    have hkl : f.kids.length ≤ 140737488355328 := by omega
    have HF := Lib.hid hf
    have HB1 := Lib.hid hb1
    have e3 := HX.out.cell 3
    clear hf hb1 hcap hcb
    unfold fmA
    go_enter Tryd.func20, Tryd.ntmps20
    go_wp2_with fail
    obtain ⟨v, hv⟩ : ∃ v, v = w.alloc (.cells #[.int .i64 f.kind, .string ⟨f.name.toArray⟩, .int .i64 f.lit, .slice A f.kids.length c] 37) := ⟨_, rfl⟩
    have hvs : v.heap.size = w.heap.size + 1 := by rw [hv]; simp
    rw [← hv] at HX HB1 e3 ⊢
    have HVS := Lib.hid hvs
    clear hv e3 hvs
    go_loopw [5, 1] (fun i y wr => ∃ (k : Nat) (r : Int), k ≤ f.kids.length ∧ i = .int .i64 (k : Int) ∧ y = .int .i64 r ∧ -1 ≤ r ∧ r ≤ m ∧ Below v.heap.size v wr) (fun i _ _ => f.kids.length - (intOf i).toNat)
    case atStart => exact ⟨0, m, Nat.zero_le _, rfl, rfl, h1, Int.le_refl _, Below.refl _ _⟩
    case round =>
      obtain ⟨k, r, hk, rfl, rfl, hr1, hr2, hbr⟩ := hrel
      have hszr := hbr.size
      have HBR := Lib.hid hbr
      have HXR := Lib.hid (HX.out.below hbr (by have := HVS.out; omega))
      have x3 := HXR.out.cell 3
      clear hbr
      by_cases hlt : k < f.kids.length
      · have hlt' : (k : Int) < (f.kids.length : Int) := by omega
        by_cases hr0 : 0 ≤ r
        · obtain ⟨g, hg⟩ : ∃ g, f.kids[k]? = some g := ⟨_, List.getElem?_eq_getElem hlt⟩
          have hgsz := Fm.kid_sz (List.mem_of_getElem? hg)
          obtain ⟨q, o, Ag, cg, rfl, hq, ⟨q0, q1, q2, q3⟩, hgv⟩ := (HF.out.kids.low ((step2 HB1.out HBR.out).mono hB)).v hg
          have HC := Lib.hid (HIH.out g (by omega) wr B Ag cg (r - 1) hgv (by have := HVS.out; omega) (by omega) (by omega))
          clear hg hgv
          unfold fmA at HC
          go_wp2_with fail
          refine HC.out.mono ?_
          rintro e w3 ⟨r', rfl, hr3, hr4, hb3⟩
          have HB3 := Lib.hid (step2 HBR.out hb3)
          clear hb3
          go_wp2_with fail
          go_roundw
          case rel => exact ⟨k + 1, r', by omega, by go_num, rfl, hr3, by omega, HB3.out⟩
          case measure => simp [intOf]; omega
        · go_wp2_with fail
          go_ret
          exact ⟨r, rfl, hr1, hr2, step2 HB1.out HBR.out⟩
      · go_wp2_with fail
        all_goals go_ret
        all_goals exact ⟨r, rfl, hr1, hr2, step2 HB1.out HBR.out⟩
end Go.Proofs.YtijecfmblddanaaDoor

set_option linter.unusedVariables false
set_option linter.unusedSimpArgs false
namespace Go.Proofs.YtijecfmblddanaaDoor
open Go.RowKit Go.Maps

/-- What the document's right hands back. -/
def rr (f : Fm) (d : Int) : Bool := f.wf d && decide (f.sz ≤ 2000)
def RRet (f : Fm) (d : Int) (w : World) (e : Ending) (w' : World) : Prop := e = .returned (.tuple #[.int .i64 (if rr f d then (f.sz : Int) else 0), .bool (rr f d)]) ∧ Below w.heap.size w w'

set_option maxRecDepth 100000 in
set_option maxHeartbeats 4000000 in
theorem rright_any : ∀ (n : Nat) (f : Fm), f.sz < n → ∀ (w : World) (d : Int) (A : Option Addr) (c : Nat), FmV w w.heap.size f A c → -1000 ≤ d → d ≤ 60 →
    Calls Tryd.prog 58 #[fmA f A c, .int .i64 d] w (RRet f d w)
  | 0, f, h => by omega
  | n + 1, f, hn => by
    intro w d A c hf hd0 hd1
    have HIH := Lib.hid (rright_any n)
    have HF := Lib.hid hf
    have hb1 := stepA w (.cells #[.int .i64 f.kind, .string ⟨f.name.toArray⟩, .int .i64 f.lit, .slice A f.kids.length c] 37)
    have HT := Lib.hid (Blk.new w 37 #[.int .i64 f.kind, .string ⟨f.name.toArray⟩, .int .i64 f.lit, .slice A f.kids.length c])
    have HB1 := Lib.hid hb1
    have HWF := Lib.hid (f.wf_eq d)
    have HSZ := Lib.hid f.sz_eq
    have hszp := f.sz_pos
    have hkb : f.kids.length ≤ 140737488355328 := hf.big
    obtain ⟨NM, hNM⟩ : ∃ NM : ByteArray, NM = ⟨f.name.toArray⟩ := ⟨_, rfl⟩
    have HWD : Hid (∀ w, Calls Tryd.prog 77 #[.string NM] w fun e w' => e = .returned (.bool (wordB f.name)) ∧ w' = w) := Lib.hid (fun w => by
      have h := rword_any NM (by rw [hNM]; show f.name.toArray.size ≤ _; rw [List.size_toArray]; have := HF.out.name; omega) w
      rw [hNM] at h ⊢
      exact h)
    have hem : NM.toList.isEmpty = decide (f.name = []) := by
      rw [hNM, Lib.toList_data]
      show f.name.isEmpty = _
      cases f.name <;> simp
    rw [← hNM] at HT HB1
    have e0 := HT.out.cell 0
    have e1 : (w.alloc (.cells #[.int .i64 f.kind, .string NM, .int .i64 f.lit, .slice A f.kids.length c] 37)).cell? ⟨w.heap.size, 1, none⟩ = some (.string NM) := HT.out.cell 1
    have e2 := HT.out.cell 2
    have e3 := HT.out.cell 3
    have HEM := Lib.hid hem
    clear hf hb1 hem
    unfold fmA
    rw [← hNM]
    have HNM := Lib.hid hNM
    clear hNM
    by_cases hD : d < 1
    · have HE : Hid (rr f d = false) := Lib.hid (by unfold rr; rw [HWF.out, decide_eq_false (show ¬ 1 ≤ d by omega)]; simp)
      go_enter Tryd.func58, Tryd.ntmps58
      go_wp2_with fail
      refine wp_region_noPanic ?_
      refine wp_region_seq (fun W => (W.cell? ⟨w.heap.size, 0, none⟩ = some (.int .i64 f.kind) ∧ W.cell? ⟨w.heap.size, 1, none⟩ = some (.string NM)) ∧ (W.cell? ⟨w.heap.size, 2, none⟩ = some (.int .i64 f.lit) ∧ W.cell? ⟨w.heap.size, 3, none⟩ = some (.slice A f.kids.length c))) [0, 1, 2, 3, 4, 6, 7, 8, 5, 9, 10, 11, 12, 13, 14, 15, 16, 17, 18, 19, 20, 21, 22, 23, 24, 25, 26, 27, 28, 29, 30, 31, 32, 33, 34, 35] [0, 1, 2, 3, 4, 6, 7, 8, 9, 10, 11, 12, 13, 14, 15, 16, 17, 18, 19, 20, 21, 22, 23, 24, 25, 26, 27, 28, 29, 30, 31, 33, 34, 35] [] (by kernel_rfl) (by kernel_rfl) rfl (by kernel_rfl) (by kernel_rfl) (fun _ _ _ _ _ h => h) ?_ (fun hSS => ?_)
      · exact ⟨⟨e0, e1⟩, ⟨e2, e3⟩⟩
      (refine wpSeq_mov rfl rfl ?_; intro o ho; simp only [List.getElem?_toArray, List.getElem?_cons_zero, List.getElem?_cons_succ, Option.some.injEq] at ho; subst ho; refine ⟨?_, Or.inl ⟨by rfl, fun W hSW => ?_⟩, ?_⟩; rotate_left; (focus (go_simp; first | done | with_reducible rfl)); try simp only [Act.put, List.setIfInBounds_toArray, List.set_cons_zero, List.set_cons_succ])
      (refine wpSeq_mov rfl rfl ?_; intro o ho; simp only [List.getElem?_toArray, List.getElem?_cons_zero, List.getElem?_cons_succ, Option.some.injEq] at ho; subst ho; refine ⟨?_, Or.inl ⟨by rfl, fun W hSW => ?_⟩, ?_⟩; rotate_left; (focus (go_simp; first | done | with_reducible rfl)); try simp only [Act.put, List.setIfInBounds_toArray, List.set_cons_zero, List.set_cons_succ])
      (refine wpSeq_mov rfl rfl ?_; intro o ho; simp only [List.getElem?_toArray, List.getElem?_cons_zero, List.getElem?_cons_succ, Option.some.injEq] at ho; subst ho; refine ⟨?_, Or.inl ⟨by rfl, fun W hSW => ?_⟩, ?_⟩; rotate_left; (focus (go_simp; first | done | with_reducible rfl)); try simp only [Act.put, List.setIfInBounds_toArray, List.set_cons_zero, List.set_cons_succ])
      (refine wpSeq_mov rfl rfl ?_; intro o ho; simp only [List.getElem?_toArray, List.getElem?_cons_zero, List.getElem?_cons_succ, Option.some.injEq] at ho; subst ho; refine ⟨undef, Or.inr ⟨by rfl, rfl⟩, ?_⟩; try simp only [Act.put, List.setIfInBounds_toArray, List.set_cons_zero, List.set_cons_succ])
      (refine wpSeq_mov rfl rfl ?_; intro o ho; simp only [List.getElem?_toArray, List.getElem?_cons_zero, List.getElem?_cons_succ, Option.some.injEq] at ho; subst ho; refine ⟨undef, Or.inr ⟨by rfl, rfl⟩, ?_⟩; try simp only [Act.put, List.setIfInBounds_toArray, List.set_cons_zero, List.set_cons_succ])
      (refine wpSeq_mov rfl rfl ?_; intro o ho; simp only [List.getElem?_toArray, List.getElem?_cons_zero, List.getElem?_cons_succ, Option.some.injEq] at ho; subst ho; refine ⟨undef, Or.inr ⟨by rfl, rfl⟩, ?_⟩; try simp only [Act.put, List.setIfInBounds_toArray, List.set_cons_zero, List.set_cons_succ])
      (refine wpSeq_mov rfl rfl ?_; intro o ho; simp only [List.getElem?_toArray, List.getElem?_cons_zero, List.getElem?_cons_succ, Option.some.injEq] at ho; subst ho; refine ⟨undef, Or.inr ⟨by rfl, rfl⟩, ?_⟩; try simp only [Act.put, List.setIfInBounds_toArray, List.set_cons_zero, List.set_cons_succ])
      (refine wpSeq_mov rfl rfl ?_; intro o ho; simp only [List.getElem?_toArray, List.getElem?_cons_zero, List.getElem?_cons_succ, Option.some.injEq] at ho; subst ho; refine ⟨undef, Or.inr ⟨by rfl, rfl⟩, ?_⟩; try simp only [Act.put, List.setIfInBounds_toArray, List.set_cons_zero, List.set_cons_succ])
      (refine wpSeq_fix rfl rfl ?_; intro o ho; simp only [List.getElem?_toArray, List.getElem?_cons_zero, List.getElem?_cons_succ, Option.some.injEq] at ho; subst ho; intro K hK)
      go_simp
      (refine hK.out _ _ (fun _ => hSS) ?_; clear hK K; try simp only [Act.put, List.setIfInBounds_toArray, List.set_cons_zero, List.set_cons_succ])
      (refine wpSeq_mov rfl rfl ?_; intro o ho; simp only [List.getElem?_toArray, List.getElem?_cons_zero, List.getElem?_cons_succ, Option.some.injEq] at ho; subst ho; refine ⟨undef, Or.inr ⟨by rfl, rfl⟩, ?_⟩; try simp only [Act.put, List.setIfInBounds_toArray, List.set_cons_zero, List.set_cons_succ])
      (refine wpSeq_mov rfl rfl ?_; intro o ho; simp only [List.getElem?_toArray, List.getElem?_cons_zero, List.getElem?_cons_succ, Option.some.injEq] at ho; subst ho; refine ⟨?_, Or.inl ⟨by rfl, fun W hSW => ?_⟩, ?_⟩; rotate_left; (focus (go_simp; first | done | with_reducible rfl)); try simp only [Act.put, List.setIfInBounds_toArray, List.set_cons_zero, List.set_cons_succ])
      (refine wpSeq_mov rfl rfl ?_; intro o ho; simp only [List.getElem?_toArray, List.getElem?_cons_zero, List.getElem?_cons_succ, Option.some.injEq] at ho; subst ho; refine ⟨?_, Or.inl ⟨by rfl, fun W hSW => ?_⟩, ?_⟩; rotate_left; (focus (go_simp; first | done | with_reducible rfl)); try simp only [Act.put, List.setIfInBounds_toArray, List.set_cons_zero, List.set_cons_succ])
      (refine wpSeq_mov rfl rfl ?_; intro o ho; simp only [List.getElem?_toArray, List.getElem?_cons_zero, List.getElem?_cons_succ, Option.some.injEq] at ho; subst ho; refine ⟨undef, Or.inr ⟨by rfl, rfl⟩, ?_⟩; try simp only [Act.put, List.setIfInBounds_toArray, List.set_cons_zero, List.set_cons_succ])
      (refine wpSeq_mov rfl rfl ?_; intro o ho; simp only [List.getElem?_toArray, List.getElem?_cons_zero, List.getElem?_cons_succ, Option.some.injEq] at ho; subst ho; refine ⟨undef, Or.inr ⟨by rfl, rfl⟩, ?_⟩; try simp only [Act.put, List.setIfInBounds_toArray, List.set_cons_zero, List.set_cons_succ])
      (refine wpSeq_mov rfl rfl ?_; intro o ho; simp only [List.getElem?_toArray, List.getElem?_cons_zero, List.getElem?_cons_succ, Option.some.injEq] at ho; subst ho; refine ⟨undef, Or.inr ⟨by rfl, rfl⟩, ?_⟩; try simp only [Act.put, List.setIfInBounds_toArray, List.set_cons_zero, List.set_cons_succ])
      (refine wpSeq_mov rfl rfl ?_; intro o ho; simp only [List.getElem?_toArray, List.getElem?_cons_zero, List.getElem?_cons_succ, Option.some.injEq] at ho; subst ho; refine ⟨?_, Or.inl ⟨by rfl, fun W hSW => ?_⟩, ?_⟩; rotate_left; (focus (go_simp; first | done | with_reducible rfl)); try simp only [Act.put, List.setIfInBounds_toArray, List.set_cons_zero, List.set_cons_succ])
      (refine wpSeq_mov rfl rfl ?_; intro o ho; simp only [List.getElem?_toArray, List.getElem?_cons_zero, List.getElem?_cons_succ, Option.some.injEq] at ho; subst ho; refine ⟨?_, Or.inl ⟨by rfl, fun W hSW => ?_⟩, ?_⟩; rotate_left; (focus (go_simp; first | done | with_reducible rfl)); try simp only [Act.put, List.setIfInBounds_toArray, List.set_cons_zero, List.set_cons_succ])
      (refine wpSeq_mov rfl rfl ?_; intro o ho; simp only [List.getElem?_toArray, List.getElem?_cons_zero, List.getElem?_cons_succ, Option.some.injEq] at ho; subst ho; refine ⟨undef, Or.inr ⟨by rfl, rfl⟩, ?_⟩; try simp only [Act.put, List.setIfInBounds_toArray, List.set_cons_zero, List.set_cons_succ])
      (refine wpSeq_mov rfl rfl ?_; intro o ho; simp only [List.getElem?_toArray, List.getElem?_cons_zero, List.getElem?_cons_succ, Option.some.injEq] at ho; subst ho; refine ⟨undef, Or.inr ⟨by rfl, rfl⟩, ?_⟩; try simp only [Act.put, List.setIfInBounds_toArray, List.set_cons_zero, List.set_cons_succ])
      (refine wpSeq_mov rfl rfl ?_; intro o ho; simp only [List.getElem?_toArray, List.getElem?_cons_zero, List.getElem?_cons_succ, Option.some.injEq] at ho; subst ho; refine ⟨undef, Or.inr ⟨by rfl, rfl⟩, ?_⟩; try simp only [Act.put, List.setIfInBounds_toArray, List.set_cons_zero, List.set_cons_succ])
      (refine wpSeq_mov rfl rfl ?_; intro o ho; simp only [List.getElem?_toArray, List.getElem?_cons_zero, List.getElem?_cons_succ, Option.some.injEq] at ho; subst ho; refine ⟨undef, Or.inr ⟨by rfl, rfl⟩, ?_⟩; try simp only [Act.put, List.setIfInBounds_toArray, List.set_cons_zero, List.set_cons_succ])
      (refine wpSeq_mov rfl rfl ?_; intro o ho; simp only [List.getElem?_toArray, List.getElem?_cons_zero, List.getElem?_cons_succ, Option.some.injEq] at ho; subst ho; refine ⟨undef, Or.inr ⟨by rfl, rfl⟩, ?_⟩; try simp only [Act.put, List.setIfInBounds_toArray, List.set_cons_zero, List.set_cons_succ])
      (refine wpSeq_mov rfl rfl ?_; intro o ho; simp only [List.getElem?_toArray, List.getElem?_cons_zero, List.getElem?_cons_succ, Option.some.injEq] at ho; subst ho; refine ⟨undef, Or.inr ⟨by rfl, rfl⟩, ?_⟩; try simp only [Act.put, List.setIfInBounds_toArray, List.set_cons_zero, List.set_cons_succ])
      (refine wpSeq_mov rfl rfl ?_; intro o ho; simp only [List.getElem?_toArray, List.getElem?_cons_zero, List.getElem?_cons_succ, Option.some.injEq] at ho; subst ho; refine ⟨undef, Or.inr ⟨by rfl, rfl⟩, ?_⟩; try simp only [Act.put, List.setIfInBounds_toArray, List.set_cons_zero, List.set_cons_succ])
      (refine wpSeq_mov rfl rfl ?_; intro o ho; simp only [List.getElem?_toArray, List.getElem?_cons_zero, List.getElem?_cons_succ, Option.some.injEq] at ho; subst ho; refine ⟨?_, Or.inl ⟨by rfl, fun W hSW => ?_⟩, ?_⟩; rotate_left; (focus (go_simp; first | done | with_reducible rfl)); try simp only [Act.put, List.setIfInBounds_toArray, List.set_cons_zero, List.set_cons_succ])
      (refine wpSeq_mov rfl rfl ?_; intro o ho; simp only [List.getElem?_toArray, List.getElem?_cons_zero, List.getElem?_cons_succ, Option.some.injEq] at ho; subst ho; refine ⟨?_, Or.inl ⟨by rfl, fun W hSW => ?_⟩, ?_⟩; rotate_left; (focus (go_simp; first | done | with_reducible rfl)); try simp only [Act.put, List.setIfInBounds_toArray, List.set_cons_zero, List.set_cons_succ])
      (refine wpSeq_mov rfl rfl ?_; intro o ho; simp only [List.getElem?_toArray, List.getElem?_cons_zero, List.getElem?_cons_succ, Option.some.injEq] at ho; subst ho; refine ⟨undef, Or.inr ⟨by rfl, rfl⟩, ?_⟩; try simp only [Act.put, List.setIfInBounds_toArray, List.set_cons_zero, List.set_cons_succ])
      (refine wpSeq_mov rfl rfl ?_; intro o ho; simp only [List.getElem?_toArray, List.getElem?_cons_zero, List.getElem?_cons_succ, Option.some.injEq] at ho; subst ho; refine ⟨undef, Or.inr ⟨by rfl, rfl⟩, ?_⟩; try simp only [Act.put, List.setIfInBounds_toArray, List.set_cons_zero, List.set_cons_succ])
      (refine wpSeq_mov rfl rfl ?_; intro o ho; simp only [List.getElem?_toArray, List.getElem?_cons_zero, List.getElem?_cons_succ, Option.some.injEq] at ho; subst ho; refine ⟨undef, Or.inr ⟨by rfl, rfl⟩, ?_⟩; try simp only [Act.put, List.setIfInBounds_toArray, List.set_cons_zero, List.set_cons_succ])
      (refine wpSeq_mov rfl rfl ?_; intro o ho; simp only [List.getElem?_toArray, List.getElem?_cons_zero, List.getElem?_cons_succ, Option.some.injEq] at ho; subst ho; refine ⟨undef, Or.inr ⟨by rfl, rfl⟩, ?_⟩; try simp only [Act.put, List.setIfInBounds_toArray, List.set_cons_zero, List.set_cons_succ])
      (refine wpSeq_mov rfl rfl ?_; intro o ho; simp only [List.getElem?_toArray, List.getElem?_cons_zero, List.getElem?_cons_succ, Option.some.injEq] at ho; subst ho; refine ⟨undef, Or.inr ⟨by rfl, rfl⟩, ?_⟩; try simp only [Act.put, List.setIfInBounds_toArray, List.set_cons_zero, List.set_cons_succ])
      (refine wpSeq_mov rfl rfl ?_; intro o ho; simp only [List.getElem?_toArray, List.getElem?_cons_zero, List.getElem?_cons_succ, Option.some.injEq] at ho; subst ho; refine ⟨undef, Or.inr ⟨by rfl, rfl⟩, ?_⟩; try simp only [Act.put, List.setIfInBounds_toArray, List.set_cons_zero, List.set_cons_succ])
      (refine wpSeq_fix rfl rfl ?_; intro o ho; simp only [List.getElem?_toArray, List.getElem?_cons_zero, List.getElem?_cons_succ, Option.some.injEq] at ho; subst ho; intro K hK)
      go_simp
      (refine hK.out _ _ (fun _ => hSS) ?_; clear hK K; try simp only [Act.put, List.setIfInBounds_toArray, List.set_cons_zero, List.set_cons_succ])
      (refine wpSeq_mov rfl rfl ?_; intro o ho; simp only [List.getElem?_toArray, List.getElem?_cons_zero, List.getElem?_cons_succ, Option.some.injEq] at ho; subst ho; refine ⟨undef, Or.inr ⟨by rfl, rfl⟩, ?_⟩; try simp only [Act.put, List.setIfInBounds_toArray, List.set_cons_zero, List.set_cons_succ])
      (refine wpSeq_mov rfl rfl ?_; intro o ho; simp only [List.getElem?_toArray, List.getElem?_cons_zero, List.getElem?_cons_succ, Option.some.injEq] at ho; subst ho; refine ⟨undef, Or.inr ⟨by rfl, rfl⟩, ?_⟩; try simp only [Act.put, List.setIfInBounds_toArray, List.set_cons_zero, List.set_cons_succ])
      (refine wpSeq_mov rfl rfl ?_; intro o ho; simp only [List.getElem?_toArray, List.getElem?_cons_zero, List.getElem?_cons_succ, Option.some.injEq] at ho; subst ho; refine ⟨?_, Or.inl ⟨by rfl, fun W hSW => ?_⟩, ?_⟩; rotate_left; (focus (go_simp; first | done | with_reducible rfl)); try simp only [Act.put, List.setIfInBounds_toArray, List.set_cons_zero, List.set_cons_succ])
      refine wpSeq_done ?_
      go_wp2_with fail
      go_ret2
      refine ⟨?_, HB1.out.drew⟩
      rw [HE.out]
      rfl
    · by_cases hk : nk f.kind = (f.kids.length : Int)
      · have hk' : (nk f.kind != (f.kids.length : Int)) = false := by rw [hk]; simp
        have HK := Lib.hid hk
        clear hk
        by_cases hL : f.lit = 0
        · have hL' : (f.lit != 0) = false := by rw [hL]; rfl
          have HL := Lib.hid hL
          clear hL
          by_cases h3 : f.kind = 3
          · have h3' : (f.kind == 3) = true := by simpa using h3
            have H3 := Lib.hid h3
            clear h3
            by_cases hn0 : f.name = []
            · have hem : NM.toList.isEmpty = true := by rw [HEM.out, decide_eq_true hn0]
              have HE : Hid (rr f d = false) := Lib.hid (by unfold rr; rw [HWF.out, if_pos H3.out, hn0, show wordB [] = false from rfl]; simp)
              clear hn0
              go_enter Tryd.func58, Tryd.ntmps58
              go_wp2_with fail
              refine wp_region_noPanic ?_
              refine wp_region_seq (fun W => (W.cell? ⟨w.heap.size, 0, none⟩ = some (.int .i64 f.kind) ∧ W.cell? ⟨w.heap.size, 1, none⟩ = some (.string NM)) ∧ (W.cell? ⟨w.heap.size, 2, none⟩ = some (.int .i64 f.lit) ∧ W.cell? ⟨w.heap.size, 3, none⟩ = some (.slice A f.kids.length c))) [0, 1, 2, 3, 4, 6, 7, 8, 5, 9, 10, 11, 12, 13, 14, 15, 16, 17, 18, 19, 20, 21, 22, 23, 24, 25, 26, 27, 28, 29, 30, 31, 32, 33, 34, 35] [0, 1, 2, 3, 4, 6, 7, 8, 9, 10, 11, 12, 13, 14, 15, 16, 17, 18, 19, 20, 21, 22, 23, 24, 25, 26, 27, 28, 29, 30, 31, 33, 34, 35] [] (by kernel_rfl) (by kernel_rfl) rfl (by kernel_rfl) (by kernel_rfl) (fun _ _ _ _ _ h => h) ?_ (fun hSS => ?_)
              · exact ⟨⟨e0, e1⟩, ⟨e2, e3⟩⟩
              (refine wpSeq_mov rfl rfl ?_; intro o ho; simp only [List.getElem?_toArray, List.getElem?_cons_zero, List.getElem?_cons_succ, Option.some.injEq] at ho; subst ho; refine ⟨?_, Or.inl ⟨by rfl, fun W hSW => ?_⟩, ?_⟩; rotate_left; (focus (go_simp; first | done | with_reducible rfl)); try simp only [Act.put, List.setIfInBounds_toArray, List.set_cons_zero, List.set_cons_succ])
              (refine wpSeq_mov rfl rfl ?_; intro o ho; simp only [List.getElem?_toArray, List.getElem?_cons_zero, List.getElem?_cons_succ, Option.some.injEq] at ho; subst ho; refine ⟨?_, Or.inl ⟨by rfl, fun W hSW => ?_⟩, ?_⟩; rotate_left; (focus (go_simp; first | done | with_reducible rfl)); try simp only [Act.put, List.setIfInBounds_toArray, List.set_cons_zero, List.set_cons_succ])
              rw [decide_eq_false (show ¬ d < 1 by omega)]
              (refine wpSeq_mov rfl rfl ?_; intro o ho; simp only [List.getElem?_toArray, List.getElem?_cons_zero, List.getElem?_cons_succ, Option.some.injEq] at ho; subst ho; refine ⟨?_, Or.inl ⟨by rfl, fun W hSW => ?_⟩, ?_⟩; rotate_left; (focus (go_simp; first | done | with_reducible rfl)); try simp only [Act.put, List.setIfInBounds_toArray, List.set_cons_zero, List.set_cons_succ])
              (refine wpSeq_mov rfl rfl ?_; intro o ho; simp only [List.getElem?_toArray, List.getElem?_cons_zero, List.getElem?_cons_succ, Option.some.injEq] at ho; subst ho; refine ⟨?_, Or.inl ⟨by rfl, fun W hSW => ?_⟩, ?_⟩; rotate_left; (focus (go_simp; first | done | with_reducible rfl)); try simp only [Act.put, List.setIfInBounds_toArray, List.set_cons_zero, List.set_cons_succ])
              (refine wpSeq_mov rfl rfl ?_; intro o ho; simp only [List.getElem?_toArray, List.getElem?_cons_zero, List.getElem?_cons_succ, Option.some.injEq] at ho; subst ho; refine ⟨?_, Or.inl ⟨by rfl, fun W hSW => ?_⟩, ?_⟩; rotate_left; (focus (go_simp; first | done | with_reducible rfl)); try simp only [Act.put, List.setIfInBounds_toArray, List.set_cons_zero, List.set_cons_succ])
              (refine wpSeq_mov rfl rfl ?_; intro o ho; simp only [List.getElem?_toArray, List.getElem?_cons_zero, List.getElem?_cons_succ, Option.some.injEq] at ho; subst ho; refine ⟨?_, Or.inl ⟨by rfl, fun W hSW => ?_⟩, ?_⟩; rotate_left; (focus (go_simp; first | done | with_reducible rfl)); try simp only [Act.put, List.setIfInBounds_toArray, List.set_cons_zero, List.set_cons_succ])
              (refine wpSeq_mov rfl rfl ?_; intro o ho; simp only [List.getElem?_toArray, List.getElem?_cons_zero, List.getElem?_cons_succ, Option.some.injEq] at ho; subst ho; refine ⟨?_, Or.inl ⟨by rfl, fun W hSW => ?_⟩, ?_⟩; rotate_left; (focus (go_simp; first | done | with_reducible rfl)); try simp only [Act.put, List.setIfInBounds_toArray, List.set_cons_zero, List.set_cons_succ])
              (refine wpSeq_mov rfl rfl ?_; intro o ho; simp only [List.getElem?_toArray, List.getElem?_cons_zero, List.getElem?_cons_succ, Option.some.injEq] at ho; subst ho; refine ⟨?_, Or.inl ⟨by rfl, fun W hSW => ?_⟩, ?_⟩; rotate_left; (focus (go_simp; first | done | with_reducible rfl)); try simp only [Act.put, List.setIfInBounds_toArray, List.set_cons_zero, List.set_cons_succ])
              (refine wpSeq_fix rfl rfl ?_; intro o ho; simp only [List.getElem?_toArray, List.getElem?_cons_zero, List.getElem?_cons_succ, Option.some.injEq] at ho; subst ho; intro K hK)
              go_simp
              refine (rkids_any _ _).mono ?_
              rintro e w' ⟨rfl, hw'⟩
              have hw2 := hw'.symm
              subst hw2
              (refine hK.out _ _ (fun _ => hSS) ?_; clear hK K; try simp only [Act.put, List.setIfInBounds_toArray, List.set_cons_zero, List.set_cons_succ])
              (refine wpSeq_mov rfl rfl ?_; intro o ho; simp only [List.getElem?_toArray, List.getElem?_cons_zero, List.getElem?_cons_succ, Option.some.injEq] at ho; subst ho; refine ⟨?_, Or.inl ⟨by rfl, fun W hSW => ?_⟩, ?_⟩; rotate_left; (focus (go_simp; first | done | with_reducible rfl)); try simp only [Act.put, List.setIfInBounds_toArray, List.set_cons_zero, List.set_cons_succ])
              (refine wpSeq_mov rfl rfl ?_; intro o ho; simp only [List.getElem?_toArray, List.getElem?_cons_zero, List.getElem?_cons_succ, Option.some.injEq] at ho; subst ho; refine ⟨?_, Or.inl ⟨by rfl, fun W hSW => ?_⟩, ?_⟩; rotate_left; (focus (go_simp; first | done | with_reducible rfl)); try simp only [Act.put, List.setIfInBounds_toArray, List.set_cons_zero, List.set_cons_succ])
              (refine wpSeq_mov rfl rfl ?_; intro o ho; simp only [List.getElem?_toArray, List.getElem?_cons_zero, List.getElem?_cons_succ, Option.some.injEq] at ho; subst ho; refine ⟨?_, Or.inl ⟨by rfl, fun W hSW => ?_⟩, ?_⟩; rotate_left; (focus (go_simp; first | done | with_reducible rfl)); try simp only [Act.put, List.setIfInBounds_toArray, List.set_cons_zero, List.set_cons_succ])
              (refine wpSeq_mov rfl rfl ?_; intro o ho; simp only [List.getElem?_toArray, List.getElem?_cons_zero, List.getElem?_cons_succ, Option.some.injEq] at ho; subst ho; refine ⟨?_, Or.inl ⟨by rfl, fun W hSW => ?_⟩, ?_⟩; rotate_left; (focus (go_simp; first | done | with_reducible rfl)); try simp only [Act.put, List.setIfInBounds_toArray, List.set_cons_zero, List.set_cons_succ])
              (refine wpSeq_mov rfl rfl ?_; intro o ho; simp only [List.getElem?_toArray, List.getElem?_cons_zero, List.getElem?_cons_succ, Option.some.injEq] at ho; subst ho; refine ⟨?_, Or.inl ⟨by rfl, fun W hSW => ?_⟩, ?_⟩; rotate_left; (focus (go_simp; first | done | with_reducible rfl)); try simp only [Act.put, List.setIfInBounds_toArray, List.set_cons_zero, List.set_cons_succ])
              (refine wpSeq_mov rfl rfl ?_; intro o ho; simp only [List.getElem?_toArray, List.getElem?_cons_zero, List.getElem?_cons_succ, Option.some.injEq] at ho; subst ho; refine ⟨?_, Or.inl ⟨by rfl, fun W hSW => ?_⟩, ?_⟩; rotate_left; (focus (go_simp; first | done | with_reducible rfl)); try simp only [Act.put, List.setIfInBounds_toArray, List.set_cons_zero, List.set_cons_succ])
              (refine wpSeq_mov rfl rfl ?_; intro o ho; simp only [List.getElem?_toArray, List.getElem?_cons_zero, List.getElem?_cons_succ, Option.some.injEq] at ho; subst ho; refine ⟨?_, Or.inl ⟨by rfl, fun W hSW => ?_⟩, ?_⟩; rotate_left; (focus (go_simp; first | done | with_reducible rfl)); try simp only [Act.put, List.setIfInBounds_toArray, List.set_cons_zero, List.set_cons_succ])
              (refine wpSeq_mov rfl rfl ?_; intro o ho; simp only [List.getElem?_toArray, List.getElem?_cons_zero, List.getElem?_cons_succ, Option.some.injEq] at ho; subst ho; refine ⟨?_, Or.inl ⟨by rfl, fun W hSW => ?_⟩, ?_⟩; rotate_left; (focus (go_simp; first | done | with_reducible rfl)); try simp only [Act.put, List.setIfInBounds_toArray, List.set_cons_zero, List.set_cons_succ])
              (refine wpSeq_mov rfl rfl ?_; intro o ho; simp only [List.getElem?_toArray, List.getElem?_cons_zero, List.getElem?_cons_succ, Option.some.injEq] at ho; subst ho; refine ⟨?_, Or.inl ⟨by rfl, fun W hSW => ?_⟩, ?_⟩; rotate_left; (focus (go_simp; first | done | with_reducible rfl)); try simp only [Act.put, List.setIfInBounds_toArray, List.set_cons_zero, List.set_cons_succ])
              (refine wpSeq_mov rfl rfl ?_; intro o ho; simp only [List.getElem?_toArray, List.getElem?_cons_zero, List.getElem?_cons_succ, Option.some.injEq] at ho; subst ho; refine ⟨?_, Or.inl ⟨by rfl, fun W hSW => ?_⟩, ?_⟩; rotate_left; (focus (go_simp; first | done | with_reducible rfl)); try simp only [Act.put, List.setIfInBounds_toArray, List.set_cons_zero, List.set_cons_succ])
              (refine wpSeq_mov rfl rfl ?_; intro o ho; simp only [List.getElem?_toArray, List.getElem?_cons_zero, List.getElem?_cons_succ, Option.some.injEq] at ho; subst ho; refine ⟨?_, Or.inl ⟨by rfl, fun W hSW => ?_⟩, ?_⟩; rotate_left; (focus (go_simp; first | done | with_reducible rfl)); try simp only [Act.put, List.setIfInBounds_toArray, List.set_cons_zero, List.set_cons_succ])
              (refine wpSeq_mov rfl rfl ?_; intro o ho; simp only [List.getElem?_toArray, List.getElem?_cons_zero, List.getElem?_cons_succ, Option.some.injEq] at ho; subst ho; refine ⟨?_, Or.inl ⟨by rfl, fun W hSW => ?_⟩, ?_⟩; rotate_left; (focus (go_simp; first | done | with_reducible rfl)); try simp only [Act.put, List.setIfInBounds_toArray, List.set_cons_zero, List.set_cons_succ])
              (refine wpSeq_mov rfl rfl ?_; intro o ho; simp only [List.getElem?_toArray, List.getElem?_cons_zero, List.getElem?_cons_succ, Option.some.injEq] at ho; subst ho; refine ⟨?_, Or.inl ⟨by rfl, fun W hSW => ?_⟩, ?_⟩; rotate_left; (focus (go_simp; first | done | with_reducible rfl)); try simp only [Act.put, List.setIfInBounds_toArray, List.set_cons_zero, List.set_cons_succ])
              (refine wpSeq_mov rfl rfl ?_; intro o ho; simp only [List.getElem?_toArray, List.getElem?_cons_zero, List.getElem?_cons_succ, Option.some.injEq] at ho; subst ho; refine ⟨?_, Or.inl ⟨by rfl, fun W hSW => ?_⟩, ?_⟩; rotate_left; (focus (go_simp; first | done | with_reducible rfl)); try simp only [Act.put, List.setIfInBounds_toArray, List.set_cons_zero, List.set_cons_succ])
              (refine wpSeq_mov rfl rfl ?_; intro o ho; simp only [List.getElem?_toArray, List.getElem?_cons_zero, List.getElem?_cons_succ, Option.some.injEq] at ho; subst ho; refine ⟨?_, Or.inl ⟨by rfl, fun W hSW => ?_⟩, ?_⟩; rotate_left; (focus (go_simp; first | done | with_reducible rfl)); try simp only [Act.put, List.setIfInBounds_toArray, List.set_cons_zero, List.set_cons_succ])
              (refine wpSeq_mov rfl rfl ?_; intro o ho; simp only [List.getElem?_toArray, List.getElem?_cons_zero, List.getElem?_cons_succ, Option.some.injEq] at ho; subst ho; refine ⟨?_, Or.inl ⟨by rfl, fun W hSW => ?_⟩, ?_⟩; rotate_left; (focus (go_simp; first | done | with_reducible rfl)); try simp only [Act.put, List.setIfInBounds_toArray, List.set_cons_zero, List.set_cons_succ])
              (refine wpSeq_mov rfl rfl ?_; intro o ho; simp only [List.getElem?_toArray, List.getElem?_cons_zero, List.getElem?_cons_succ, Option.some.injEq] at ho; subst ho; refine ⟨?_, Or.inl ⟨by rfl, fun W hSW => ?_⟩, ?_⟩; rotate_left; (focus (go_simp; first | done | with_reducible rfl)); try simp only [Act.put, List.setIfInBounds_toArray, List.set_cons_zero, List.set_cons_succ])
              (refine wpSeq_mov rfl rfl ?_; intro o ho; simp only [List.getElem?_toArray, List.getElem?_cons_zero, List.getElem?_cons_succ, Option.some.injEq] at ho; subst ho; refine ⟨undef, Or.inr ⟨by rfl, rfl⟩, ?_⟩; try simp only [Act.put, List.setIfInBounds_toArray, List.set_cons_zero, List.set_cons_succ])
              (refine wpSeq_mov rfl rfl ?_; intro o ho; simp only [List.getElem?_toArray, List.getElem?_cons_zero, List.getElem?_cons_succ, Option.some.injEq] at ho; subst ho; refine ⟨undef, Or.inr ⟨by rfl, rfl⟩, ?_⟩; try simp only [Act.put, List.setIfInBounds_toArray, List.set_cons_zero, List.set_cons_succ])
              (refine wpSeq_mov rfl rfl ?_; intro o ho; simp only [List.getElem?_toArray, List.getElem?_cons_zero, List.getElem?_cons_succ, Option.some.injEq] at ho; subst ho; refine ⟨undef, Or.inr ⟨by rfl, rfl⟩, ?_⟩; try simp only [Act.put, List.setIfInBounds_toArray, List.set_cons_zero, List.set_cons_succ])
              (refine wpSeq_mov rfl rfl ?_; intro o ho; simp only [List.getElem?_toArray, List.getElem?_cons_zero, List.getElem?_cons_succ, Option.some.injEq] at ho; subst ho; refine ⟨undef, Or.inr ⟨by rfl, rfl⟩, ?_⟩; try simp only [Act.put, List.setIfInBounds_toArray, List.set_cons_zero, List.set_cons_succ])
              (refine wpSeq_mov rfl rfl ?_; intro o ho; simp only [List.getElem?_toArray, List.getElem?_cons_zero, List.getElem?_cons_succ, Option.some.injEq] at ho; subst ho; refine ⟨undef, Or.inr ⟨by rfl, rfl⟩, ?_⟩; try simp only [Act.put, List.setIfInBounds_toArray, List.set_cons_zero, List.set_cons_succ])
              (refine wpSeq_mov rfl rfl ?_; intro o ho; simp only [List.getElem?_toArray, List.getElem?_cons_zero, List.getElem?_cons_succ, Option.some.injEq] at ho; subst ho; refine ⟨undef, Or.inr ⟨by rfl, rfl⟩, ?_⟩; try simp only [Act.put, List.setIfInBounds_toArray, List.set_cons_zero, List.set_cons_succ])
              (refine wpSeq_fix rfl rfl ?_; intro o ho; simp only [List.getElem?_toArray, List.getElem?_cons_zero, List.getElem?_cons_succ, Option.some.injEq] at ho; subst ho; intro K hK)
              go_simp
              (refine hK.out _ _ (fun _ => hSS) ?_; clear hK K; try simp only [Act.put, List.setIfInBounds_toArray, List.set_cons_zero, List.set_cons_succ])
              (refine wpSeq_mov rfl rfl ?_; intro o ho; simp only [List.getElem?_toArray, List.getElem?_cons_zero, List.getElem?_cons_succ, Option.some.injEq] at ho; subst ho; refine ⟨undef, Or.inr ⟨by rfl, rfl⟩, ?_⟩; try simp only [Act.put, List.setIfInBounds_toArray, List.set_cons_zero, List.set_cons_succ])
              (refine wpSeq_mov rfl rfl ?_; intro o ho; simp only [List.getElem?_toArray, List.getElem?_cons_zero, List.getElem?_cons_succ, Option.some.injEq] at ho; subst ho; refine ⟨undef, Or.inr ⟨by rfl, rfl⟩, ?_⟩; try simp only [Act.put, List.setIfInBounds_toArray, List.set_cons_zero, List.set_cons_succ])
              (refine wpSeq_mov rfl rfl ?_; intro o ho; simp only [List.getElem?_toArray, List.getElem?_cons_zero, List.getElem?_cons_succ, Option.some.injEq] at ho; subst ho; refine ⟨?_, Or.inl ⟨by rfl, fun W hSW => ?_⟩, ?_⟩; rotate_left; (focus (go_simp; first | done | with_reducible rfl)); try simp only [Act.put, List.setIfInBounds_toArray, List.set_cons_zero, List.set_cons_succ])
              refine wpSeq_done ?_
              go_wp2_with fail
              go_ret2
              refine ⟨?_, HB1.out.drew⟩
              rw [HE.out]
              rfl
            · have hem : NM.toList.isEmpty = false := by rw [HEM.out, decide_eq_false hn0]
              clear hn0
              cases hw : wordB f.name with
              | false =>
                rw [hw] at HWD
                have HE : Hid (rr f d = false) := Lib.hid (by unfold rr; rw [HWF.out, if_pos H3.out, hw]; simp)
                clear hw
                go_enter Tryd.func58, Tryd.ntmps58
                go_wp2_with fail
                refine wp_region_noPanic ?_
                refine wp_region_seq (fun W => (W.cell? ⟨w.heap.size, 0, none⟩ = some (.int .i64 f.kind) ∧ W.cell? ⟨w.heap.size, 1, none⟩ = some (.string NM)) ∧ (W.cell? ⟨w.heap.size, 2, none⟩ = some (.int .i64 f.lit) ∧ W.cell? ⟨w.heap.size, 3, none⟩ = some (.slice A f.kids.length c))) [0, 1, 2, 3, 4, 6, 7, 8, 5, 9, 10, 11, 12, 13, 14, 15, 16, 17, 18, 19, 20, 21, 22, 23, 24, 25, 26, 27, 28, 29, 30, 31, 32, 33, 34, 35] [0, 1, 2, 3, 4, 6, 7, 8, 9, 10, 11, 12, 13, 14, 15, 16, 17, 18, 19, 20, 21, 22, 23, 24, 25, 26, 27, 28, 29, 30, 31, 33, 34, 35] [] (by kernel_rfl) (by kernel_rfl) rfl (by kernel_rfl) (by kernel_rfl) (fun _ _ _ _ _ h => h) ?_ (fun hSS => ?_)
                · exact ⟨⟨e0, e1⟩, ⟨e2, e3⟩⟩
                (refine wpSeq_mov rfl rfl ?_; intro o ho; simp only [List.getElem?_toArray, List.getElem?_cons_zero, List.getElem?_cons_succ, Option.some.injEq] at ho; subst ho; refine ⟨?_, Or.inl ⟨by rfl, fun W hSW => ?_⟩, ?_⟩; rotate_left; (focus (go_simp; first | done | with_reducible rfl)); try simp only [Act.put, List.setIfInBounds_toArray, List.set_cons_zero, List.set_cons_succ])
                (refine wpSeq_mov rfl rfl ?_; intro o ho; simp only [List.getElem?_toArray, List.getElem?_cons_zero, List.getElem?_cons_succ, Option.some.injEq] at ho; subst ho; refine ⟨?_, Or.inl ⟨by rfl, fun W hSW => ?_⟩, ?_⟩; rotate_left; (focus (go_simp; first | done | with_reducible rfl)); try simp only [Act.put, List.setIfInBounds_toArray, List.set_cons_zero, List.set_cons_succ])
                rw [decide_eq_false (show ¬ d < 1 by omega)]
                (refine wpSeq_mov rfl rfl ?_; intro o ho; simp only [List.getElem?_toArray, List.getElem?_cons_zero, List.getElem?_cons_succ, Option.some.injEq] at ho; subst ho; refine ⟨?_, Or.inl ⟨by rfl, fun W hSW => ?_⟩, ?_⟩; rotate_left; (focus (go_simp; first | done | with_reducible rfl)); try simp only [Act.put, List.setIfInBounds_toArray, List.set_cons_zero, List.set_cons_succ])
                (refine wpSeq_mov rfl rfl ?_; intro o ho; simp only [List.getElem?_toArray, List.getElem?_cons_zero, List.getElem?_cons_succ, Option.some.injEq] at ho; subst ho; refine ⟨?_, Or.inl ⟨by rfl, fun W hSW => ?_⟩, ?_⟩; rotate_left; (focus (go_simp; first | done | with_reducible rfl)); try simp only [Act.put, List.setIfInBounds_toArray, List.set_cons_zero, List.set_cons_succ])
                (refine wpSeq_mov rfl rfl ?_; intro o ho; simp only [List.getElem?_toArray, List.getElem?_cons_zero, List.getElem?_cons_succ, Option.some.injEq] at ho; subst ho; refine ⟨?_, Or.inl ⟨by rfl, fun W hSW => ?_⟩, ?_⟩; rotate_left; (focus (go_simp; first | done | with_reducible rfl)); try simp only [Act.put, List.setIfInBounds_toArray, List.set_cons_zero, List.set_cons_succ])
                (refine wpSeq_mov rfl rfl ?_; intro o ho; simp only [List.getElem?_toArray, List.getElem?_cons_zero, List.getElem?_cons_succ, Option.some.injEq] at ho; subst ho; refine ⟨?_, Or.inl ⟨by rfl, fun W hSW => ?_⟩, ?_⟩; rotate_left; (focus (go_simp; first | done | with_reducible rfl)); try simp only [Act.put, List.setIfInBounds_toArray, List.set_cons_zero, List.set_cons_succ])
                (refine wpSeq_mov rfl rfl ?_; intro o ho; simp only [List.getElem?_toArray, List.getElem?_cons_zero, List.getElem?_cons_succ, Option.some.injEq] at ho; subst ho; refine ⟨?_, Or.inl ⟨by rfl, fun W hSW => ?_⟩, ?_⟩; rotate_left; (focus (go_simp; first | done | with_reducible rfl)); try simp only [Act.put, List.setIfInBounds_toArray, List.set_cons_zero, List.set_cons_succ])
                (refine wpSeq_mov rfl rfl ?_; intro o ho; simp only [List.getElem?_toArray, List.getElem?_cons_zero, List.getElem?_cons_succ, Option.some.injEq] at ho; subst ho; refine ⟨?_, Or.inl ⟨by rfl, fun W hSW => ?_⟩, ?_⟩; rotate_left; (focus (go_simp; first | done | with_reducible rfl)); try simp only [Act.put, List.setIfInBounds_toArray, List.set_cons_zero, List.set_cons_succ])
                (refine wpSeq_fix rfl rfl ?_; intro o ho; simp only [List.getElem?_toArray, List.getElem?_cons_zero, List.getElem?_cons_succ, Option.some.injEq] at ho; subst ho; intro K hK)
                go_simp
                refine (rkids_any _ _).mono ?_
                rintro e w' ⟨rfl, hw'⟩
                have hw2 := hw'.symm
                subst hw2
                (refine hK.out _ _ (fun _ => hSS) ?_; clear hK K; try simp only [Act.put, List.setIfInBounds_toArray, List.set_cons_zero, List.set_cons_succ])
                (refine wpSeq_mov rfl rfl ?_; intro o ho; simp only [List.getElem?_toArray, List.getElem?_cons_zero, List.getElem?_cons_succ, Option.some.injEq] at ho; subst ho; refine ⟨?_, Or.inl ⟨by rfl, fun W hSW => ?_⟩, ?_⟩; rotate_left; (focus (go_simp; first | done | with_reducible rfl)); try simp only [Act.put, List.setIfInBounds_toArray, List.set_cons_zero, List.set_cons_succ])
                (refine wpSeq_mov rfl rfl ?_; intro o ho; simp only [List.getElem?_toArray, List.getElem?_cons_zero, List.getElem?_cons_succ, Option.some.injEq] at ho; subst ho; refine ⟨?_, Or.inl ⟨by rfl, fun W hSW => ?_⟩, ?_⟩; rotate_left; (focus (go_simp; first | done | with_reducible rfl)); try simp only [Act.put, List.setIfInBounds_toArray, List.set_cons_zero, List.set_cons_succ])
                (refine wpSeq_mov rfl rfl ?_; intro o ho; simp only [List.getElem?_toArray, List.getElem?_cons_zero, List.getElem?_cons_succ, Option.some.injEq] at ho; subst ho; refine ⟨?_, Or.inl ⟨by rfl, fun W hSW => ?_⟩, ?_⟩; rotate_left; (focus (go_simp; first | done | with_reducible rfl)); try simp only [Act.put, List.setIfInBounds_toArray, List.set_cons_zero, List.set_cons_succ])
                (refine wpSeq_mov rfl rfl ?_; intro o ho; simp only [List.getElem?_toArray, List.getElem?_cons_zero, List.getElem?_cons_succ, Option.some.injEq] at ho; subst ho; refine ⟨?_, Or.inl ⟨by rfl, fun W hSW => ?_⟩, ?_⟩; rotate_left; (focus (go_simp; first | done | with_reducible rfl)); try simp only [Act.put, List.setIfInBounds_toArray, List.set_cons_zero, List.set_cons_succ])
                (refine wpSeq_mov rfl rfl ?_; intro o ho; simp only [List.getElem?_toArray, List.getElem?_cons_zero, List.getElem?_cons_succ, Option.some.injEq] at ho; subst ho; refine ⟨?_, Or.inl ⟨by rfl, fun W hSW => ?_⟩, ?_⟩; rotate_left; (focus (go_simp; first | done | with_reducible rfl)); try simp only [Act.put, List.setIfInBounds_toArray, List.set_cons_zero, List.set_cons_succ])
                (refine wpSeq_mov rfl rfl ?_; intro o ho; simp only [List.getElem?_toArray, List.getElem?_cons_zero, List.getElem?_cons_succ, Option.some.injEq] at ho; subst ho; refine ⟨?_, Or.inl ⟨by rfl, fun W hSW => ?_⟩, ?_⟩; rotate_left; (focus (go_simp; first | done | with_reducible rfl)); try simp only [Act.put, List.setIfInBounds_toArray, List.set_cons_zero, List.set_cons_succ])
                (refine wpSeq_mov rfl rfl ?_; intro o ho; simp only [List.getElem?_toArray, List.getElem?_cons_zero, List.getElem?_cons_succ, Option.some.injEq] at ho; subst ho; refine ⟨?_, Or.inl ⟨by rfl, fun W hSW => ?_⟩, ?_⟩; rotate_left; (focus (go_simp; first | done | with_reducible rfl)); try simp only [Act.put, List.setIfInBounds_toArray, List.set_cons_zero, List.set_cons_succ])
                (refine wpSeq_mov rfl rfl ?_; intro o ho; simp only [List.getElem?_toArray, List.getElem?_cons_zero, List.getElem?_cons_succ, Option.some.injEq] at ho; subst ho; refine ⟨?_, Or.inl ⟨by rfl, fun W hSW => ?_⟩, ?_⟩; rotate_left; (focus (go_simp; first | done | with_reducible rfl)); try simp only [Act.put, List.setIfInBounds_toArray, List.set_cons_zero, List.set_cons_succ])
                (refine wpSeq_mov rfl rfl ?_; intro o ho; simp only [List.getElem?_toArray, List.getElem?_cons_zero, List.getElem?_cons_succ, Option.some.injEq] at ho; subst ho; refine ⟨?_, Or.inl ⟨by rfl, fun W hSW => ?_⟩, ?_⟩; rotate_left; (focus (go_simp; first | done | with_reducible rfl)); try simp only [Act.put, List.setIfInBounds_toArray, List.set_cons_zero, List.set_cons_succ])
                (refine wpSeq_mov rfl rfl ?_; intro o ho; simp only [List.getElem?_toArray, List.getElem?_cons_zero, List.getElem?_cons_succ, Option.some.injEq] at ho; subst ho; refine ⟨?_, Or.inl ⟨by rfl, fun W hSW => ?_⟩, ?_⟩; rotate_left; (focus (go_simp; first | done | with_reducible rfl)); try simp only [Act.put, List.setIfInBounds_toArray, List.set_cons_zero, List.set_cons_succ])
                (refine wpSeq_mov rfl rfl ?_; intro o ho; simp only [List.getElem?_toArray, List.getElem?_cons_zero, List.getElem?_cons_succ, Option.some.injEq] at ho; subst ho; refine ⟨?_, Or.inl ⟨by rfl, fun W hSW => ?_⟩, ?_⟩; rotate_left; (focus (go_simp; first | done | with_reducible rfl)); try simp only [Act.put, List.setIfInBounds_toArray, List.set_cons_zero, List.set_cons_succ])
                (refine wpSeq_mov rfl rfl ?_; intro o ho; simp only [List.getElem?_toArray, List.getElem?_cons_zero, List.getElem?_cons_succ, Option.some.injEq] at ho; subst ho; refine ⟨?_, Or.inl ⟨by rfl, fun W hSW => ?_⟩, ?_⟩; rotate_left; (focus (go_simp; first | done | with_reducible rfl)); try simp only [Act.put, List.setIfInBounds_toArray, List.set_cons_zero, List.set_cons_succ])
                (refine wpSeq_mov rfl rfl ?_; intro o ho; simp only [List.getElem?_toArray, List.getElem?_cons_zero, List.getElem?_cons_succ, Option.some.injEq] at ho; subst ho; refine ⟨?_, Or.inl ⟨by rfl, fun W hSW => ?_⟩, ?_⟩; rotate_left; (focus (go_simp; first | done | with_reducible rfl)); try simp only [Act.put, List.setIfInBounds_toArray, List.set_cons_zero, List.set_cons_succ])
                (refine wpSeq_mov rfl rfl ?_; intro o ho; simp only [List.getElem?_toArray, List.getElem?_cons_zero, List.getElem?_cons_succ, Option.some.injEq] at ho; subst ho; refine ⟨?_, Or.inl ⟨by rfl, fun W hSW => ?_⟩, ?_⟩; rotate_left; (focus (go_simp; first | done | with_reducible rfl)); try simp only [Act.put, List.setIfInBounds_toArray, List.set_cons_zero, List.set_cons_succ])
                (refine wpSeq_mov rfl rfl ?_; intro o ho; simp only [List.getElem?_toArray, List.getElem?_cons_zero, List.getElem?_cons_succ, Option.some.injEq] at ho; subst ho; refine ⟨?_, Or.inl ⟨by rfl, fun W hSW => ?_⟩, ?_⟩; rotate_left; (focus (go_simp; first | done | with_reducible rfl)); try simp only [Act.put, List.setIfInBounds_toArray, List.set_cons_zero, List.set_cons_succ])
                (refine wpSeq_mov rfl rfl ?_; intro o ho; simp only [List.getElem?_toArray, List.getElem?_cons_zero, List.getElem?_cons_succ, Option.some.injEq] at ho; subst ho; refine ⟨?_, Or.inl ⟨by rfl, fun W hSW => ?_⟩, ?_⟩; rotate_left; (focus (go_simp; first | done | with_reducible rfl)); try simp only [Act.put, List.setIfInBounds_toArray, List.set_cons_zero, List.set_cons_succ])
                (refine wpSeq_mov rfl rfl ?_; intro o ho; simp only [List.getElem?_toArray, List.getElem?_cons_zero, List.getElem?_cons_succ, Option.some.injEq] at ho; subst ho; refine ⟨?_, Or.inl ⟨by rfl, fun W hSW => ?_⟩, ?_⟩; rotate_left; (focus (go_simp; first | done | with_reducible rfl)); try simp only [Act.put, List.setIfInBounds_toArray, List.set_cons_zero, List.set_cons_succ])
                (refine wpSeq_mov rfl rfl ?_; intro o ho; simp only [List.getElem?_toArray, List.getElem?_cons_zero, List.getElem?_cons_succ, Option.some.injEq] at ho; subst ho; refine ⟨?_, Or.inl ⟨by rfl, fun W hSW => ?_⟩, ?_⟩; rotate_left; (focus (go_simp; first | done | with_reducible rfl)); try simp only [Act.put, List.setIfInBounds_toArray, List.set_cons_zero, List.set_cons_succ])
                (refine wpSeq_mov rfl rfl ?_; intro o ho; simp only [List.getElem?_toArray, List.getElem?_cons_zero, List.getElem?_cons_succ, Option.some.injEq] at ho; subst ho; refine ⟨?_, Or.inl ⟨by rfl, fun W hSW => ?_⟩, ?_⟩; rotate_left; (focus (go_simp; first | done | with_reducible rfl)); try simp only [Act.put, List.setIfInBounds_toArray, List.set_cons_zero, List.set_cons_succ])
                (refine wpSeq_mov rfl rfl ?_; intro o ho; simp only [List.getElem?_toArray, List.getElem?_cons_zero, List.getElem?_cons_succ, Option.some.injEq] at ho; subst ho; refine ⟨?_, Or.inl ⟨by rfl, fun W hSW => ?_⟩, ?_⟩; rotate_left; (focus (go_simp; first | done | with_reducible rfl)); try simp only [Act.put, List.setIfInBounds_toArray, List.set_cons_zero, List.set_cons_succ])
                (refine wpSeq_mov rfl rfl ?_; intro o ho; simp only [List.getElem?_toArray, List.getElem?_cons_zero, List.getElem?_cons_succ, Option.some.injEq] at ho; subst ho; refine ⟨?_, Or.inl ⟨by rfl, fun W hSW => ?_⟩, ?_⟩; rotate_left; (focus (go_simp; first | done | with_reducible rfl)); try simp only [Act.put, List.setIfInBounds_toArray, List.set_cons_zero, List.set_cons_succ])
                (refine wpSeq_mov rfl rfl ?_; intro o ho; simp only [List.getElem?_toArray, List.getElem?_cons_zero, List.getElem?_cons_succ, Option.some.injEq] at ho; subst ho; refine ⟨?_, Or.inl ⟨by rfl, fun W hSW => ?_⟩, ?_⟩; rotate_left; (focus (go_simp; first | done | with_reducible rfl)); try simp only [Act.put, List.setIfInBounds_toArray, List.set_cons_zero, List.set_cons_succ])
                (refine wpSeq_mov rfl rfl ?_; intro o ho; simp only [List.getElem?_toArray, List.getElem?_cons_zero, List.getElem?_cons_succ, Option.some.injEq] at ho; subst ho; refine ⟨?_, Or.inl ⟨by rfl, fun W hSW => ?_⟩, ?_⟩; rotate_left; (focus (go_simp; first | done | with_reducible rfl)); try simp only [Act.put, List.setIfInBounds_toArray, List.set_cons_zero, List.set_cons_succ])
                (refine wpSeq_fix rfl rfl ?_; intro o ho; simp only [List.getElem?_toArray, List.getElem?_cons_zero, List.getElem?_cons_succ, Option.some.injEq] at ho; subst ho; intro K hK)
                go_simp
                refine (HWD.out _).mono ?_
                rintro e w' ⟨rfl, hw'⟩
                have hw2 := hw'.symm
                subst hw2
                (refine hK.out _ _ (fun _ => hSS) ?_; clear hK K; try simp only [Act.put, List.setIfInBounds_toArray, List.set_cons_zero, List.set_cons_succ])
                (refine wpSeq_mov rfl rfl ?_; intro o ho; simp only [List.getElem?_toArray, List.getElem?_cons_zero, List.getElem?_cons_succ, Option.some.injEq] at ho; subst ho; refine ⟨?_, Or.inl ⟨by rfl, fun W hSW => ?_⟩, ?_⟩; rotate_left; (focus (go_simp; first | done | with_reducible rfl)); try simp only [Act.put, List.setIfInBounds_toArray, List.set_cons_zero, List.set_cons_succ])
                (refine wpSeq_mov rfl rfl ?_; intro o ho; simp only [List.getElem?_toArray, List.getElem?_cons_zero, List.getElem?_cons_succ, Option.some.injEq] at ho; subst ho; refine ⟨?_, Or.inl ⟨by rfl, fun W hSW => ?_⟩, ?_⟩; rotate_left; (focus (go_simp; first | done | with_reducible rfl)); try simp only [Act.put, List.setIfInBounds_toArray, List.set_cons_zero, List.set_cons_succ])
                (refine wpSeq_mov rfl rfl ?_; intro o ho; simp only [List.getElem?_toArray, List.getElem?_cons_zero, List.getElem?_cons_succ, Option.some.injEq] at ho; subst ho; refine ⟨?_, Or.inl ⟨by rfl, fun W hSW => ?_⟩, ?_⟩; rotate_left; (focus (go_simp; first | done | with_reducible rfl)); try simp only [Act.put, List.setIfInBounds_toArray, List.set_cons_zero, List.set_cons_succ])
                refine wpSeq_done ?_
                go_wp2_with fail
                go_ret2
                refine ⟨?_, HB1.out.drew⟩
                rw [HE.out]
                rfl
              | true =>
                rw [hw] at HWD
                have HR0 : Hid (f.wf d = wfL f.kids (d - 1)) := Lib.hid (by rw [HWF.out, if_pos H3.out, hw, HL.out, decide_eq_true HK.out, decide_eq_true (show 1 ≤ d by omega)]; simp)
                clear hw
                go_enter Tryd.func58, Tryd.ntmps58
                go_wp2_with fail
                refine wp_region_noPanic ?_
                refine wp_region_seq (fun W => (W.cell? ⟨w.heap.size, 0, none⟩ = some (.int .i64 f.kind) ∧ W.cell? ⟨w.heap.size, 1, none⟩ = some (.string NM)) ∧ (W.cell? ⟨w.heap.size, 2, none⟩ = some (.int .i64 f.lit) ∧ W.cell? ⟨w.heap.size, 3, none⟩ = some (.slice A f.kids.length c))) [0, 1, 2, 3, 4, 6, 7, 8, 5, 9, 10, 11, 12, 13, 14, 15, 16, 17, 18, 19, 20, 21, 22, 23, 24, 25, 26, 27, 28, 29, 30, 31, 32, 33, 34, 35] [0, 1, 2, 3, 4, 6, 7, 8, 9, 10, 11, 12, 13, 14, 15, 16, 17, 18, 19, 20, 21, 22, 23, 24, 25, 26, 27, 28, 29, 30, 31, 33, 34, 35] [] (by kernel_rfl) (by kernel_rfl) rfl (by kernel_rfl) (by kernel_rfl) (fun _ _ _ _ _ h => h) ?_ (fun hSS => ?_)
                · exact ⟨⟨e0, e1⟩, ⟨e2, e3⟩⟩
                (refine wpSeq_mov rfl rfl ?_; intro o ho; simp only [List.getElem?_toArray, List.getElem?_cons_zero, List.getElem?_cons_succ, Option.some.injEq] at ho; subst ho; refine ⟨?_, Or.inl ⟨by rfl, fun W hSW => ?_⟩, ?_⟩; rotate_left; (focus (go_simp; first | done | with_reducible rfl)); try simp only [Act.put, List.setIfInBounds_toArray, List.set_cons_zero, List.set_cons_succ])
                (refine wpSeq_mov rfl rfl ?_; intro o ho; simp only [List.getElem?_toArray, List.getElem?_cons_zero, List.getElem?_cons_succ, Option.some.injEq] at ho; subst ho; refine ⟨?_, Or.inl ⟨by rfl, fun W hSW => ?_⟩, ?_⟩; rotate_left; (focus (go_simp; first | done | with_reducible rfl)); try simp only [Act.put, List.setIfInBounds_toArray, List.set_cons_zero, List.set_cons_succ])
                rw [decide_eq_false (show ¬ d < 1 by omega)]
                (refine wpSeq_mov rfl rfl ?_; intro o ho; simp only [List.getElem?_toArray, List.getElem?_cons_zero, List.getElem?_cons_succ, Option.some.injEq] at ho; subst ho; refine ⟨?_, Or.inl ⟨by rfl, fun W hSW => ?_⟩, ?_⟩; rotate_left; (focus (go_simp; first | done | with_reducible rfl)); try simp only [Act.put, List.setIfInBounds_toArray, List.set_cons_zero, List.set_cons_succ])
                (refine wpSeq_mov rfl rfl ?_; intro o ho; simp only [List.getElem?_toArray, List.getElem?_cons_zero, List.getElem?_cons_succ, Option.some.injEq] at ho; subst ho; refine ⟨?_, Or.inl ⟨by rfl, fun W hSW => ?_⟩, ?_⟩; rotate_left; (focus (go_simp; first | done | with_reducible rfl)); try simp only [Act.put, List.setIfInBounds_toArray, List.set_cons_zero, List.set_cons_succ])
                (refine wpSeq_mov rfl rfl ?_; intro o ho; simp only [List.getElem?_toArray, List.getElem?_cons_zero, List.getElem?_cons_succ, Option.some.injEq] at ho; subst ho; refine ⟨?_, Or.inl ⟨by rfl, fun W hSW => ?_⟩, ?_⟩; rotate_left; (focus (go_simp; first | done | with_reducible rfl)); try simp only [Act.put, List.setIfInBounds_toArray, List.set_cons_zero, List.set_cons_succ])
                (refine wpSeq_mov rfl rfl ?_; intro o ho; simp only [List.getElem?_toArray, List.getElem?_cons_zero, List.getElem?_cons_succ, Option.some.injEq] at ho; subst ho; refine ⟨?_, Or.inl ⟨by rfl, fun W hSW => ?_⟩, ?_⟩; rotate_left; (focus (go_simp; first | done | with_reducible rfl)); try simp only [Act.put, List.setIfInBounds_toArray, List.set_cons_zero, List.set_cons_succ])
                (refine wpSeq_mov rfl rfl ?_; intro o ho; simp only [List.getElem?_toArray, List.getElem?_cons_zero, List.getElem?_cons_succ, Option.some.injEq] at ho; subst ho; refine ⟨?_, Or.inl ⟨by rfl, fun W hSW => ?_⟩, ?_⟩; rotate_left; (focus (go_simp; first | done | with_reducible rfl)); try simp only [Act.put, List.setIfInBounds_toArray, List.set_cons_zero, List.set_cons_succ])
                (refine wpSeq_mov rfl rfl ?_; intro o ho; simp only [List.getElem?_toArray, List.getElem?_cons_zero, List.getElem?_cons_succ, Option.some.injEq] at ho; subst ho; refine ⟨?_, Or.inl ⟨by rfl, fun W hSW => ?_⟩, ?_⟩; rotate_left; (focus (go_simp; first | done | with_reducible rfl)); try simp only [Act.put, List.setIfInBounds_toArray, List.set_cons_zero, List.set_cons_succ])
                (refine wpSeq_fix rfl rfl ?_; intro o ho; simp only [List.getElem?_toArray, List.getElem?_cons_zero, List.getElem?_cons_succ, Option.some.injEq] at ho; subst ho; intro K hK)
                go_simp
                refine (rkids_any _ _).mono ?_
                rintro e w' ⟨rfl, hw'⟩
                have hw2 := hw'.symm
                subst hw2
                (refine hK.out _ _ (fun _ => hSS) ?_; clear hK K; try simp only [Act.put, List.setIfInBounds_toArray, List.set_cons_zero, List.set_cons_succ])
                (refine wpSeq_mov rfl rfl ?_; intro o ho; simp only [List.getElem?_toArray, List.getElem?_cons_zero, List.getElem?_cons_succ, Option.some.injEq] at ho; subst ho; refine ⟨?_, Or.inl ⟨by rfl, fun W hSW => ?_⟩, ?_⟩; rotate_left; (focus (go_simp; first | done | with_reducible rfl)); try simp only [Act.put, List.setIfInBounds_toArray, List.set_cons_zero, List.set_cons_succ])
                (refine wpSeq_mov rfl rfl ?_; intro o ho; simp only [List.getElem?_toArray, List.getElem?_cons_zero, List.getElem?_cons_succ, Option.some.injEq] at ho; subst ho; refine ⟨?_, Or.inl ⟨by rfl, fun W hSW => ?_⟩, ?_⟩; rotate_left; (focus (go_simp; first | done | with_reducible rfl)); try simp only [Act.put, List.setIfInBounds_toArray, List.set_cons_zero, List.set_cons_succ])
                (refine wpSeq_mov rfl rfl ?_; intro o ho; simp only [List.getElem?_toArray, List.getElem?_cons_zero, List.getElem?_cons_succ, Option.some.injEq] at ho; subst ho; refine ⟨?_, Or.inl ⟨by rfl, fun W hSW => ?_⟩, ?_⟩; rotate_left; (focus (go_simp; first | done | with_reducible rfl)); try simp only [Act.put, List.setIfInBounds_toArray, List.set_cons_zero, List.set_cons_succ])
                (refine wpSeq_mov rfl rfl ?_; intro o ho; simp only [List.getElem?_toArray, List.getElem?_cons_zero, List.getElem?_cons_succ, Option.some.injEq] at ho; subst ho; refine ⟨?_, Or.inl ⟨by rfl, fun W hSW => ?_⟩, ?_⟩; rotate_left; (focus (go_simp; first | done | with_reducible rfl)); try simp only [Act.put, List.setIfInBounds_toArray, List.set_cons_zero, List.set_cons_succ])
                (refine wpSeq_mov rfl rfl ?_; intro o ho; simp only [List.getElem?_toArray, List.getElem?_cons_zero, List.getElem?_cons_succ, Option.some.injEq] at ho; subst ho; refine ⟨?_, Or.inl ⟨by rfl, fun W hSW => ?_⟩, ?_⟩; rotate_left; (focus (go_simp; first | done | with_reducible rfl)); try simp only [Act.put, List.setIfInBounds_toArray, List.set_cons_zero, List.set_cons_succ])
                (refine wpSeq_mov rfl rfl ?_; intro o ho; simp only [List.getElem?_toArray, List.getElem?_cons_zero, List.getElem?_cons_succ, Option.some.injEq] at ho; subst ho; refine ⟨?_, Or.inl ⟨by rfl, fun W hSW => ?_⟩, ?_⟩; rotate_left; (focus (go_simp; first | done | with_reducible rfl)); try simp only [Act.put, List.setIfInBounds_toArray, List.set_cons_zero, List.set_cons_succ])
                (refine wpSeq_mov rfl rfl ?_; intro o ho; simp only [List.getElem?_toArray, List.getElem?_cons_zero, List.getElem?_cons_succ, Option.some.injEq] at ho; subst ho; refine ⟨?_, Or.inl ⟨by rfl, fun W hSW => ?_⟩, ?_⟩; rotate_left; (focus (go_simp; first | done | with_reducible rfl)); try simp only [Act.put, List.setIfInBounds_toArray, List.set_cons_zero, List.set_cons_succ])
                (refine wpSeq_mov rfl rfl ?_; intro o ho; simp only [List.getElem?_toArray, List.getElem?_cons_zero, List.getElem?_cons_succ, Option.some.injEq] at ho; subst ho; refine ⟨?_, Or.inl ⟨by rfl, fun W hSW => ?_⟩, ?_⟩; rotate_left; (focus (go_simp; first | done | with_reducible rfl)); try simp only [Act.put, List.setIfInBounds_toArray, List.set_cons_zero, List.set_cons_succ])
                (refine wpSeq_mov rfl rfl ?_; intro o ho; simp only [List.getElem?_toArray, List.getElem?_cons_zero, List.getElem?_cons_succ, Option.some.injEq] at ho; subst ho; refine ⟨?_, Or.inl ⟨by rfl, fun W hSW => ?_⟩, ?_⟩; rotate_left; (focus (go_simp; first | done | with_reducible rfl)); try simp only [Act.put, List.setIfInBounds_toArray, List.set_cons_zero, List.set_cons_succ])
                (refine wpSeq_mov rfl rfl ?_; intro o ho; simp only [List.getElem?_toArray, List.getElem?_cons_zero, List.getElem?_cons_succ, Option.some.injEq] at ho; subst ho; refine ⟨?_, Or.inl ⟨by rfl, fun W hSW => ?_⟩, ?_⟩; rotate_left; (focus (go_simp; first | done | with_reducible rfl)); try simp only [Act.put, List.setIfInBounds_toArray, List.set_cons_zero, List.set_cons_succ])
                (refine wpSeq_mov rfl rfl ?_; intro o ho; simp only [List.getElem?_toArray, List.getElem?_cons_zero, List.getElem?_cons_succ, Option.some.injEq] at ho; subst ho; refine ⟨?_, Or.inl ⟨by rfl, fun W hSW => ?_⟩, ?_⟩; rotate_left; (focus (go_simp; first | done | with_reducible rfl)); try simp only [Act.put, List.setIfInBounds_toArray, List.set_cons_zero, List.set_cons_succ])
                (refine wpSeq_mov rfl rfl ?_; intro o ho; simp only [List.getElem?_toArray, List.getElem?_cons_zero, List.getElem?_cons_succ, Option.some.injEq] at ho; subst ho; refine ⟨?_, Or.inl ⟨by rfl, fun W hSW => ?_⟩, ?_⟩; rotate_left; (focus (go_simp; first | done | with_reducible rfl)); try simp only [Act.put, List.setIfInBounds_toArray, List.set_cons_zero, List.set_cons_succ])
                (refine wpSeq_mov rfl rfl ?_; intro o ho; simp only [List.getElem?_toArray, List.getElem?_cons_zero, List.getElem?_cons_succ, Option.some.injEq] at ho; subst ho; refine ⟨?_, Or.inl ⟨by rfl, fun W hSW => ?_⟩, ?_⟩; rotate_left; (focus (go_simp; first | done | with_reducible rfl)); try simp only [Act.put, List.setIfInBounds_toArray, List.set_cons_zero, List.set_cons_succ])
                (refine wpSeq_mov rfl rfl ?_; intro o ho; simp only [List.getElem?_toArray, List.getElem?_cons_zero, List.getElem?_cons_succ, Option.some.injEq] at ho; subst ho; refine ⟨?_, Or.inl ⟨by rfl, fun W hSW => ?_⟩, ?_⟩; rotate_left; (focus (go_simp; first | done | with_reducible rfl)); try simp only [Act.put, List.setIfInBounds_toArray, List.set_cons_zero, List.set_cons_succ])
                (refine wpSeq_mov rfl rfl ?_; intro o ho; simp only [List.getElem?_toArray, List.getElem?_cons_zero, List.getElem?_cons_succ, Option.some.injEq] at ho; subst ho; refine ⟨?_, Or.inl ⟨by rfl, fun W hSW => ?_⟩, ?_⟩; rotate_left; (focus (go_simp; first | done | with_reducible rfl)); try simp only [Act.put, List.setIfInBounds_toArray, List.set_cons_zero, List.set_cons_succ])
                (refine wpSeq_mov rfl rfl ?_; intro o ho; simp only [List.getElem?_toArray, List.getElem?_cons_zero, List.getElem?_cons_succ, Option.some.injEq] at ho; subst ho; refine ⟨?_, Or.inl ⟨by rfl, fun W hSW => ?_⟩, ?_⟩; rotate_left; (focus (go_simp; first | done | with_reducible rfl)); try simp only [Act.put, List.setIfInBounds_toArray, List.set_cons_zero, List.set_cons_succ])
                (refine wpSeq_mov rfl rfl ?_; intro o ho; simp only [List.getElem?_toArray, List.getElem?_cons_zero, List.getElem?_cons_succ, Option.some.injEq] at ho; subst ho; refine ⟨?_, Or.inl ⟨by rfl, fun W hSW => ?_⟩, ?_⟩; rotate_left; (focus (go_simp; first | done | with_reducible rfl)); try simp only [Act.put, List.setIfInBounds_toArray, List.set_cons_zero, List.set_cons_succ])
                (refine wpSeq_mov rfl rfl ?_; intro o ho; simp only [List.getElem?_toArray, List.getElem?_cons_zero, List.getElem?_cons_succ, Option.some.injEq] at ho; subst ho; refine ⟨?_, Or.inl ⟨by rfl, fun W hSW => ?_⟩, ?_⟩; rotate_left; (focus (go_simp; first | done | with_reducible rfl)); try simp only [Act.put, List.setIfInBounds_toArray, List.set_cons_zero, List.set_cons_succ])
                (refine wpSeq_mov rfl rfl ?_; intro o ho; simp only [List.getElem?_toArray, List.getElem?_cons_zero, List.getElem?_cons_succ, Option.some.injEq] at ho; subst ho; refine ⟨?_, Or.inl ⟨by rfl, fun W hSW => ?_⟩, ?_⟩; rotate_left; (focus (go_simp; first | done | with_reducible rfl)); try simp only [Act.put, List.setIfInBounds_toArray, List.set_cons_zero, List.set_cons_succ])
                (refine wpSeq_mov rfl rfl ?_; intro o ho; simp only [List.getElem?_toArray, List.getElem?_cons_zero, List.getElem?_cons_succ, Option.some.injEq] at ho; subst ho; refine ⟨?_, Or.inl ⟨by rfl, fun W hSW => ?_⟩, ?_⟩; rotate_left; (focus (go_simp; first | done | with_reducible rfl)); try simp only [Act.put, List.setIfInBounds_toArray, List.set_cons_zero, List.set_cons_succ])
                (refine wpSeq_mov rfl rfl ?_; intro o ho; simp only [List.getElem?_toArray, List.getElem?_cons_zero, List.getElem?_cons_succ, Option.some.injEq] at ho; subst ho; refine ⟨?_, Or.inl ⟨by rfl, fun W hSW => ?_⟩, ?_⟩; rotate_left; (focus (go_simp; first | done | with_reducible rfl)); try simp only [Act.put, List.setIfInBounds_toArray, List.set_cons_zero, List.set_cons_succ])
                (refine wpSeq_mov rfl rfl ?_; intro o ho; simp only [List.getElem?_toArray, List.getElem?_cons_zero, List.getElem?_cons_succ, Option.some.injEq] at ho; subst ho; refine ⟨?_, Or.inl ⟨by rfl, fun W hSW => ?_⟩, ?_⟩; rotate_left; (focus (go_simp; first | done | with_reducible rfl)); try simp only [Act.put, List.setIfInBounds_toArray, List.set_cons_zero, List.set_cons_succ])
                (refine wpSeq_mov rfl rfl ?_; intro o ho; simp only [List.getElem?_toArray, List.getElem?_cons_zero, List.getElem?_cons_succ, Option.some.injEq] at ho; subst ho; refine ⟨?_, Or.inl ⟨by rfl, fun W hSW => ?_⟩, ?_⟩; rotate_left; (focus (go_simp; first | done | with_reducible rfl)); try simp only [Act.put, List.setIfInBounds_toArray, List.set_cons_zero, List.set_cons_succ])
                (refine wpSeq_fix rfl rfl ?_; intro o ho; simp only [List.getElem?_toArray, List.getElem?_cons_zero, List.getElem?_cons_succ, Option.some.injEq] at ho; subst ho; intro K hK)
                go_simp
                refine (HWD.out _).mono ?_
                rintro e w' ⟨rfl, hw'⟩
                have hw2 := hw'.symm
                subst hw2
                (refine hK.out _ _ (fun _ => hSS) ?_; clear hK K; try simp only [Act.put, List.setIfInBounds_toArray, List.set_cons_zero, List.set_cons_succ])
                (refine wpSeq_mov rfl rfl ?_; intro o ho; simp only [List.getElem?_toArray, List.getElem?_cons_zero, List.getElem?_cons_succ, Option.some.injEq] at ho; subst ho; refine ⟨?_, Or.inl ⟨by rfl, fun W hSW => ?_⟩, ?_⟩; rotate_left; (focus (go_simp; first | done | with_reducible rfl)); try simp only [Act.put, List.setIfInBounds_toArray, List.set_cons_zero, List.set_cons_succ])
                (refine wpSeq_mov rfl rfl ?_; intro o ho; simp only [List.getElem?_toArray, List.getElem?_cons_zero, List.getElem?_cons_succ, Option.some.injEq] at ho; subst ho; refine ⟨?_, Or.inl ⟨by rfl, fun W hSW => ?_⟩, ?_⟩; rotate_left; (focus (go_simp; first | done | with_reducible rfl)); try simp only [Act.put, List.setIfInBounds_toArray, List.set_cons_zero, List.set_cons_succ])
                (refine wpSeq_mov rfl rfl ?_; intro o ho; simp only [List.getElem?_toArray, List.getElem?_cons_zero, List.getElem?_cons_succ, Option.some.injEq] at ho; subst ho; refine ⟨?_, Or.inl ⟨by rfl, fun W hSW => ?_⟩, ?_⟩; rotate_left; (focus (go_simp; first | done | with_reducible rfl)); try simp only [Act.put, List.setIfInBounds_toArray, List.set_cons_zero, List.set_cons_succ])
                refine wpSeq_done ?_
                go_wp2_with fail

                have hV := HB1.out.drew
                have hTV := HT.out.drew
                generalize (w.alloc (.cells #[.int .i64 f.kind, .string NM, .int .i64 f.lit, .slice A f.kids.length c] 37)).drew = V at hV hTV ⊢
                clear hSS
                go_loopw [6, 7] (fun nv iv wr => ∃ (i : Nat) (m : Int), i ≤ f.kids.length ∧ iv = .int .i64 (i : Int) ∧ nv = .int .i64 m ∧ m = 1 + (szL (f.kids.take i) : Nat) ∧ m ≤ 2000 ∧ wfL (f.kids.take i) (d - 1) = true ∧ Below w.heap.size w wr ∧ Blk wr w.heap.size 37 #[.int .i64 f.kind, .string NM, .int .i64 f.lit, .slice A f.kids.length c]) (fun _ iv _ => f.kids.length - (intOf iv).toNat)
                case atStart => exact ⟨0, 1, Nat.zero_le _, rfl, rfl, by simp [szL], by omega, rfl, hV, hTV⟩
                case round =>
                  obtain ⟨i, m, hi, rfl, rfl, hm, hm2, hwf, hlow, hT2⟩ := hrel
                  have HLOW := Lib.hid hlow
                  have HT2 := Lib.hid hT2
                  have HWFI := Lib.hid hwf
                  have HMI := Lib.hid hm
                  have e3r := hT2.cell 3
                  have hm1 : 1 ≤ m := by omega
                  clear hwf hT2 hm hlow
                  by_cases hlt : i < f.kids.length
                  · have hlt' : (i : Int) < (f.kids.length : Int) := by omega
                    obtain ⟨k, hk⟩ : ∃ k, f.kids[i]? = some k := ⟨_, List.getElem?_eq_getElem hlt⟩
                    have hksz : k.sz < n := by
                      have := Fm.kid_sz (List.mem_of_getElem? hk)
                      omega
                    obtain ⟨b, o, A', c', rfl, hb, ⟨q0, q1, q2, q3⟩, hv⟩ := (HF.out.kids.low HLOW.out).v hk
                    have HC := Lib.hid (HIH.out k hksz wr (d - 1) A' c' (hv.more HLOW.out.size) (by omega) (by omega))
                    have HK1 := Lib.hid hk
                    clear hk hv
                    unfold fmA at HC
                    go_wp2_with fail
                    refine HC.out.mono ?_
                    rintro e w3 ⟨rfl, hb3⟩
                    have HB3 := Lib.hid (below2 HLOW.out HLOW.out.size hb3)
                    have HT3 := Lib.hid (HT2.out.below hb3 HT2.out.lt)
                    have hszi : szL (f.kids.take (i + 1)) = szL (f.kids.take i) + k.sz := by rw [List.take_add_one, HK1.out]; exact szL_snoc _ _
                    have hszle := szL_take_le f.kids (i + 1)
                    have hsf := HSZ.out
                    have hwi : wfL (f.kids.take (i + 1)) (d - 1) = (wfL (f.kids.take i) (d - 1) && k.wf (d - 1)) := by rw [List.take_add_one, HK1.out]; exact wfL_snoc _ _ _
                    have hmi := HMI.out
                    clear hb3
                    cases hres : rr k (d - 1) with
                    | true =>
                      have hres2 := hres
                      unfold rr at hres2
                      simp only [Bool.and_eq_true, decide_eq_true_eq] at hres2
                      have hks : (k.sz : Int) ≤ 2000 := by omega
                      have hks0 : 0 ≤ (k.sz : Int) := by omega
                      rw [if_pos rfl]
                      by_cases hbig : 2000 < m + (k.sz : Int)
                      · have HE : Hid (rr f d = false) := Lib.hid (by
                          unfold rr
                          rw [decide_eq_false (by omega), Bool.and_false])
                        clear hres hres2 hwi hszi hsf hmi
                        go_wp2_with fail
                        go_ret2
                        refine ⟨?_, HB3.out⟩
                        rw [HE.out]
                        rfl
                      · have HWI := Lib.hid hwi
                        have HSZI := Lib.hid hszi
                        have HR2 := Lib.hid hres2
                        clear hres hres2 hwi hszi hsf hmi
                        go_wp2_with fail
                        go_roundw
                        case rel =>
                          refine ⟨i + 1, m + (k.sz : Int), by omega, by go_num, rfl, ?_, by omega, ?_, HB3.out, HT3.out⟩
                          · rw [HSZI.out, HMI.out]
                            omega
                          · rw [HWI.out, HWFI.out, HR2.out.1]
                            rfl
                        case measure => simp [intOf]; omega
                    | false =>
                      have HE : Hid (rr f d = false) := Lib.hid (by
                        unfold rr at hres ⊢
                        rw [HR0.out]
                        cases hkw : k.wf (d - 1) with
                        | true =>
                          rw [hkw, Bool.true_and, decide_eq_false_iff_not] at hres
                          rw [decide_eq_false (by omega), Bool.and_false]
                        | false =>
                          have : wfL f.kids (d - 1) = false := by
                            rw [wfL_all, Bool.eq_false_iff]
                            intro h2
                            rw [List.all_eq_true] at h2
                            have := h2 k (List.mem_of_getElem? HK1.out)
                            rw [hkw] at this
                            cases this
                          rw [this, Bool.false_and])
                      rw [if_neg (by simp)]
                      clear hres hwi hszi hsf hmi
                      go_wp2_with fail
                      go_ret2
                      refine ⟨?_, HB3.out⟩
                      rw [HE.out]
                      rfl
                  · obtain rfl : i = f.kids.length := by omega
                    have hsf := HSZ.out
                    have hmm := HMI.out
                    rw [List.take_length] at hmm
                    have hw3 := HWFI.out
                    rw [List.take_length] at hw3
                    have hme : m = (f.sz : Int) := by omega
                    have HE : Hid (rr f d = true) := Lib.hid (by unfold rr; rw [HR0.out, hw3, decide_eq_true (by omega)]; rfl)
                    have HME := Lib.hid hme
                    clear hsf hmm hw3 hme
                    go_wp2_with fail
                    go_ret2
                    refine ⟨?_, HLOW.out⟩
                    rw [HE.out, ← HME.out]
                    rfl
          · have h3' : (f.kind == 3) = false := by simpa using h3
            by_cases hn0 : f.name = []
            · have hem : NM.toList.isEmpty = true := by rw [HEM.out, decide_eq_true hn0]
              have HR0 : Hid (f.wf d = wfL f.kids (d - 1)) := Lib.hid (by rw [HWF.out, if_neg h3, decide_eq_true hn0, HL.out, decide_eq_true HK.out, decide_eq_true (show 1 ≤ d by omega)]; simp)
              clear hn0 h3
              go_enter Tryd.func58, Tryd.ntmps58
              go_wp2_with fail
              refine wp_region_noPanic ?_
              refine wp_region_seq (fun W => (W.cell? ⟨w.heap.size, 0, none⟩ = some (.int .i64 f.kind) ∧ W.cell? ⟨w.heap.size, 1, none⟩ = some (.string NM)) ∧ (W.cell? ⟨w.heap.size, 2, none⟩ = some (.int .i64 f.lit) ∧ W.cell? ⟨w.heap.size, 3, none⟩ = some (.slice A f.kids.length c))) [0, 1, 2, 3, 4, 6, 7, 8, 5, 9, 10, 11, 12, 13, 14, 15, 16, 17, 18, 19, 20, 21, 22, 23, 24, 25, 26, 27, 28, 29, 30, 31, 32, 33, 34, 35] [0, 1, 2, 3, 4, 6, 7, 8, 9, 10, 11, 12, 13, 14, 15, 16, 17, 18, 19, 20, 21, 22, 23, 24, 25, 26, 27, 28, 29, 30, 31, 33, 34, 35] [] (by kernel_rfl) (by kernel_rfl) rfl (by kernel_rfl) (by kernel_rfl) (fun _ _ _ _ _ h => h) ?_ (fun hSS => ?_)
              · exact ⟨⟨e0, e1⟩, ⟨e2, e3⟩⟩
              (refine wpSeq_mov rfl rfl ?_; intro o ho; simp only [List.getElem?_toArray, List.getElem?_cons_zero, List.getElem?_cons_succ, Option.some.injEq] at ho; subst ho; refine ⟨?_, Or.inl ⟨by rfl, fun W hSW => ?_⟩, ?_⟩; rotate_left; (focus (go_simp; first | done | with_reducible rfl)); try simp only [Act.put, List.setIfInBounds_toArray, List.set_cons_zero, List.set_cons_succ])
              (refine wpSeq_mov rfl rfl ?_; intro o ho; simp only [List.getElem?_toArray, List.getElem?_cons_zero, List.getElem?_cons_succ, Option.some.injEq] at ho; subst ho; refine ⟨?_, Or.inl ⟨by rfl, fun W hSW => ?_⟩, ?_⟩; rotate_left; (focus (go_simp; first | done | with_reducible rfl)); try simp only [Act.put, List.setIfInBounds_toArray, List.set_cons_zero, List.set_cons_succ])
              rw [decide_eq_false (show ¬ d < 1 by omega)]
              (refine wpSeq_mov rfl rfl ?_; intro o ho; simp only [List.getElem?_toArray, List.getElem?_cons_zero, List.getElem?_cons_succ, Option.some.injEq] at ho; subst ho; refine ⟨?_, Or.inl ⟨by rfl, fun W hSW => ?_⟩, ?_⟩; rotate_left; (focus (go_simp; first | done | with_reducible rfl)); try simp only [Act.put, List.setIfInBounds_toArray, List.set_cons_zero, List.set_cons_succ])
              (refine wpSeq_mov rfl rfl ?_; intro o ho; simp only [List.getElem?_toArray, List.getElem?_cons_zero, List.getElem?_cons_succ, Option.some.injEq] at ho; subst ho; refine ⟨?_, Or.inl ⟨by rfl, fun W hSW => ?_⟩, ?_⟩; rotate_left; (focus (go_simp; first | done | with_reducible rfl)); try simp only [Act.put, List.setIfInBounds_toArray, List.set_cons_zero, List.set_cons_succ])
              (refine wpSeq_mov rfl rfl ?_; intro o ho; simp only [List.getElem?_toArray, List.getElem?_cons_zero, List.getElem?_cons_succ, Option.some.injEq] at ho; subst ho; refine ⟨?_, Or.inl ⟨by rfl, fun W hSW => ?_⟩, ?_⟩; rotate_left; (focus (go_simp; first | done | with_reducible rfl)); try simp only [Act.put, List.setIfInBounds_toArray, List.set_cons_zero, List.set_cons_succ])
              (refine wpSeq_mov rfl rfl ?_; intro o ho; simp only [List.getElem?_toArray, List.getElem?_cons_zero, List.getElem?_cons_succ, Option.some.injEq] at ho; subst ho; refine ⟨?_, Or.inl ⟨by rfl, fun W hSW => ?_⟩, ?_⟩; rotate_left; (focus (go_simp; first | done | with_reducible rfl)); try simp only [Act.put, List.setIfInBounds_toArray, List.set_cons_zero, List.set_cons_succ])
              (refine wpSeq_mov rfl rfl ?_; intro o ho; simp only [List.getElem?_toArray, List.getElem?_cons_zero, List.getElem?_cons_succ, Option.some.injEq] at ho; subst ho; refine ⟨?_, Or.inl ⟨by rfl, fun W hSW => ?_⟩, ?_⟩; rotate_left; (focus (go_simp; first | done | with_reducible rfl)); try simp only [Act.put, List.setIfInBounds_toArray, List.set_cons_zero, List.set_cons_succ])
              (refine wpSeq_mov rfl rfl ?_; intro o ho; simp only [List.getElem?_toArray, List.getElem?_cons_zero, List.getElem?_cons_succ, Option.some.injEq] at ho; subst ho; refine ⟨?_, Or.inl ⟨by rfl, fun W hSW => ?_⟩, ?_⟩; rotate_left; (focus (go_simp; first | done | with_reducible rfl)); try simp only [Act.put, List.setIfInBounds_toArray, List.set_cons_zero, List.set_cons_succ])
              (refine wpSeq_fix rfl rfl ?_; intro o ho; simp only [List.getElem?_toArray, List.getElem?_cons_zero, List.getElem?_cons_succ, Option.some.injEq] at ho; subst ho; intro K hK)
              go_simp
              refine (rkids_any _ _).mono ?_
              rintro e w' ⟨rfl, hw'⟩
              have hw2 := hw'.symm
              subst hw2
              (refine hK.out _ _ (fun _ => hSS) ?_; clear hK K; try simp only [Act.put, List.setIfInBounds_toArray, List.set_cons_zero, List.set_cons_succ])
              (refine wpSeq_mov rfl rfl ?_; intro o ho; simp only [List.getElem?_toArray, List.getElem?_cons_zero, List.getElem?_cons_succ, Option.some.injEq] at ho; subst ho; refine ⟨?_, Or.inl ⟨by rfl, fun W hSW => ?_⟩, ?_⟩; rotate_left; (focus (go_simp; first | done | with_reducible rfl)); try simp only [Act.put, List.setIfInBounds_toArray, List.set_cons_zero, List.set_cons_succ])
              (refine wpSeq_mov rfl rfl ?_; intro o ho; simp only [List.getElem?_toArray, List.getElem?_cons_zero, List.getElem?_cons_succ, Option.some.injEq] at ho; subst ho; refine ⟨?_, Or.inl ⟨by rfl, fun W hSW => ?_⟩, ?_⟩; rotate_left; (focus (go_simp; first | done | with_reducible rfl)); try simp only [Act.put, List.setIfInBounds_toArray, List.set_cons_zero, List.set_cons_succ])
              (refine wpSeq_mov rfl rfl ?_; intro o ho; simp only [List.getElem?_toArray, List.getElem?_cons_zero, List.getElem?_cons_succ, Option.some.injEq] at ho; subst ho; refine ⟨?_, Or.inl ⟨by rfl, fun W hSW => ?_⟩, ?_⟩; rotate_left; (focus (go_simp; first | done | with_reducible rfl)); try simp only [Act.put, List.setIfInBounds_toArray, List.set_cons_zero, List.set_cons_succ])
              (refine wpSeq_mov rfl rfl ?_; intro o ho; simp only [List.getElem?_toArray, List.getElem?_cons_zero, List.getElem?_cons_succ, Option.some.injEq] at ho; subst ho; refine ⟨?_, Or.inl ⟨by rfl, fun W hSW => ?_⟩, ?_⟩; rotate_left; (focus (go_simp; first | done | with_reducible rfl)); try simp only [Act.put, List.setIfInBounds_toArray, List.set_cons_zero, List.set_cons_succ])
              (refine wpSeq_mov rfl rfl ?_; intro o ho; simp only [List.getElem?_toArray, List.getElem?_cons_zero, List.getElem?_cons_succ, Option.some.injEq] at ho; subst ho; refine ⟨?_, Or.inl ⟨by rfl, fun W hSW => ?_⟩, ?_⟩; rotate_left; (focus (go_simp; first | done | with_reducible rfl)); try simp only [Act.put, List.setIfInBounds_toArray, List.set_cons_zero, List.set_cons_succ])
              (refine wpSeq_mov rfl rfl ?_; intro o ho; simp only [List.getElem?_toArray, List.getElem?_cons_zero, List.getElem?_cons_succ, Option.some.injEq] at ho; subst ho; refine ⟨?_, Or.inl ⟨by rfl, fun W hSW => ?_⟩, ?_⟩; rotate_left; (focus (go_simp; first | done | with_reducible rfl)); try simp only [Act.put, List.setIfInBounds_toArray, List.set_cons_zero, List.set_cons_succ])
              (refine wpSeq_mov rfl rfl ?_; intro o ho; simp only [List.getElem?_toArray, List.getElem?_cons_zero, List.getElem?_cons_succ, Option.some.injEq] at ho; subst ho; refine ⟨?_, Or.inl ⟨by rfl, fun W hSW => ?_⟩, ?_⟩; rotate_left; (focus (go_simp; first | done | with_reducible rfl)); try simp only [Act.put, List.setIfInBounds_toArray, List.set_cons_zero, List.set_cons_succ])
              (refine wpSeq_mov rfl rfl ?_; intro o ho; simp only [List.getElem?_toArray, List.getElem?_cons_zero, List.getElem?_cons_succ, Option.some.injEq] at ho; subst ho; refine ⟨?_, Or.inl ⟨by rfl, fun W hSW => ?_⟩, ?_⟩; rotate_left; (focus (go_simp; first | done | with_reducible rfl)); try simp only [Act.put, List.setIfInBounds_toArray, List.set_cons_zero, List.set_cons_succ])
              (refine wpSeq_mov rfl rfl ?_; intro o ho; simp only [List.getElem?_toArray, List.getElem?_cons_zero, List.getElem?_cons_succ, Option.some.injEq] at ho; subst ho; refine ⟨?_, Or.inl ⟨by rfl, fun W hSW => ?_⟩, ?_⟩; rotate_left; (focus (go_simp; first | done | with_reducible rfl)); try simp only [Act.put, List.setIfInBounds_toArray, List.set_cons_zero, List.set_cons_succ])
              (refine wpSeq_mov rfl rfl ?_; intro o ho; simp only [List.getElem?_toArray, List.getElem?_cons_zero, List.getElem?_cons_succ, Option.some.injEq] at ho; subst ho; refine ⟨?_, Or.inl ⟨by rfl, fun W hSW => ?_⟩, ?_⟩; rotate_left; (focus (go_simp; first | done | with_reducible rfl)); try simp only [Act.put, List.setIfInBounds_toArray, List.set_cons_zero, List.set_cons_succ])
              (refine wpSeq_mov rfl rfl ?_; intro o ho; simp only [List.getElem?_toArray, List.getElem?_cons_zero, List.getElem?_cons_succ, Option.some.injEq] at ho; subst ho; refine ⟨?_, Or.inl ⟨by rfl, fun W hSW => ?_⟩, ?_⟩; rotate_left; (focus (go_simp; first | done | with_reducible rfl)); try simp only [Act.put, List.setIfInBounds_toArray, List.set_cons_zero, List.set_cons_succ])
              (refine wpSeq_mov rfl rfl ?_; intro o ho; simp only [List.getElem?_toArray, List.getElem?_cons_zero, List.getElem?_cons_succ, Option.some.injEq] at ho; subst ho; refine ⟨?_, Or.inl ⟨by rfl, fun W hSW => ?_⟩, ?_⟩; rotate_left; (focus (go_simp; first | done | with_reducible rfl)); try simp only [Act.put, List.setIfInBounds_toArray, List.set_cons_zero, List.set_cons_succ])
              (refine wpSeq_mov rfl rfl ?_; intro o ho; simp only [List.getElem?_toArray, List.getElem?_cons_zero, List.getElem?_cons_succ, Option.some.injEq] at ho; subst ho; refine ⟨?_, Or.inl ⟨by rfl, fun W hSW => ?_⟩, ?_⟩; rotate_left; (focus (go_simp; first | done | with_reducible rfl)); try simp only [Act.put, List.setIfInBounds_toArray, List.set_cons_zero, List.set_cons_succ])
              (refine wpSeq_mov rfl rfl ?_; intro o ho; simp only [List.getElem?_toArray, List.getElem?_cons_zero, List.getElem?_cons_succ, Option.some.injEq] at ho; subst ho; refine ⟨?_, Or.inl ⟨by rfl, fun W hSW => ?_⟩, ?_⟩; rotate_left; (focus (go_simp; first | done | with_reducible rfl)); try simp only [Act.put, List.setIfInBounds_toArray, List.set_cons_zero, List.set_cons_succ])
              (refine wpSeq_mov rfl rfl ?_; intro o ho; simp only [List.getElem?_toArray, List.getElem?_cons_zero, List.getElem?_cons_succ, Option.some.injEq] at ho; subst ho; refine ⟨?_, Or.inl ⟨by rfl, fun W hSW => ?_⟩, ?_⟩; rotate_left; (focus (go_simp; first | done | with_reducible rfl)); try simp only [Act.put, List.setIfInBounds_toArray, List.set_cons_zero, List.set_cons_succ])
              (refine wpSeq_mov rfl rfl ?_; intro o ho; simp only [List.getElem?_toArray, List.getElem?_cons_zero, List.getElem?_cons_succ, Option.some.injEq] at ho; subst ho; refine ⟨?_, Or.inl ⟨by rfl, fun W hSW => ?_⟩, ?_⟩; rotate_left; (focus (go_simp; first | done | with_reducible rfl)); try simp only [Act.put, List.setIfInBounds_toArray, List.set_cons_zero, List.set_cons_succ])
              (refine wpSeq_mov rfl rfl ?_; intro o ho; simp only [List.getElem?_toArray, List.getElem?_cons_zero, List.getElem?_cons_succ, Option.some.injEq] at ho; subst ho; refine ⟨?_, Or.inl ⟨by rfl, fun W hSW => ?_⟩, ?_⟩; rotate_left; (focus (go_simp; first | done | with_reducible rfl)); try simp only [Act.put, List.setIfInBounds_toArray, List.set_cons_zero, List.set_cons_succ])
              (refine wpSeq_mov rfl rfl ?_; intro o ho; simp only [List.getElem?_toArray, List.getElem?_cons_zero, List.getElem?_cons_succ, Option.some.injEq] at ho; subst ho; refine ⟨?_, Or.inl ⟨by rfl, fun W hSW => ?_⟩, ?_⟩; rotate_left; (focus (go_simp; first | done | with_reducible rfl)); try simp only [Act.put, List.setIfInBounds_toArray, List.set_cons_zero, List.set_cons_succ])
              (refine wpSeq_mov rfl rfl ?_; intro o ho; simp only [List.getElem?_toArray, List.getElem?_cons_zero, List.getElem?_cons_succ, Option.some.injEq] at ho; subst ho; refine ⟨?_, Or.inl ⟨by rfl, fun W hSW => ?_⟩, ?_⟩; rotate_left; (focus (go_simp; first | done | with_reducible rfl)); try simp only [Act.put, List.setIfInBounds_toArray, List.set_cons_zero, List.set_cons_succ])
              (refine wpSeq_mov rfl rfl ?_; intro o ho; simp only [List.getElem?_toArray, List.getElem?_cons_zero, List.getElem?_cons_succ, Option.some.injEq] at ho; subst ho; refine ⟨?_, Or.inl ⟨by rfl, fun W hSW => ?_⟩, ?_⟩; rotate_left; (focus (go_simp; first | done | with_reducible rfl)); try simp only [Act.put, List.setIfInBounds_toArray, List.set_cons_zero, List.set_cons_succ])
              (refine wpSeq_mov rfl rfl ?_; intro o ho; simp only [List.getElem?_toArray, List.getElem?_cons_zero, List.getElem?_cons_succ, Option.some.injEq] at ho; subst ho; refine ⟨?_, Or.inl ⟨by rfl, fun W hSW => ?_⟩, ?_⟩; rotate_left; (focus (go_simp; first | done | with_reducible rfl)); try simp only [Act.put, List.setIfInBounds_toArray, List.set_cons_zero, List.set_cons_succ])
              (refine wpSeq_mov rfl rfl ?_; intro o ho; simp only [List.getElem?_toArray, List.getElem?_cons_zero, List.getElem?_cons_succ, Option.some.injEq] at ho; subst ho; refine ⟨undef, Or.inr ⟨by rfl, rfl⟩, ?_⟩; try simp only [Act.put, List.setIfInBounds_toArray, List.set_cons_zero, List.set_cons_succ])
              (refine wpSeq_mov rfl rfl ?_; intro o ho; simp only [List.getElem?_toArray, List.getElem?_cons_zero, List.getElem?_cons_succ, Option.some.injEq] at ho; subst ho; refine ⟨undef, Or.inr ⟨by rfl, rfl⟩, ?_⟩; try simp only [Act.put, List.setIfInBounds_toArray, List.set_cons_zero, List.set_cons_succ])
              (refine wpSeq_fix rfl rfl ?_; intro o ho; simp only [List.getElem?_toArray, List.getElem?_cons_zero, List.getElem?_cons_succ, Option.some.injEq] at ho; subst ho; intro K hK)
              go_simp
              (refine hK.out _ _ (fun _ => hSS) ?_; clear hK K; try simp only [Act.put, List.setIfInBounds_toArray, List.set_cons_zero, List.set_cons_succ])
              (refine wpSeq_mov rfl rfl ?_; intro o ho; simp only [List.getElem?_toArray, List.getElem?_cons_zero, List.getElem?_cons_succ, Option.some.injEq] at ho; subst ho; refine ⟨undef, Or.inr ⟨by rfl, rfl⟩, ?_⟩; try simp only [Act.put, List.setIfInBounds_toArray, List.set_cons_zero, List.set_cons_succ])
              (refine wpSeq_mov rfl rfl ?_; intro o ho; simp only [List.getElem?_toArray, List.getElem?_cons_zero, List.getElem?_cons_succ, Option.some.injEq] at ho; subst ho; refine ⟨?_, Or.inl ⟨by rfl, fun W hSW => ?_⟩, ?_⟩; rotate_left; (focus (go_simp; first | done | with_reducible rfl)); try simp only [Act.put, List.setIfInBounds_toArray, List.set_cons_zero, List.set_cons_succ])
              (refine wpSeq_mov rfl rfl ?_; intro o ho; simp only [List.getElem?_toArray, List.getElem?_cons_zero, List.getElem?_cons_succ, Option.some.injEq] at ho; subst ho; refine ⟨?_, Or.inl ⟨by rfl, fun W hSW => ?_⟩, ?_⟩; rotate_left; (focus (go_simp; first | done | with_reducible rfl)); try simp only [Act.put, List.setIfInBounds_toArray, List.set_cons_zero, List.set_cons_succ])
              refine wpSeq_done ?_
              go_wp2_with fail

              have hV := HB1.out.drew
              have hTV := HT.out.drew
              generalize (w.alloc (.cells #[.int .i64 f.kind, .string NM, .int .i64 f.lit, .slice A f.kids.length c] 37)).drew = V at hV hTV ⊢
              clear hSS
              go_loopw [6, 7] (fun nv iv wr => ∃ (i : Nat) (m : Int), i ≤ f.kids.length ∧ iv = .int .i64 (i : Int) ∧ nv = .int .i64 m ∧ m = 1 + (szL (f.kids.take i) : Nat) ∧ m ≤ 2000 ∧ wfL (f.kids.take i) (d - 1) = true ∧ Below w.heap.size w wr ∧ Blk wr w.heap.size 37 #[.int .i64 f.kind, .string NM, .int .i64 f.lit, .slice A f.kids.length c]) (fun _ iv _ => f.kids.length - (intOf iv).toNat)
              case atStart => exact ⟨0, 1, Nat.zero_le _, rfl, rfl, by simp [szL], by omega, rfl, hV, hTV⟩
              case round =>
                obtain ⟨i, m, hi, rfl, rfl, hm, hm2, hwf, hlow, hT2⟩ := hrel
                have HLOW := Lib.hid hlow
                have HT2 := Lib.hid hT2
                have HWFI := Lib.hid hwf
                have HMI := Lib.hid hm
                have e3r := hT2.cell 3
                have hm1 : 1 ≤ m := by omega
                clear hwf hT2 hm hlow
                by_cases hlt : i < f.kids.length
                · have hlt' : (i : Int) < (f.kids.length : Int) := by omega
                  obtain ⟨k, hk⟩ : ∃ k, f.kids[i]? = some k := ⟨_, List.getElem?_eq_getElem hlt⟩
                  have hksz : k.sz < n := by
                    have := Fm.kid_sz (List.mem_of_getElem? hk)
                    omega
                  obtain ⟨b, o, A', c', rfl, hb, ⟨q0, q1, q2, q3⟩, hv⟩ := (HF.out.kids.low HLOW.out).v hk
                  have HC := Lib.hid (HIH.out k hksz wr (d - 1) A' c' (hv.more HLOW.out.size) (by omega) (by omega))
                  have HK1 := Lib.hid hk
                  clear hk hv
                  unfold fmA at HC
                  go_wp2_with fail
                  refine HC.out.mono ?_
                  rintro e w3 ⟨rfl, hb3⟩
                  have HB3 := Lib.hid (below2 HLOW.out HLOW.out.size hb3)
                  have HT3 := Lib.hid (HT2.out.below hb3 HT2.out.lt)
                  have hszi : szL (f.kids.take (i + 1)) = szL (f.kids.take i) + k.sz := by rw [List.take_add_one, HK1.out]; exact szL_snoc _ _
                  have hszle := szL_take_le f.kids (i + 1)
                  have hsf := HSZ.out
                  have hwi : wfL (f.kids.take (i + 1)) (d - 1) = (wfL (f.kids.take i) (d - 1) && k.wf (d - 1)) := by rw [List.take_add_one, HK1.out]; exact wfL_snoc _ _ _
                  have hmi := HMI.out
                  clear hb3
                  cases hres : rr k (d - 1) with
                  | true =>
                    have hres2 := hres
                    unfold rr at hres2
                    simp only [Bool.and_eq_true, decide_eq_true_eq] at hres2
                    have hks : (k.sz : Int) ≤ 2000 := by omega
                    have hks0 : 0 ≤ (k.sz : Int) := by omega
                    rw [if_pos rfl]
                    by_cases hbig : 2000 < m + (k.sz : Int)
                    · have HE : Hid (rr f d = false) := Lib.hid (by
                        unfold rr
                        rw [decide_eq_false (by omega), Bool.and_false])
                      clear hres hres2 hwi hszi hsf hmi
                      go_wp2_with fail
                      go_ret2
                      refine ⟨?_, HB3.out⟩
                      rw [HE.out]
                      rfl
                    · have HWI := Lib.hid hwi
                      have HSZI := Lib.hid hszi
                      have HR2 := Lib.hid hres2
                      clear hres hres2 hwi hszi hsf hmi
                      go_wp2_with fail
                      go_roundw
                      case rel =>
                        refine ⟨i + 1, m + (k.sz : Int), by omega, by go_num, rfl, ?_, by omega, ?_, HB3.out, HT3.out⟩
                        · rw [HSZI.out, HMI.out]
                          omega
                        · rw [HWI.out, HWFI.out, HR2.out.1]
                          rfl
                      case measure => simp [intOf]; omega
                  | false =>
                    have HE : Hid (rr f d = false) := Lib.hid (by
                      unfold rr at hres ⊢
                      rw [HR0.out]
                      cases hkw : k.wf (d - 1) with
                      | true =>
                        rw [hkw, Bool.true_and, decide_eq_false_iff_not] at hres
                        rw [decide_eq_false (by omega), Bool.and_false]
                      | false =>
                        have : wfL f.kids (d - 1) = false := by
                          rw [wfL_all, Bool.eq_false_iff]
                          intro h2
                          rw [List.all_eq_true] at h2
                          have := h2 k (List.mem_of_getElem? HK1.out)
                          rw [hkw] at this
                          cases this
                        rw [this, Bool.false_and])
                    rw [if_neg (by simp)]
                    clear hres hwi hszi hsf hmi
                    go_wp2_with fail
                    go_ret2
                    refine ⟨?_, HB3.out⟩
                    rw [HE.out]
                    rfl
                · obtain rfl : i = f.kids.length := by omega
                  have hsf := HSZ.out
                  have hmm := HMI.out
                  rw [List.take_length] at hmm
                  have hw3 := HWFI.out
                  rw [List.take_length] at hw3
                  have hme : m = (f.sz : Int) := by omega
                  have HE : Hid (rr f d = true) := Lib.hid (by unfold rr; rw [HR0.out, hw3, decide_eq_true (by omega)]; rfl)
                  have HME := Lib.hid hme
                  clear hsf hmm hw3 hme
                  go_wp2_with fail
                  go_ret2
                  refine ⟨?_, HLOW.out⟩
                  rw [HE.out, ← HME.out]
                  rfl
            · have hem : NM.toList.isEmpty = false := by rw [HEM.out, decide_eq_false hn0]
              have HE : Hid (rr f d = false) := Lib.hid (by unfold rr; rw [HWF.out, if_neg h3, decide_eq_false hn0]; simp)
              clear hn0 h3
              go_enter Tryd.func58, Tryd.ntmps58
              go_wp2_with fail
              refine wp_region_noPanic ?_
              refine wp_region_seq (fun W => (W.cell? ⟨w.heap.size, 0, none⟩ = some (.int .i64 f.kind) ∧ W.cell? ⟨w.heap.size, 1, none⟩ = some (.string NM)) ∧ (W.cell? ⟨w.heap.size, 2, none⟩ = some (.int .i64 f.lit) ∧ W.cell? ⟨w.heap.size, 3, none⟩ = some (.slice A f.kids.length c))) [0, 1, 2, 3, 4, 6, 7, 8, 5, 9, 10, 11, 12, 13, 14, 15, 16, 17, 18, 19, 20, 21, 22, 23, 24, 25, 26, 27, 28, 29, 30, 31, 32, 33, 34, 35] [0, 1, 2, 3, 4, 6, 7, 8, 9, 10, 11, 12, 13, 14, 15, 16, 17, 18, 19, 20, 21, 22, 23, 24, 25, 26, 27, 28, 29, 30, 31, 33, 34, 35] [] (by kernel_rfl) (by kernel_rfl) rfl (by kernel_rfl) (by kernel_rfl) (fun _ _ _ _ _ h => h) ?_ (fun hSS => ?_)
              · exact ⟨⟨e0, e1⟩, ⟨e2, e3⟩⟩
              (refine wpSeq_mov rfl rfl ?_; intro o ho; simp only [List.getElem?_toArray, List.getElem?_cons_zero, List.getElem?_cons_succ, Option.some.injEq] at ho; subst ho; refine ⟨?_, Or.inl ⟨by rfl, fun W hSW => ?_⟩, ?_⟩; rotate_left; (focus (go_simp; first | done | with_reducible rfl)); try simp only [Act.put, List.setIfInBounds_toArray, List.set_cons_zero, List.set_cons_succ])
              (refine wpSeq_mov rfl rfl ?_; intro o ho; simp only [List.getElem?_toArray, List.getElem?_cons_zero, List.getElem?_cons_succ, Option.some.injEq] at ho; subst ho; refine ⟨?_, Or.inl ⟨by rfl, fun W hSW => ?_⟩, ?_⟩; rotate_left; (focus (go_simp; first | done | with_reducible rfl)); try simp only [Act.put, List.setIfInBounds_toArray, List.set_cons_zero, List.set_cons_succ])
              rw [decide_eq_false (show ¬ d < 1 by omega)]
              (refine wpSeq_mov rfl rfl ?_; intro o ho; simp only [List.getElem?_toArray, List.getElem?_cons_zero, List.getElem?_cons_succ, Option.some.injEq] at ho; subst ho; refine ⟨?_, Or.inl ⟨by rfl, fun W hSW => ?_⟩, ?_⟩; rotate_left; (focus (go_simp; first | done | with_reducible rfl)); try simp only [Act.put, List.setIfInBounds_toArray, List.set_cons_zero, List.set_cons_succ])
              (refine wpSeq_mov rfl rfl ?_; intro o ho; simp only [List.getElem?_toArray, List.getElem?_cons_zero, List.getElem?_cons_succ, Option.some.injEq] at ho; subst ho; refine ⟨?_, Or.inl ⟨by rfl, fun W hSW => ?_⟩, ?_⟩; rotate_left; (focus (go_simp; first | done | with_reducible rfl)); try simp only [Act.put, List.setIfInBounds_toArray, List.set_cons_zero, List.set_cons_succ])
              (refine wpSeq_mov rfl rfl ?_; intro o ho; simp only [List.getElem?_toArray, List.getElem?_cons_zero, List.getElem?_cons_succ, Option.some.injEq] at ho; subst ho; refine ⟨?_, Or.inl ⟨by rfl, fun W hSW => ?_⟩, ?_⟩; rotate_left; (focus (go_simp; first | done | with_reducible rfl)); try simp only [Act.put, List.setIfInBounds_toArray, List.set_cons_zero, List.set_cons_succ])
              (refine wpSeq_mov rfl rfl ?_; intro o ho; simp only [List.getElem?_toArray, List.getElem?_cons_zero, List.getElem?_cons_succ, Option.some.injEq] at ho; subst ho; refine ⟨?_, Or.inl ⟨by rfl, fun W hSW => ?_⟩, ?_⟩; rotate_left; (focus (go_simp; first | done | with_reducible rfl)); try simp only [Act.put, List.setIfInBounds_toArray, List.set_cons_zero, List.set_cons_succ])
              (refine wpSeq_mov rfl rfl ?_; intro o ho; simp only [List.getElem?_toArray, List.getElem?_cons_zero, List.getElem?_cons_succ, Option.some.injEq] at ho; subst ho; refine ⟨?_, Or.inl ⟨by rfl, fun W hSW => ?_⟩, ?_⟩; rotate_left; (focus (go_simp; first | done | with_reducible rfl)); try simp only [Act.put, List.setIfInBounds_toArray, List.set_cons_zero, List.set_cons_succ])
              (refine wpSeq_mov rfl rfl ?_; intro o ho; simp only [List.getElem?_toArray, List.getElem?_cons_zero, List.getElem?_cons_succ, Option.some.injEq] at ho; subst ho; refine ⟨?_, Or.inl ⟨by rfl, fun W hSW => ?_⟩, ?_⟩; rotate_left; (focus (go_simp; first | done | with_reducible rfl)); try simp only [Act.put, List.setIfInBounds_toArray, List.set_cons_zero, List.set_cons_succ])
              (refine wpSeq_fix rfl rfl ?_; intro o ho; simp only [List.getElem?_toArray, List.getElem?_cons_zero, List.getElem?_cons_succ, Option.some.injEq] at ho; subst ho; intro K hK)
              go_simp
              refine (rkids_any _ _).mono ?_
              rintro e w' ⟨rfl, hw'⟩
              have hw2 := hw'.symm
              subst hw2
              (refine hK.out _ _ (fun _ => hSS) ?_; clear hK K; try simp only [Act.put, List.setIfInBounds_toArray, List.set_cons_zero, List.set_cons_succ])
              (refine wpSeq_mov rfl rfl ?_; intro o ho; simp only [List.getElem?_toArray, List.getElem?_cons_zero, List.getElem?_cons_succ, Option.some.injEq] at ho; subst ho; refine ⟨?_, Or.inl ⟨by rfl, fun W hSW => ?_⟩, ?_⟩; rotate_left; (focus (go_simp; first | done | with_reducible rfl)); try simp only [Act.put, List.setIfInBounds_toArray, List.set_cons_zero, List.set_cons_succ])
              (refine wpSeq_mov rfl rfl ?_; intro o ho; simp only [List.getElem?_toArray, List.getElem?_cons_zero, List.getElem?_cons_succ, Option.some.injEq] at ho; subst ho; refine ⟨?_, Or.inl ⟨by rfl, fun W hSW => ?_⟩, ?_⟩; rotate_left; (focus (go_simp; first | done | with_reducible rfl)); try simp only [Act.put, List.setIfInBounds_toArray, List.set_cons_zero, List.set_cons_succ])
              (refine wpSeq_mov rfl rfl ?_; intro o ho; simp only [List.getElem?_toArray, List.getElem?_cons_zero, List.getElem?_cons_succ, Option.some.injEq] at ho; subst ho; refine ⟨?_, Or.inl ⟨by rfl, fun W hSW => ?_⟩, ?_⟩; rotate_left; (focus (go_simp; first | done | with_reducible rfl)); try simp only [Act.put, List.setIfInBounds_toArray, List.set_cons_zero, List.set_cons_succ])
              (refine wpSeq_mov rfl rfl ?_; intro o ho; simp only [List.getElem?_toArray, List.getElem?_cons_zero, List.getElem?_cons_succ, Option.some.injEq] at ho; subst ho; refine ⟨?_, Or.inl ⟨by rfl, fun W hSW => ?_⟩, ?_⟩; rotate_left; (focus (go_simp; first | done | with_reducible rfl)); try simp only [Act.put, List.setIfInBounds_toArray, List.set_cons_zero, List.set_cons_succ])
              (refine wpSeq_mov rfl rfl ?_; intro o ho; simp only [List.getElem?_toArray, List.getElem?_cons_zero, List.getElem?_cons_succ, Option.some.injEq] at ho; subst ho; refine ⟨?_, Or.inl ⟨by rfl, fun W hSW => ?_⟩, ?_⟩; rotate_left; (focus (go_simp; first | done | with_reducible rfl)); try simp only [Act.put, List.setIfInBounds_toArray, List.set_cons_zero, List.set_cons_succ])
              (refine wpSeq_mov rfl rfl ?_; intro o ho; simp only [List.getElem?_toArray, List.getElem?_cons_zero, List.getElem?_cons_succ, Option.some.injEq] at ho; subst ho; refine ⟨?_, Or.inl ⟨by rfl, fun W hSW => ?_⟩, ?_⟩; rotate_left; (focus (go_simp; first | done | with_reducible rfl)); try simp only [Act.put, List.setIfInBounds_toArray, List.set_cons_zero, List.set_cons_succ])
              (refine wpSeq_mov rfl rfl ?_; intro o ho; simp only [List.getElem?_toArray, List.getElem?_cons_zero, List.getElem?_cons_succ, Option.some.injEq] at ho; subst ho; refine ⟨?_, Or.inl ⟨by rfl, fun W hSW => ?_⟩, ?_⟩; rotate_left; (focus (go_simp; first | done | with_reducible rfl)); try simp only [Act.put, List.setIfInBounds_toArray, List.set_cons_zero, List.set_cons_succ])
              (refine wpSeq_mov rfl rfl ?_; intro o ho; simp only [List.getElem?_toArray, List.getElem?_cons_zero, List.getElem?_cons_succ, Option.some.injEq] at ho; subst ho; refine ⟨?_, Or.inl ⟨by rfl, fun W hSW => ?_⟩, ?_⟩; rotate_left; (focus (go_simp; first | done | with_reducible rfl)); try simp only [Act.put, List.setIfInBounds_toArray, List.set_cons_zero, List.set_cons_succ])
              (refine wpSeq_mov rfl rfl ?_; intro o ho; simp only [List.getElem?_toArray, List.getElem?_cons_zero, List.getElem?_cons_succ, Option.some.injEq] at ho; subst ho; refine ⟨?_, Or.inl ⟨by rfl, fun W hSW => ?_⟩, ?_⟩; rotate_left; (focus (go_simp; first | done | with_reducible rfl)); try simp only [Act.put, List.setIfInBounds_toArray, List.set_cons_zero, List.set_cons_succ])
              (refine wpSeq_mov rfl rfl ?_; intro o ho; simp only [List.getElem?_toArray, List.getElem?_cons_zero, List.getElem?_cons_succ, Option.some.injEq] at ho; subst ho; refine ⟨?_, Or.inl ⟨by rfl, fun W hSW => ?_⟩, ?_⟩; rotate_left; (focus (go_simp; first | done | with_reducible rfl)); try simp only [Act.put, List.setIfInBounds_toArray, List.set_cons_zero, List.set_cons_succ])
              (refine wpSeq_mov rfl rfl ?_; intro o ho; simp only [List.getElem?_toArray, List.getElem?_cons_zero, List.getElem?_cons_succ, Option.some.injEq] at ho; subst ho; refine ⟨?_, Or.inl ⟨by rfl, fun W hSW => ?_⟩, ?_⟩; rotate_left; (focus (go_simp; first | done | with_reducible rfl)); try simp only [Act.put, List.setIfInBounds_toArray, List.set_cons_zero, List.set_cons_succ])
              (refine wpSeq_mov rfl rfl ?_; intro o ho; simp only [List.getElem?_toArray, List.getElem?_cons_zero, List.getElem?_cons_succ, Option.some.injEq] at ho; subst ho; refine ⟨?_, Or.inl ⟨by rfl, fun W hSW => ?_⟩, ?_⟩; rotate_left; (focus (go_simp; first | done | with_reducible rfl)); try simp only [Act.put, List.setIfInBounds_toArray, List.set_cons_zero, List.set_cons_succ])
              (refine wpSeq_mov rfl rfl ?_; intro o ho; simp only [List.getElem?_toArray, List.getElem?_cons_zero, List.getElem?_cons_succ, Option.some.injEq] at ho; subst ho; refine ⟨?_, Or.inl ⟨by rfl, fun W hSW => ?_⟩, ?_⟩; rotate_left; (focus (go_simp; first | done | with_reducible rfl)); try simp only [Act.put, List.setIfInBounds_toArray, List.set_cons_zero, List.set_cons_succ])
              (refine wpSeq_mov rfl rfl ?_; intro o ho; simp only [List.getElem?_toArray, List.getElem?_cons_zero, List.getElem?_cons_succ, Option.some.injEq] at ho; subst ho; refine ⟨?_, Or.inl ⟨by rfl, fun W hSW => ?_⟩, ?_⟩; rotate_left; (focus (go_simp; first | done | with_reducible rfl)); try simp only [Act.put, List.setIfInBounds_toArray, List.set_cons_zero, List.set_cons_succ])
              (refine wpSeq_mov rfl rfl ?_; intro o ho; simp only [List.getElem?_toArray, List.getElem?_cons_zero, List.getElem?_cons_succ, Option.some.injEq] at ho; subst ho; refine ⟨?_, Or.inl ⟨by rfl, fun W hSW => ?_⟩, ?_⟩; rotate_left; (focus (go_simp; first | done | with_reducible rfl)); try simp only [Act.put, List.setIfInBounds_toArray, List.set_cons_zero, List.set_cons_succ])
              (refine wpSeq_mov rfl rfl ?_; intro o ho; simp only [List.getElem?_toArray, List.getElem?_cons_zero, List.getElem?_cons_succ, Option.some.injEq] at ho; subst ho; refine ⟨?_, Or.inl ⟨by rfl, fun W hSW => ?_⟩, ?_⟩; rotate_left; (focus (go_simp; first | done | with_reducible rfl)); try simp only [Act.put, List.setIfInBounds_toArray, List.set_cons_zero, List.set_cons_succ])
              (refine wpSeq_mov rfl rfl ?_; intro o ho; simp only [List.getElem?_toArray, List.getElem?_cons_zero, List.getElem?_cons_succ, Option.some.injEq] at ho; subst ho; refine ⟨?_, Or.inl ⟨by rfl, fun W hSW => ?_⟩, ?_⟩; rotate_left; (focus (go_simp; first | done | with_reducible rfl)); try simp only [Act.put, List.setIfInBounds_toArray, List.set_cons_zero, List.set_cons_succ])
              (refine wpSeq_mov rfl rfl ?_; intro o ho; simp only [List.getElem?_toArray, List.getElem?_cons_zero, List.getElem?_cons_succ, Option.some.injEq] at ho; subst ho; refine ⟨undef, Or.inr ⟨by rfl, rfl⟩, ?_⟩; try simp only [Act.put, List.setIfInBounds_toArray, List.set_cons_zero, List.set_cons_succ])
              (refine wpSeq_mov rfl rfl ?_; intro o ho; simp only [List.getElem?_toArray, List.getElem?_cons_zero, List.getElem?_cons_succ, Option.some.injEq] at ho; subst ho; refine ⟨undef, Or.inr ⟨by rfl, rfl⟩, ?_⟩; try simp only [Act.put, List.setIfInBounds_toArray, List.set_cons_zero, List.set_cons_succ])
              (refine wpSeq_mov rfl rfl ?_; intro o ho; simp only [List.getElem?_toArray, List.getElem?_cons_zero, List.getElem?_cons_succ, Option.some.injEq] at ho; subst ho; refine ⟨undef, Or.inr ⟨by rfl, rfl⟩, ?_⟩; try simp only [Act.put, List.setIfInBounds_toArray, List.set_cons_zero, List.set_cons_succ])
              (refine wpSeq_mov rfl rfl ?_; intro o ho; simp only [List.getElem?_toArray, List.getElem?_cons_zero, List.getElem?_cons_succ, Option.some.injEq] at ho; subst ho; refine ⟨undef, Or.inr ⟨by rfl, rfl⟩, ?_⟩; try simp only [Act.put, List.setIfInBounds_toArray, List.set_cons_zero, List.set_cons_succ])
              (refine wpSeq_mov rfl rfl ?_; intro o ho; simp only [List.getElem?_toArray, List.getElem?_cons_zero, List.getElem?_cons_succ, Option.some.injEq] at ho; subst ho; refine ⟨undef, Or.inr ⟨by rfl, rfl⟩, ?_⟩; try simp only [Act.put, List.setIfInBounds_toArray, List.set_cons_zero, List.set_cons_succ])
              (refine wpSeq_mov rfl rfl ?_; intro o ho; simp only [List.getElem?_toArray, List.getElem?_cons_zero, List.getElem?_cons_succ, Option.some.injEq] at ho; subst ho; refine ⟨undef, Or.inr ⟨by rfl, rfl⟩, ?_⟩; try simp only [Act.put, List.setIfInBounds_toArray, List.set_cons_zero, List.set_cons_succ])
              (refine wpSeq_fix rfl rfl ?_; intro o ho; simp only [List.getElem?_toArray, List.getElem?_cons_zero, List.getElem?_cons_succ, Option.some.injEq] at ho; subst ho; intro K hK)
              go_simp
              (refine hK.out _ _ (fun _ => hSS) ?_; clear hK K; try simp only [Act.put, List.setIfInBounds_toArray, List.set_cons_zero, List.set_cons_succ])
              (refine wpSeq_mov rfl rfl ?_; intro o ho; simp only [List.getElem?_toArray, List.getElem?_cons_zero, List.getElem?_cons_succ, Option.some.injEq] at ho; subst ho; refine ⟨undef, Or.inr ⟨by rfl, rfl⟩, ?_⟩; try simp only [Act.put, List.setIfInBounds_toArray, List.set_cons_zero, List.set_cons_succ])
              (refine wpSeq_mov rfl rfl ?_; intro o ho; simp only [List.getElem?_toArray, List.getElem?_cons_zero, List.getElem?_cons_succ, Option.some.injEq] at ho; subst ho; refine ⟨undef, Or.inr ⟨by rfl, rfl⟩, ?_⟩; try simp only [Act.put, List.setIfInBounds_toArray, List.set_cons_zero, List.set_cons_succ])
              (refine wpSeq_mov rfl rfl ?_; intro o ho; simp only [List.getElem?_toArray, List.getElem?_cons_zero, List.getElem?_cons_succ, Option.some.injEq] at ho; subst ho; refine ⟨?_, Or.inl ⟨by rfl, fun W hSW => ?_⟩, ?_⟩; rotate_left; (focus (go_simp; first | done | with_reducible rfl)); try simp only [Act.put, List.setIfInBounds_toArray, List.set_cons_zero, List.set_cons_succ])
              refine wpSeq_done ?_
              go_wp2_with fail
              go_ret2
              refine ⟨?_, HB1.out.drew⟩
              rw [HE.out]
              rfl
        · have hL' : (f.lit != 0) = true := by simpa using hL
          have HE : Hid (rr f d = false) := Lib.hid (by unfold rr; rw [HWF.out, decide_eq_false hL]; simp)
          clear hL
          go_enter Tryd.func58, Tryd.ntmps58
          go_wp2_with fail
          refine wp_region_noPanic ?_
          refine wp_region_seq (fun W => (W.cell? ⟨w.heap.size, 0, none⟩ = some (.int .i64 f.kind) ∧ W.cell? ⟨w.heap.size, 1, none⟩ = some (.string NM)) ∧ (W.cell? ⟨w.heap.size, 2, none⟩ = some (.int .i64 f.lit) ∧ W.cell? ⟨w.heap.size, 3, none⟩ = some (.slice A f.kids.length c))) [0, 1, 2, 3, 4, 6, 7, 8, 5, 9, 10, 11, 12, 13, 14, 15, 16, 17, 18, 19, 20, 21, 22, 23, 24, 25, 26, 27, 28, 29, 30, 31, 32, 33, 34, 35] [0, 1, 2, 3, 4, 6, 7, 8, 9, 10, 11, 12, 13, 14, 15, 16, 17, 18, 19, 20, 21, 22, 23, 24, 25, 26, 27, 28, 29, 30, 31, 33, 34, 35] [] (by kernel_rfl) (by kernel_rfl) rfl (by kernel_rfl) (by kernel_rfl) (fun _ _ _ _ _ h => h) ?_ (fun hSS => ?_)
          · exact ⟨⟨e0, e1⟩, ⟨e2, e3⟩⟩
          (refine wpSeq_mov rfl rfl ?_; intro o ho; simp only [List.getElem?_toArray, List.getElem?_cons_zero, List.getElem?_cons_succ, Option.some.injEq] at ho; subst ho; refine ⟨?_, Or.inl ⟨by rfl, fun W hSW => ?_⟩, ?_⟩; rotate_left; (focus (go_simp; first | done | with_reducible rfl)); try simp only [Act.put, List.setIfInBounds_toArray, List.set_cons_zero, List.set_cons_succ])
          (refine wpSeq_mov rfl rfl ?_; intro o ho; simp only [List.getElem?_toArray, List.getElem?_cons_zero, List.getElem?_cons_succ, Option.some.injEq] at ho; subst ho; refine ⟨?_, Or.inl ⟨by rfl, fun W hSW => ?_⟩, ?_⟩; rotate_left; (focus (go_simp; first | done | with_reducible rfl)); try simp only [Act.put, List.setIfInBounds_toArray, List.set_cons_zero, List.set_cons_succ])
          rw [decide_eq_false (show ¬ d < 1 by omega)]
          (refine wpSeq_mov rfl rfl ?_; intro o ho; simp only [List.getElem?_toArray, List.getElem?_cons_zero, List.getElem?_cons_succ, Option.some.injEq] at ho; subst ho; refine ⟨?_, Or.inl ⟨by rfl, fun W hSW => ?_⟩, ?_⟩; rotate_left; (focus (go_simp; first | done | with_reducible rfl)); try simp only [Act.put, List.setIfInBounds_toArray, List.set_cons_zero, List.set_cons_succ])
          (refine wpSeq_mov rfl rfl ?_; intro o ho; simp only [List.getElem?_toArray, List.getElem?_cons_zero, List.getElem?_cons_succ, Option.some.injEq] at ho; subst ho; refine ⟨?_, Or.inl ⟨by rfl, fun W hSW => ?_⟩, ?_⟩; rotate_left; (focus (go_simp; first | done | with_reducible rfl)); try simp only [Act.put, List.setIfInBounds_toArray, List.set_cons_zero, List.set_cons_succ])
          (refine wpSeq_mov rfl rfl ?_; intro o ho; simp only [List.getElem?_toArray, List.getElem?_cons_zero, List.getElem?_cons_succ, Option.some.injEq] at ho; subst ho; refine ⟨?_, Or.inl ⟨by rfl, fun W hSW => ?_⟩, ?_⟩; rotate_left; (focus (go_simp; first | done | with_reducible rfl)); try simp only [Act.put, List.setIfInBounds_toArray, List.set_cons_zero, List.set_cons_succ])
          (refine wpSeq_mov rfl rfl ?_; intro o ho; simp only [List.getElem?_toArray, List.getElem?_cons_zero, List.getElem?_cons_succ, Option.some.injEq] at ho; subst ho; refine ⟨?_, Or.inl ⟨by rfl, fun W hSW => ?_⟩, ?_⟩; rotate_left; (focus (go_simp; first | done | with_reducible rfl)); try simp only [Act.put, List.setIfInBounds_toArray, List.set_cons_zero, List.set_cons_succ])
          (refine wpSeq_mov rfl rfl ?_; intro o ho; simp only [List.getElem?_toArray, List.getElem?_cons_zero, List.getElem?_cons_succ, Option.some.injEq] at ho; subst ho; refine ⟨?_, Or.inl ⟨by rfl, fun W hSW => ?_⟩, ?_⟩; rotate_left; (focus (go_simp; first | done | with_reducible rfl)); try simp only [Act.put, List.setIfInBounds_toArray, List.set_cons_zero, List.set_cons_succ])
          (refine wpSeq_mov rfl rfl ?_; intro o ho; simp only [List.getElem?_toArray, List.getElem?_cons_zero, List.getElem?_cons_succ, Option.some.injEq] at ho; subst ho; refine ⟨?_, Or.inl ⟨by rfl, fun W hSW => ?_⟩, ?_⟩; rotate_left; (focus (go_simp; first | done | with_reducible rfl)); try simp only [Act.put, List.setIfInBounds_toArray, List.set_cons_zero, List.set_cons_succ])
          (refine wpSeq_fix rfl rfl ?_; intro o ho; simp only [List.getElem?_toArray, List.getElem?_cons_zero, List.getElem?_cons_succ, Option.some.injEq] at ho; subst ho; intro K hK)
          go_simp
          refine (rkids_any _ _).mono ?_
          rintro e w' ⟨rfl, hw'⟩
          have hw2 := hw'.symm
          subst hw2
          (refine hK.out _ _ (fun _ => hSS) ?_; clear hK K; try simp only [Act.put, List.setIfInBounds_toArray, List.set_cons_zero, List.set_cons_succ])
          (refine wpSeq_mov rfl rfl ?_; intro o ho; simp only [List.getElem?_toArray, List.getElem?_cons_zero, List.getElem?_cons_succ, Option.some.injEq] at ho; subst ho; refine ⟨?_, Or.inl ⟨by rfl, fun W hSW => ?_⟩, ?_⟩; rotate_left; (focus (go_simp; first | done | with_reducible rfl)); try simp only [Act.put, List.setIfInBounds_toArray, List.set_cons_zero, List.set_cons_succ])
          (refine wpSeq_mov rfl rfl ?_; intro o ho; simp only [List.getElem?_toArray, List.getElem?_cons_zero, List.getElem?_cons_succ, Option.some.injEq] at ho; subst ho; refine ⟨?_, Or.inl ⟨by rfl, fun W hSW => ?_⟩, ?_⟩; rotate_left; (focus (go_simp; first | done | with_reducible rfl)); try simp only [Act.put, List.setIfInBounds_toArray, List.set_cons_zero, List.set_cons_succ])
          (refine wpSeq_mov rfl rfl ?_; intro o ho; simp only [List.getElem?_toArray, List.getElem?_cons_zero, List.getElem?_cons_succ, Option.some.injEq] at ho; subst ho; refine ⟨?_, Or.inl ⟨by rfl, fun W hSW => ?_⟩, ?_⟩; rotate_left; (focus (go_simp; first | done | with_reducible rfl)); try simp only [Act.put, List.setIfInBounds_toArray, List.set_cons_zero, List.set_cons_succ])
          (refine wpSeq_mov rfl rfl ?_; intro o ho; simp only [List.getElem?_toArray, List.getElem?_cons_zero, List.getElem?_cons_succ, Option.some.injEq] at ho; subst ho; refine ⟨?_, Or.inl ⟨by rfl, fun W hSW => ?_⟩, ?_⟩; rotate_left; (focus (go_simp; first | done | with_reducible rfl)); try simp only [Act.put, List.setIfInBounds_toArray, List.set_cons_zero, List.set_cons_succ])
          (refine wpSeq_mov rfl rfl ?_; intro o ho; simp only [List.getElem?_toArray, List.getElem?_cons_zero, List.getElem?_cons_succ, Option.some.injEq] at ho; subst ho; refine ⟨?_, Or.inl ⟨by rfl, fun W hSW => ?_⟩, ?_⟩; rotate_left; (focus (go_simp; first | done | with_reducible rfl)); try simp only [Act.put, List.setIfInBounds_toArray, List.set_cons_zero, List.set_cons_succ])
          (refine wpSeq_mov rfl rfl ?_; intro o ho; simp only [List.getElem?_toArray, List.getElem?_cons_zero, List.getElem?_cons_succ, Option.some.injEq] at ho; subst ho; refine ⟨?_, Or.inl ⟨by rfl, fun W hSW => ?_⟩, ?_⟩; rotate_left; (focus (go_simp; first | done | with_reducible rfl)); try simp only [Act.put, List.setIfInBounds_toArray, List.set_cons_zero, List.set_cons_succ])
          (refine wpSeq_mov rfl rfl ?_; intro o ho; simp only [List.getElem?_toArray, List.getElem?_cons_zero, List.getElem?_cons_succ, Option.some.injEq] at ho; subst ho; refine ⟨?_, Or.inl ⟨by rfl, fun W hSW => ?_⟩, ?_⟩; rotate_left; (focus (go_simp; first | done | with_reducible rfl)); try simp only [Act.put, List.setIfInBounds_toArray, List.set_cons_zero, List.set_cons_succ])
          (refine wpSeq_mov rfl rfl ?_; intro o ho; simp only [List.getElem?_toArray, List.getElem?_cons_zero, List.getElem?_cons_succ, Option.some.injEq] at ho; subst ho; refine ⟨?_, Or.inl ⟨by rfl, fun W hSW => ?_⟩, ?_⟩; rotate_left; (focus (go_simp; first | done | with_reducible rfl)); try simp only [Act.put, List.setIfInBounds_toArray, List.set_cons_zero, List.set_cons_succ])
          (refine wpSeq_mov rfl rfl ?_; intro o ho; simp only [List.getElem?_toArray, List.getElem?_cons_zero, List.getElem?_cons_succ, Option.some.injEq] at ho; subst ho; refine ⟨undef, Or.inr ⟨by rfl, rfl⟩, ?_⟩; try simp only [Act.put, List.setIfInBounds_toArray, List.set_cons_zero, List.set_cons_succ])
          (refine wpSeq_mov rfl rfl ?_; intro o ho; simp only [List.getElem?_toArray, List.getElem?_cons_zero, List.getElem?_cons_succ, Option.some.injEq] at ho; subst ho; refine ⟨undef, Or.inr ⟨by rfl, rfl⟩, ?_⟩; try simp only [Act.put, List.setIfInBounds_toArray, List.set_cons_zero, List.set_cons_succ])
          (refine wpSeq_mov rfl rfl ?_; intro o ho; simp only [List.getElem?_toArray, List.getElem?_cons_zero, List.getElem?_cons_succ, Option.some.injEq] at ho; subst ho; refine ⟨undef, Or.inr ⟨by rfl, rfl⟩, ?_⟩; try simp only [Act.put, List.setIfInBounds_toArray, List.set_cons_zero, List.set_cons_succ])
          (refine wpSeq_mov rfl rfl ?_; intro o ho; simp only [List.getElem?_toArray, List.getElem?_cons_zero, List.getElem?_cons_succ, Option.some.injEq] at ho; subst ho; refine ⟨undef, Or.inr ⟨by rfl, rfl⟩, ?_⟩; try simp only [Act.put, List.setIfInBounds_toArray, List.set_cons_zero, List.set_cons_succ])
          (refine wpSeq_mov rfl rfl ?_; intro o ho; simp only [List.getElem?_toArray, List.getElem?_cons_zero, List.getElem?_cons_succ, Option.some.injEq] at ho; subst ho; refine ⟨undef, Or.inr ⟨by rfl, rfl⟩, ?_⟩; try simp only [Act.put, List.setIfInBounds_toArray, List.set_cons_zero, List.set_cons_succ])
          (refine wpSeq_mov rfl rfl ?_; intro o ho; simp only [List.getElem?_toArray, List.getElem?_cons_zero, List.getElem?_cons_succ, Option.some.injEq] at ho; subst ho; refine ⟨undef, Or.inr ⟨by rfl, rfl⟩, ?_⟩; try simp only [Act.put, List.setIfInBounds_toArray, List.set_cons_zero, List.set_cons_succ])
          (refine wpSeq_mov rfl rfl ?_; intro o ho; simp only [List.getElem?_toArray, List.getElem?_cons_zero, List.getElem?_cons_succ, Option.some.injEq] at ho; subst ho; refine ⟨undef, Or.inr ⟨by rfl, rfl⟩, ?_⟩; try simp only [Act.put, List.setIfInBounds_toArray, List.set_cons_zero, List.set_cons_succ])
          (refine wpSeq_mov rfl rfl ?_; intro o ho; simp only [List.getElem?_toArray, List.getElem?_cons_zero, List.getElem?_cons_succ, Option.some.injEq] at ho; subst ho; refine ⟨?_, Or.inl ⟨by rfl, fun W hSW => ?_⟩, ?_⟩; rotate_left; (focus (go_simp; first | done | with_reducible rfl)); try simp only [Act.put, List.setIfInBounds_toArray, List.set_cons_zero, List.set_cons_succ])
          (refine wpSeq_mov rfl rfl ?_; intro o ho; simp only [List.getElem?_toArray, List.getElem?_cons_zero, List.getElem?_cons_succ, Option.some.injEq] at ho; subst ho; refine ⟨?_, Or.inl ⟨by rfl, fun W hSW => ?_⟩, ?_⟩; rotate_left; (focus (go_simp; first | done | with_reducible rfl)); try simp only [Act.put, List.setIfInBounds_toArray, List.set_cons_zero, List.set_cons_succ])
          (refine wpSeq_mov rfl rfl ?_; intro o ho; simp only [List.getElem?_toArray, List.getElem?_cons_zero, List.getElem?_cons_succ, Option.some.injEq] at ho; subst ho; refine ⟨undef, Or.inr ⟨by rfl, rfl⟩, ?_⟩; try simp only [Act.put, List.setIfInBounds_toArray, List.set_cons_zero, List.set_cons_succ])
          (refine wpSeq_mov rfl rfl ?_; intro o ho; simp only [List.getElem?_toArray, List.getElem?_cons_zero, List.getElem?_cons_succ, Option.some.injEq] at ho; subst ho; refine ⟨undef, Or.inr ⟨by rfl, rfl⟩, ?_⟩; try simp only [Act.put, List.setIfInBounds_toArray, List.set_cons_zero, List.set_cons_succ])
          (refine wpSeq_mov rfl rfl ?_; intro o ho; simp only [List.getElem?_toArray, List.getElem?_cons_zero, List.getElem?_cons_succ, Option.some.injEq] at ho; subst ho; refine ⟨undef, Or.inr ⟨by rfl, rfl⟩, ?_⟩; try simp only [Act.put, List.setIfInBounds_toArray, List.set_cons_zero, List.set_cons_succ])
          (refine wpSeq_mov rfl rfl ?_; intro o ho; simp only [List.getElem?_toArray, List.getElem?_cons_zero, List.getElem?_cons_succ, Option.some.injEq] at ho; subst ho; refine ⟨undef, Or.inr ⟨by rfl, rfl⟩, ?_⟩; try simp only [Act.put, List.setIfInBounds_toArray, List.set_cons_zero, List.set_cons_succ])
          (refine wpSeq_mov rfl rfl ?_; intro o ho; simp only [List.getElem?_toArray, List.getElem?_cons_zero, List.getElem?_cons_succ, Option.some.injEq] at ho; subst ho; refine ⟨undef, Or.inr ⟨by rfl, rfl⟩, ?_⟩; try simp only [Act.put, List.setIfInBounds_toArray, List.set_cons_zero, List.set_cons_succ])
          (refine wpSeq_mov rfl rfl ?_; intro o ho; simp only [List.getElem?_toArray, List.getElem?_cons_zero, List.getElem?_cons_succ, Option.some.injEq] at ho; subst ho; refine ⟨undef, Or.inr ⟨by rfl, rfl⟩, ?_⟩; try simp only [Act.put, List.setIfInBounds_toArray, List.set_cons_zero, List.set_cons_succ])
          (refine wpSeq_fix rfl rfl ?_; intro o ho; simp only [List.getElem?_toArray, List.getElem?_cons_zero, List.getElem?_cons_succ, Option.some.injEq] at ho; subst ho; intro K hK)
          go_simp
          (refine hK.out _ _ (fun _ => hSS) ?_; clear hK K; try simp only [Act.put, List.setIfInBounds_toArray, List.set_cons_zero, List.set_cons_succ])
          (refine wpSeq_mov rfl rfl ?_; intro o ho; simp only [List.getElem?_toArray, List.getElem?_cons_zero, List.getElem?_cons_succ, Option.some.injEq] at ho; subst ho; refine ⟨undef, Or.inr ⟨by rfl, rfl⟩, ?_⟩; try simp only [Act.put, List.setIfInBounds_toArray, List.set_cons_zero, List.set_cons_succ])
          (refine wpSeq_mov rfl rfl ?_; intro o ho; simp only [List.getElem?_toArray, List.getElem?_cons_zero, List.getElem?_cons_succ, Option.some.injEq] at ho; subst ho; refine ⟨undef, Or.inr ⟨by rfl, rfl⟩, ?_⟩; try simp only [Act.put, List.setIfInBounds_toArray, List.set_cons_zero, List.set_cons_succ])
          (refine wpSeq_mov rfl rfl ?_; intro o ho; simp only [List.getElem?_toArray, List.getElem?_cons_zero, List.getElem?_cons_succ, Option.some.injEq] at ho; subst ho; refine ⟨?_, Or.inl ⟨by rfl, fun W hSW => ?_⟩, ?_⟩; rotate_left; (focus (go_simp; first | done | with_reducible rfl)); try simp only [Act.put, List.setIfInBounds_toArray, List.set_cons_zero, List.set_cons_succ])
          refine wpSeq_done ?_
          go_wp2_with fail
          go_ret2
          refine ⟨?_, HB1.out.drew⟩
          rw [HE.out]
          rfl
      · have hk' : (nk f.kind != (f.kids.length : Int)) = true := by simpa using hk
        have HE : Hid (rr f d = false) := Lib.hid (by unfold rr; rw [HWF.out, decide_eq_false hk]; simp)
        clear hk
        go_enter Tryd.func58, Tryd.ntmps58
        go_wp2_with fail
        refine wp_region_noPanic ?_
        refine wp_region_seq (fun W => (W.cell? ⟨w.heap.size, 0, none⟩ = some (.int .i64 f.kind) ∧ W.cell? ⟨w.heap.size, 1, none⟩ = some (.string NM)) ∧ (W.cell? ⟨w.heap.size, 2, none⟩ = some (.int .i64 f.lit) ∧ W.cell? ⟨w.heap.size, 3, none⟩ = some (.slice A f.kids.length c))) [0, 1, 2, 3, 4, 6, 7, 8, 5, 9, 10, 11, 12, 13, 14, 15, 16, 17, 18, 19, 20, 21, 22, 23, 24, 25, 26, 27, 28, 29, 30, 31, 32, 33, 34, 35] [0, 1, 2, 3, 4, 6, 7, 8, 9, 10, 11, 12, 13, 14, 15, 16, 17, 18, 19, 20, 21, 22, 23, 24, 25, 26, 27, 28, 29, 30, 31, 33, 34, 35] [] (by kernel_rfl) (by kernel_rfl) rfl (by kernel_rfl) (by kernel_rfl) (fun _ _ _ _ _ h => h) ?_ (fun hSS => ?_)
        · exact ⟨⟨e0, e1⟩, ⟨e2, e3⟩⟩
        (refine wpSeq_mov rfl rfl ?_; intro o ho; simp only [List.getElem?_toArray, List.getElem?_cons_zero, List.getElem?_cons_succ, Option.some.injEq] at ho; subst ho; refine ⟨?_, Or.inl ⟨by rfl, fun W hSW => ?_⟩, ?_⟩; rotate_left; (focus (go_simp; first | done | with_reducible rfl)); try simp only [Act.put, List.setIfInBounds_toArray, List.set_cons_zero, List.set_cons_succ])
        (refine wpSeq_mov rfl rfl ?_; intro o ho; simp only [List.getElem?_toArray, List.getElem?_cons_zero, List.getElem?_cons_succ, Option.some.injEq] at ho; subst ho; refine ⟨?_, Or.inl ⟨by rfl, fun W hSW => ?_⟩, ?_⟩; rotate_left; (focus (go_simp; first | done | with_reducible rfl)); try simp only [Act.put, List.setIfInBounds_toArray, List.set_cons_zero, List.set_cons_succ])
        rw [decide_eq_false (show ¬ d < 1 by omega)]
        (refine wpSeq_mov rfl rfl ?_; intro o ho; simp only [List.getElem?_toArray, List.getElem?_cons_zero, List.getElem?_cons_succ, Option.some.injEq] at ho; subst ho; refine ⟨?_, Or.inl ⟨by rfl, fun W hSW => ?_⟩, ?_⟩; rotate_left; (focus (go_simp; first | done | with_reducible rfl)); try simp only [Act.put, List.setIfInBounds_toArray, List.set_cons_zero, List.set_cons_succ])
        (refine wpSeq_mov rfl rfl ?_; intro o ho; simp only [List.getElem?_toArray, List.getElem?_cons_zero, List.getElem?_cons_succ, Option.some.injEq] at ho; subst ho; refine ⟨?_, Or.inl ⟨by rfl, fun W hSW => ?_⟩, ?_⟩; rotate_left; (focus (go_simp; first | done | with_reducible rfl)); try simp only [Act.put, List.setIfInBounds_toArray, List.set_cons_zero, List.set_cons_succ])
        (refine wpSeq_mov rfl rfl ?_; intro o ho; simp only [List.getElem?_toArray, List.getElem?_cons_zero, List.getElem?_cons_succ, Option.some.injEq] at ho; subst ho; refine ⟨?_, Or.inl ⟨by rfl, fun W hSW => ?_⟩, ?_⟩; rotate_left; (focus (go_simp; first | done | with_reducible rfl)); try simp only [Act.put, List.setIfInBounds_toArray, List.set_cons_zero, List.set_cons_succ])
        (refine wpSeq_mov rfl rfl ?_; intro o ho; simp only [List.getElem?_toArray, List.getElem?_cons_zero, List.getElem?_cons_succ, Option.some.injEq] at ho; subst ho; refine ⟨?_, Or.inl ⟨by rfl, fun W hSW => ?_⟩, ?_⟩; rotate_left; (focus (go_simp; first | done | with_reducible rfl)); try simp only [Act.put, List.setIfInBounds_toArray, List.set_cons_zero, List.set_cons_succ])
        (refine wpSeq_mov rfl rfl ?_; intro o ho; simp only [List.getElem?_toArray, List.getElem?_cons_zero, List.getElem?_cons_succ, Option.some.injEq] at ho; subst ho; refine ⟨?_, Or.inl ⟨by rfl, fun W hSW => ?_⟩, ?_⟩; rotate_left; (focus (go_simp; first | done | with_reducible rfl)); try simp only [Act.put, List.setIfInBounds_toArray, List.set_cons_zero, List.set_cons_succ])
        (refine wpSeq_mov rfl rfl ?_; intro o ho; simp only [List.getElem?_toArray, List.getElem?_cons_zero, List.getElem?_cons_succ, Option.some.injEq] at ho; subst ho; refine ⟨?_, Or.inl ⟨by rfl, fun W hSW => ?_⟩, ?_⟩; rotate_left; (focus (go_simp; first | done | with_reducible rfl)); try simp only [Act.put, List.setIfInBounds_toArray, List.set_cons_zero, List.set_cons_succ])
        (refine wpSeq_fix rfl rfl ?_; intro o ho; simp only [List.getElem?_toArray, List.getElem?_cons_zero, List.getElem?_cons_succ, Option.some.injEq] at ho; subst ho; intro K hK)
        go_simp
        refine (rkids_any _ _).mono ?_
        rintro e w' ⟨rfl, hw'⟩
        have hw2 := hw'.symm
        subst hw2
        (refine hK.out _ _ (fun _ => hSS) ?_; clear hK K; try simp only [Act.put, List.setIfInBounds_toArray, List.set_cons_zero, List.set_cons_succ])
        (refine wpSeq_mov rfl rfl ?_; intro o ho; simp only [List.getElem?_toArray, List.getElem?_cons_zero, List.getElem?_cons_succ, Option.some.injEq] at ho; subst ho; refine ⟨?_, Or.inl ⟨by rfl, fun W hSW => ?_⟩, ?_⟩; rotate_left; (focus (go_simp; first | done | with_reducible rfl)); try simp only [Act.put, List.setIfInBounds_toArray, List.set_cons_zero, List.set_cons_succ])
        (refine wpSeq_mov rfl rfl ?_; intro o ho; simp only [List.getElem?_toArray, List.getElem?_cons_zero, List.getElem?_cons_succ, Option.some.injEq] at ho; subst ho; refine ⟨?_, Or.inl ⟨by rfl, fun W hSW => ?_⟩, ?_⟩; rotate_left; (focus (go_simp; first | done | with_reducible rfl)); try simp only [Act.put, List.setIfInBounds_toArray, List.set_cons_zero, List.set_cons_succ])
        (refine wpSeq_mov rfl rfl ?_; intro o ho; simp only [List.getElem?_toArray, List.getElem?_cons_zero, List.getElem?_cons_succ, Option.some.injEq] at ho; subst ho; refine ⟨?_, Or.inl ⟨by rfl, fun W hSW => ?_⟩, ?_⟩; rotate_left; (focus (go_simp; first | done | with_reducible rfl)); try simp only [Act.put, List.setIfInBounds_toArray, List.set_cons_zero, List.set_cons_succ])
        (refine wpSeq_mov rfl rfl ?_; intro o ho; simp only [List.getElem?_toArray, List.getElem?_cons_zero, List.getElem?_cons_succ, Option.some.injEq] at ho; subst ho; refine ⟨undef, Or.inr ⟨by rfl, rfl⟩, ?_⟩; try simp only [Act.put, List.setIfInBounds_toArray, List.set_cons_zero, List.set_cons_succ])
        (refine wpSeq_mov rfl rfl ?_; intro o ho; simp only [List.getElem?_toArray, List.getElem?_cons_zero, List.getElem?_cons_succ, Option.some.injEq] at ho; subst ho; refine ⟨undef, Or.inr ⟨by rfl, rfl⟩, ?_⟩; try simp only [Act.put, List.setIfInBounds_toArray, List.set_cons_zero, List.set_cons_succ])
        (refine wpSeq_mov rfl rfl ?_; intro o ho; simp only [List.getElem?_toArray, List.getElem?_cons_zero, List.getElem?_cons_succ, Option.some.injEq] at ho; subst ho; refine ⟨undef, Or.inr ⟨by rfl, rfl⟩, ?_⟩; try simp only [Act.put, List.setIfInBounds_toArray, List.set_cons_zero, List.set_cons_succ])
        (refine wpSeq_mov rfl rfl ?_; intro o ho; simp only [List.getElem?_toArray, List.getElem?_cons_zero, List.getElem?_cons_succ, Option.some.injEq] at ho; subst ho; refine ⟨?_, Or.inl ⟨by rfl, fun W hSW => ?_⟩, ?_⟩; rotate_left; (focus (go_simp; first | done | with_reducible rfl)); try simp only [Act.put, List.setIfInBounds_toArray, List.set_cons_zero, List.set_cons_succ])
        (refine wpSeq_mov rfl rfl ?_; intro o ho; simp only [List.getElem?_toArray, List.getElem?_cons_zero, List.getElem?_cons_succ, Option.some.injEq] at ho; subst ho; refine ⟨?_, Or.inl ⟨by rfl, fun W hSW => ?_⟩, ?_⟩; rotate_left; (focus (go_simp; first | done | with_reducible rfl)); try simp only [Act.put, List.setIfInBounds_toArray, List.set_cons_zero, List.set_cons_succ])
        (refine wpSeq_mov rfl rfl ?_; intro o ho; simp only [List.getElem?_toArray, List.getElem?_cons_zero, List.getElem?_cons_succ, Option.some.injEq] at ho; subst ho; refine ⟨undef, Or.inr ⟨by rfl, rfl⟩, ?_⟩; try simp only [Act.put, List.setIfInBounds_toArray, List.set_cons_zero, List.set_cons_succ])
        (refine wpSeq_mov rfl rfl ?_; intro o ho; simp only [List.getElem?_toArray, List.getElem?_cons_zero, List.getElem?_cons_succ, Option.some.injEq] at ho; subst ho; refine ⟨undef, Or.inr ⟨by rfl, rfl⟩, ?_⟩; try simp only [Act.put, List.setIfInBounds_toArray, List.set_cons_zero, List.set_cons_succ])
        (refine wpSeq_mov rfl rfl ?_; intro o ho; simp only [List.getElem?_toArray, List.getElem?_cons_zero, List.getElem?_cons_succ, Option.some.injEq] at ho; subst ho; refine ⟨undef, Or.inr ⟨by rfl, rfl⟩, ?_⟩; try simp only [Act.put, List.setIfInBounds_toArray, List.set_cons_zero, List.set_cons_succ])
        (refine wpSeq_mov rfl rfl ?_; intro o ho; simp only [List.getElem?_toArray, List.getElem?_cons_zero, List.getElem?_cons_succ, Option.some.injEq] at ho; subst ho; refine ⟨undef, Or.inr ⟨by rfl, rfl⟩, ?_⟩; try simp only [Act.put, List.setIfInBounds_toArray, List.set_cons_zero, List.set_cons_succ])
        (refine wpSeq_mov rfl rfl ?_; intro o ho; simp only [List.getElem?_toArray, List.getElem?_cons_zero, List.getElem?_cons_succ, Option.some.injEq] at ho; subst ho; refine ⟨undef, Or.inr ⟨by rfl, rfl⟩, ?_⟩; try simp only [Act.put, List.setIfInBounds_toArray, List.set_cons_zero, List.set_cons_succ])
        (refine wpSeq_mov rfl rfl ?_; intro o ho; simp only [List.getElem?_toArray, List.getElem?_cons_zero, List.getElem?_cons_succ, Option.some.injEq] at ho; subst ho; refine ⟨undef, Or.inr ⟨by rfl, rfl⟩, ?_⟩; try simp only [Act.put, List.setIfInBounds_toArray, List.set_cons_zero, List.set_cons_succ])
        (refine wpSeq_mov rfl rfl ?_; intro o ho; simp only [List.getElem?_toArray, List.getElem?_cons_zero, List.getElem?_cons_succ, Option.some.injEq] at ho; subst ho; refine ⟨undef, Or.inr ⟨by rfl, rfl⟩, ?_⟩; try simp only [Act.put, List.setIfInBounds_toArray, List.set_cons_zero, List.set_cons_succ])
        (refine wpSeq_mov rfl rfl ?_; intro o ho; simp only [List.getElem?_toArray, List.getElem?_cons_zero, List.getElem?_cons_succ, Option.some.injEq] at ho; subst ho; refine ⟨?_, Or.inl ⟨by rfl, fun W hSW => ?_⟩, ?_⟩; rotate_left; (focus (go_simp; first | done | with_reducible rfl)); try simp only [Act.put, List.setIfInBounds_toArray, List.set_cons_zero, List.set_cons_succ])
        (refine wpSeq_mov rfl rfl ?_; intro o ho; simp only [List.getElem?_toArray, List.getElem?_cons_zero, List.getElem?_cons_succ, Option.some.injEq] at ho; subst ho; refine ⟨?_, Or.inl ⟨by rfl, fun W hSW => ?_⟩, ?_⟩; rotate_left; (focus (go_simp; first | done | with_reducible rfl)); try simp only [Act.put, List.setIfInBounds_toArray, List.set_cons_zero, List.set_cons_succ])
        (refine wpSeq_mov rfl rfl ?_; intro o ho; simp only [List.getElem?_toArray, List.getElem?_cons_zero, List.getElem?_cons_succ, Option.some.injEq] at ho; subst ho; refine ⟨undef, Or.inr ⟨by rfl, rfl⟩, ?_⟩; try simp only [Act.put, List.setIfInBounds_toArray, List.set_cons_zero, List.set_cons_succ])
        (refine wpSeq_mov rfl rfl ?_; intro o ho; simp only [List.getElem?_toArray, List.getElem?_cons_zero, List.getElem?_cons_succ, Option.some.injEq] at ho; subst ho; refine ⟨undef, Or.inr ⟨by rfl, rfl⟩, ?_⟩; try simp only [Act.put, List.setIfInBounds_toArray, List.set_cons_zero, List.set_cons_succ])
        (refine wpSeq_mov rfl rfl ?_; intro o ho; simp only [List.getElem?_toArray, List.getElem?_cons_zero, List.getElem?_cons_succ, Option.some.injEq] at ho; subst ho; refine ⟨undef, Or.inr ⟨by rfl, rfl⟩, ?_⟩; try simp only [Act.put, List.setIfInBounds_toArray, List.set_cons_zero, List.set_cons_succ])
        (refine wpSeq_mov rfl rfl ?_; intro o ho; simp only [List.getElem?_toArray, List.getElem?_cons_zero, List.getElem?_cons_succ, Option.some.injEq] at ho; subst ho; refine ⟨undef, Or.inr ⟨by rfl, rfl⟩, ?_⟩; try simp only [Act.put, List.setIfInBounds_toArray, List.set_cons_zero, List.set_cons_succ])
        (refine wpSeq_mov rfl rfl ?_; intro o ho; simp only [List.getElem?_toArray, List.getElem?_cons_zero, List.getElem?_cons_succ, Option.some.injEq] at ho; subst ho; refine ⟨undef, Or.inr ⟨by rfl, rfl⟩, ?_⟩; try simp only [Act.put, List.setIfInBounds_toArray, List.set_cons_zero, List.set_cons_succ])
        (refine wpSeq_mov rfl rfl ?_; intro o ho; simp only [List.getElem?_toArray, List.getElem?_cons_zero, List.getElem?_cons_succ, Option.some.injEq] at ho; subst ho; refine ⟨undef, Or.inr ⟨by rfl, rfl⟩, ?_⟩; try simp only [Act.put, List.setIfInBounds_toArray, List.set_cons_zero, List.set_cons_succ])
        (refine wpSeq_fix rfl rfl ?_; intro o ho; simp only [List.getElem?_toArray, List.getElem?_cons_zero, List.getElem?_cons_succ, Option.some.injEq] at ho; subst ho; intro K hK)
        go_simp
        (refine hK.out _ _ (fun _ => hSS) ?_; clear hK K; try simp only [Act.put, List.setIfInBounds_toArray, List.set_cons_zero, List.set_cons_succ])
        (refine wpSeq_mov rfl rfl ?_; intro o ho; simp only [List.getElem?_toArray, List.getElem?_cons_zero, List.getElem?_cons_succ, Option.some.injEq] at ho; subst ho; refine ⟨undef, Or.inr ⟨by rfl, rfl⟩, ?_⟩; try simp only [Act.put, List.setIfInBounds_toArray, List.set_cons_zero, List.set_cons_succ])
        (refine wpSeq_mov rfl rfl ?_; intro o ho; simp only [List.getElem?_toArray, List.getElem?_cons_zero, List.getElem?_cons_succ, Option.some.injEq] at ho; subst ho; refine ⟨undef, Or.inr ⟨by rfl, rfl⟩, ?_⟩; try simp only [Act.put, List.setIfInBounds_toArray, List.set_cons_zero, List.set_cons_succ])
        (refine wpSeq_mov rfl rfl ?_; intro o ho; simp only [List.getElem?_toArray, List.getElem?_cons_zero, List.getElem?_cons_succ, Option.some.injEq] at ho; subst ho; refine ⟨?_, Or.inl ⟨by rfl, fun W hSW => ?_⟩, ?_⟩; rotate_left; (focus (go_simp; first | done | with_reducible rfl)); try simp only [Act.put, List.setIfInBounds_toArray, List.set_cons_zero, List.set_cons_succ])
        refine wpSeq_done ?_
        go_wp2_with fail
        go_ret2
        refine ⟨?_, HB1.out.drew⟩
        rw [HE.out]
        rfl
end Go.Proofs.YtijecfmblddanaaDoor

set_option linter.unusedVariables false
set_option linter.unusedSimpArgs false
namespace Go.Proofs.YtijecfmblddanaaDoor
open Go.RowKit Go.Maps

def keyV : List Value := keyWords.map fun x => .string ⟨x.toArray⟩
theorem keyV_arr : keyV.toArray = (#[.string ⟨#[116, 114, 117, 101]⟩, .string ⟨#[102, 97, 108, 115, 101]⟩, .string ⟨#[69]⟩, .string ⟨#[65]⟩, .string ⟨#[69, 88]⟩, .string ⟨#[65, 88]⟩, .string ⟨#[69, 70]⟩, .string ⟨#[65, 70]⟩, .string ⟨#[69, 71]⟩, .string ⟨#[65, 71]⟩, .string ⟨#[85]⟩, .string ⟨#[82]⟩] : Array Value) := rfl

set_option maxHeartbeats 1000000 in
theorem rkey_any (s : ByteArray) (w : World) : Calls Tryd.prog 99 #[.string s] w (Ret w (.bool (keyB s.data.toList))) := by
  have hB := Blk.new w 9 keyV.toArray
  have hb := stepA w (.cells keyV.toArray 9)
  obtain ⟨w1, hw1⟩ : ∃ w1, w1 = w.alloc (.cells (#[.string ⟨#[116, 114, 117, 101]⟩, .string ⟨#[102, 97, 108, 115, 101]⟩, .string ⟨#[69]⟩, .string ⟨#[65]⟩, .string ⟨#[69, 88]⟩, .string ⟨#[65, 88]⟩, .string ⟨#[69, 70]⟩, .string ⟨#[65, 70]⟩, .string ⟨#[69, 71]⟩, .string ⟨#[65, 71]⟩, .string ⟨#[85]⟩, .string ⟨#[82]⟩] : Array Value) 9) := ⟨_, rfl⟩
  rw [keyV_arr, ← hw1] at hb
  have hB2 : Blk w1 w.heap.size 9 keyV.toArray := by rw [hw1]; exact hB
  have HW1 := Lib.hid hw1
  have HB := Lib.hid hb
  have HP := Lib.hid hB2
  clear hB hB2 hb hw1
  go_enter Tryd.func99, Tryd.ntmps99
  go_wp2_with fail
  rw [← HW1.out]
  go_loopw [4] (fun i wr => ∃ k : Nat, k ≤ 12 ∧ i = .int .i64 (k : Int) ∧ wr = w1 ∧ ∀ j x, j < k → keyWords[j]? = some x → (x == s.data.toList) = false) (fun i _ => 12 - (intOf i).toNat)
  case atStart => exact ⟨0, Nat.zero_le _, rfl, rfl, fun j x h => by omega⟩
  case round =>
    obtain ⟨k, hk, rfl, rfl, hall⟩ := hrel
    have HALL := Lib.hid hall
    clear hall
    by_cases hlt : k < 12
    · have hlt' : (k : Int) < 12 := by omega
      obtain ⟨x, hx⟩ : ∃ x, keyWords[k]? = some x := ⟨_, List.getElem?_eq_getElem (by simpa [keyWords] using hlt)⟩
      have hc : wr.cell? ⟨w.heap.size, k, none⟩ = some (.string ⟨x.toArray⟩) := by
        rw [HP.out.cell, List.getElem?_toArray]
        unfold keyV
        rw [List.getElem?_map, hx]
        rfl
      have hee : ((⟨x.toArray⟩ : ByteArray).toList == s.toList) = (x == s.data.toList) := by rw [Lib.toList_data, Lib.toList_data]
      have HX := Lib.hid hx
      clear hx
      generalize (⟨x.toArray⟩ : ByteArray) = X at hc hee
      cases he : (x == s.data.toList) with
      | true =>
        rw [he] at hee
        have HE : Hid (keyB s.data.toList = true) := Lib.hid (by
          unfold keyB
          have hm := List.mem_of_getElem? HX.out
          rw [beq_iff_eq] at he
          rw [← he]
          simpa using hm)
        clear he
        go_wp2_with fail
        go_ret
        rw [HE.out]
        exact ⟨rfl, HB.out⟩
      | false =>
        rw [he] at hee
        have HE := Lib.hid he
        clear he
        go_wp2_with fail
        go_roundw
        case rel =>
          refine ⟨k + 1, by omega, by go_num, (by first | rfl | trivial), fun j y hj hjy => ?_⟩
          by_cases e : j = k
          · subst e
            have := HX.out
            rw [this] at hjy
            cases hjy
            exact HE.out
          · exact HALL.out j y (by omega) hjy
        case measure => simp [intOf]; omega
    · obtain rfl : k = 12 := by omega
      have HE : Hid (keyB s.data.toList = false) := Lib.hid (by
        unfold keyB
        rw [Bool.eq_false_iff]
        intro h
        have hm : s.data.toList ∈ keyWords := by simpa using h
        obtain ⟨j, hj⟩ := List.getElem?_of_mem hm
        have := HALL.out j _ (by have := (List.getElem?_eq_some_iff.1 hj).1; simpa [keyWords] using this) hj
        simp at this)
      go_wp2_with fail
      go_ret
      rw [HE.out]
      exact ⟨rfl, HB.out⟩

set_option maxHeartbeats 1000000 in
theorem plain_any (s : ByteArray) (hs : s.size ≤ 9223372036854775806) (w : World) : Calls Tryd.prog 75 #[.string s] w (Ret w (.bool (plainB s.data.toList))) := by
  have hsz : s.data.toList.length = s.size := Array.length_toList
  have HSZ := Lib.hid hsz
  have HPL : Hid (plainB s.data.toList = (s.data.toList.all letterB && !keyB s.data.toList)) := Lib.hid rfl
  have HK := Lib.hid (fun w => rkey_any s w)
  clear hsz
  go_enter Tryd.func75, Tryd.ntmps75
  go_wp2_with fail
  go_loopw [3] (fun i wr => ∃ k : Nat, k ≤ s.size ∧ i = .int .i64 (k : Int) ∧ wr = w ∧ ∀ (j : Nat) (b : UInt8), j < k → s.data.toList[j]? = some b → letterB b = true) (fun i _ => s.size - (intOf i).toNat)
  case atStart => exact ⟨0, Nat.zero_le _, rfl, rfl, fun j b h => by omega⟩
  case round =>
    obtain ⟨k, hk, rfl, rfl, hall⟩ := hrel
    have HALL := Lib.hid hall
    clear hall
    by_cases hlt : k < s.size
    · have hlt' : (k : Int) < (s.size : Int) := by omega
      have hb : s.data.toList[k]? = some s[k] := by
        rw [List.getElem?_eq_getElem (by have := HSZ.out; omega)]
        rfl
      have HB := Lib.hid hb
      clear hb
      have hbl := s[k].toNat_lt
      have HLB : Hid (letterB s[k] = (decide (97 ≤ s[k].toNat) && decide (s[k].toNat ≤ 122) || decide (65 ≤ s[k].toNat) && decide (s[k].toNat ≤ 90) || decide (48 ≤ s[k].toNat) && decide (s[k].toNat ≤ 57) || decide (s[k].toNat = 95))) := Lib.hid rfl
      have HREL : Hid (letterB s[k] = true → ∀ (j : Nat) (b : UInt8), j < k + 1 → s.data.toList[j]? = some b → letterB b = true) := Lib.hid (fun h j b hj hjb => by
        by_cases e : j = k
        · subst e
          have := HB.out
          rw [this] at hjb
          cases hjb
          exact h
        · exact HALL.out j b (by omega) hjb)
      have HF : Hid (letterB s[k] = false → plainB s.data.toList = false) := Lib.hid (fun h => by rw [HPL.out, all_false_at HB.out h]; rfl)
      have hcase : ∃ lo hi : Nat, lo ≤ s[k].toNat ∧ s[k].toNat ≤ hi ∧ ((lo = 0 ∧ hi = 47) ∨ (lo = 48 ∧ hi = 57) ∨ (lo = 58 ∧ hi = 64) ∨ (lo = 65 ∧ hi = 90) ∨ (lo = 91 ∧ hi = 94) ∨ (lo = 95 ∧ hi = 95) ∨ (lo = 96 ∧ hi = 96) ∨ (lo = 97 ∧ hi = 122) ∨ (lo = 123 ∧ hi = 255)) := by
        by_cases h1 : s[k].toNat ≤ 47
        · exact ⟨0, 47, by omega, by omega, by omega⟩
        by_cases h2 : s[k].toNat ≤ 57
        · exact ⟨48, 57, by omega, by omega, by omega⟩
        by_cases h3 : s[k].toNat ≤ 64
        · exact ⟨58, 64, by omega, by omega, by omega⟩
        by_cases h4 : s[k].toNat ≤ 90
        · exact ⟨65, 90, by omega, by omega, by omega⟩
        by_cases h5 : s[k].toNat ≤ 94
        · exact ⟨91, 94, by omega, by omega, by omega⟩
        by_cases h6 : s[k].toNat ≤ 95
        · exact ⟨95, 95, by omega, by omega, by omega⟩
        by_cases h7 : s[k].toNat ≤ 96
        · exact ⟨96, 96, by omega, by omega, by omega⟩
        by_cases h8 : s[k].toNat ≤ 122
        · exact ⟨97, 122, by omega, by omega, by omega⟩
        exact ⟨123, 255, by omega, by omega, by omega⟩
      obtain ⟨lo, hi, hlo, hhi, hc⟩ := hcase
      rcases hc with ⟨rfl, rfl⟩ | ⟨rfl, rfl⟩ | ⟨rfl, rfl⟩ | ⟨rfl, rfl⟩ | ⟨rfl, rfl⟩ | ⟨rfl, rfl⟩ | ⟨rfl, rfl⟩ | ⟨rfl, rfl⟩ | ⟨rfl, rfl⟩
      · have HE := Lib.hid (HF.out (by rw [HLB.out]; simp only [Bool.or_eq_false_iff, Bool.and_eq_false_iff, decide_eq_false_iff_not]; omega))
        clear HREL HLB HF
        have hq : ((s[k].toNat : Int) == 95) = false := by first | (rw [beq_iff_eq]; omega) | (rw [beq_eq_false_iff_ne]; omega)
        go_wp2_with fail
        · go_ret
          rw [HE.out]
          exact ⟨rfl, Below.refl _ _⟩
        all_goals (exfalso; rename_i hx; simp only [Bool.not_eq_false', decide_eq_true_eq] at hx; omega)
      · have HR := Lib.hid (HREL.out (by rw [HLB.out]; simp only [Bool.or_eq_true, Bool.and_eq_true, decide_eq_true_eq]; omega))
        clear HREL HLB HF
        have hq : ((s[k].toNat : Int) == 95) = false := by first | (rw [beq_iff_eq]; omega) | (rw [beq_eq_false_iff_ne]; omega)
        go_wp2_with fail
        all_goals
          go_roundw
          case rel => exact ⟨k + 1, by omega, by go_num, (by first | rfl | trivial), HR.out⟩
          case measure => simp [intOf]; omega
      · have HE := Lib.hid (HF.out (by rw [HLB.out]; simp only [Bool.or_eq_false_iff, Bool.and_eq_false_iff, decide_eq_false_iff_not]; omega))
        clear HREL HLB HF
        have hq : ((s[k].toNat : Int) == 95) = false := by first | (rw [beq_iff_eq]; omega) | (rw [beq_eq_false_iff_ne]; omega)
        go_wp2_with fail
        · go_ret
          rw [HE.out]
          exact ⟨rfl, Below.refl _ _⟩
        all_goals (exfalso; rename_i hx; simp only [Bool.not_eq_false', decide_eq_true_eq] at hx; omega)
      · have HR := Lib.hid (HREL.out (by rw [HLB.out]; simp only [Bool.or_eq_true, Bool.and_eq_true, decide_eq_true_eq]; omega))
        clear HREL HLB HF
        have hq : ((s[k].toNat : Int) == 95) = false := by first | (rw [beq_iff_eq]; omega) | (rw [beq_eq_false_iff_ne]; omega)
        go_wp2_with fail
        all_goals
          go_roundw
          case rel => exact ⟨k + 1, by omega, by go_num, (by first | rfl | trivial), HR.out⟩
          case measure => simp [intOf]; omega
      · have HE := Lib.hid (HF.out (by rw [HLB.out]; simp only [Bool.or_eq_false_iff, Bool.and_eq_false_iff, decide_eq_false_iff_not]; omega))
        clear HREL HLB HF
        have hq : ((s[k].toNat : Int) == 95) = false := by first | (rw [beq_iff_eq]; omega) | (rw [beq_eq_false_iff_ne]; omega)
        go_wp2_with fail
        · go_ret
          rw [HE.out]
          exact ⟨rfl, Below.refl _ _⟩
        all_goals (exfalso; rename_i hx; simp only [Bool.not_eq_false', decide_eq_true_eq] at hx; omega)
      · have HR := Lib.hid (HREL.out (by rw [HLB.out]; simp only [Bool.or_eq_true, Bool.and_eq_true, decide_eq_true_eq]; omega))
        clear HREL HLB HF
        have hq : ((s[k].toNat : Int) == 95) = true := by first | (rw [beq_iff_eq]; omega) | (rw [beq_eq_false_iff_ne]; omega)
        go_wp2_with fail
        all_goals
          go_roundw
          case rel => exact ⟨k + 1, by omega, by go_num, (by first | rfl | trivial), HR.out⟩
          case measure => simp [intOf]; omega
      · have HE := Lib.hid (HF.out (by rw [HLB.out]; simp only [Bool.or_eq_false_iff, Bool.and_eq_false_iff, decide_eq_false_iff_not]; omega))
        clear HREL HLB HF
        have hq : ((s[k].toNat : Int) == 95) = false := by first | (rw [beq_iff_eq]; omega) | (rw [beq_eq_false_iff_ne]; omega)
        go_wp2_with fail
        · go_ret
          rw [HE.out]
          exact ⟨rfl, Below.refl _ _⟩
        all_goals (exfalso; rename_i hx; simp only [Bool.not_eq_false', decide_eq_true_eq] at hx; omega)
      · have HR := Lib.hid (HREL.out (by rw [HLB.out]; simp only [Bool.or_eq_true, Bool.and_eq_true, decide_eq_true_eq]; omega))
        clear HREL HLB HF
        have hq : ((s[k].toNat : Int) == 95) = false := by first | (rw [beq_iff_eq]; omega) | (rw [beq_eq_false_iff_ne]; omega)
        go_wp2_with fail
        all_goals
          go_roundw
          case rel => exact ⟨k + 1, by omega, by go_num, (by first | rfl | trivial), HR.out⟩
          case measure => simp [intOf]; omega
      · have HE := Lib.hid (HF.out (by rw [HLB.out]; simp only [Bool.or_eq_false_iff, Bool.and_eq_false_iff, decide_eq_false_iff_not]; omega))
        clear HREL HLB HF
        have hq : ((s[k].toNat : Int) == 95) = false := by first | (rw [beq_iff_eq]; omega) | (rw [beq_eq_false_iff_ne]; omega)
        go_wp2_with fail
        · go_ret
          rw [HE.out]
          exact ⟨rfl, Below.refl _ _⟩
        all_goals (exfalso; rename_i hx; simp only [Bool.not_eq_false', decide_eq_true_eq] at hx; omega)
    · obtain rfl : k = s.size := by omega
      have hall2 : s.data.toList.all letterB = true := all_of fun j b hb => HALL.out j b (by have := (List.getElem?_eq_some_iff.1 hb).1; have := HSZ.out; omega) hb
      have HE : Hid (plainB s.data.toList = !keyB s.data.toList) := Lib.hid (by rw [HPL.out, hall2, Bool.true_and])
      clear hall2
      generalize keyB s.data.toList = kk at HE HK
      go_wp2_with fail
      refine (HK.out _).mono ?_
      rintro e w2 ⟨rfl, hb2⟩
      have HB2 := Lib.hid hb2
      clear hb2
      go_wp2_with fail
      go_ret
      rw [HE.out]
      exact ⟨rfl, HB2.out⟩
end Go.Proofs.YtijecfmblddanaaDoor

set_option linter.unusedVariables false
namespace Go.Proofs.YtijecfmblddanaaDoor
open Go.Shelf Go.RowKit

def bren : Go.Shelf.Ren := ⟨fun | 166 => 59 | 167 => 61 | 169 => 45 | 240 => 78 | 276 => 100 | n => n, fun | 0 => 0 | 3 => 3 | 4 => 4 | 5 => 5 | 9 => 9 | 20 => 20 | 37 => 24 | 70 => 61 | 72 => 63 | 75 => 88 | 80 => 67 | 127 => 95 | 164 => 120 | n => n, fun n => n⟩
theorem lays166 : Lays.n166 Tryd.prog bren where
  mixed := by kernel_rfl
  f166 := Tryd.func59.trans (congrArg some (by kernel_rfl))
  f240 := Tryd.func78.trans (congrArg some (by kernel_rfl))
  f276 := Tryd.func100.trans (congrArg some (by kernel_rfl))
  t0 := Tryd.underlying0
  a0 := Tryd.isAgg0
  z0 := Tryd.sizeOf0
  v0 := Tryd.zeroValue0
  t3 := Tryd.underlying3
  a3 := Tryd.isAgg3
  z3 := Tryd.sizeOf3
  v3 := Tryd.zeroValue3
  t4 := Tryd.underlying4
  a4 := Tryd.isAgg4
  z4 := Tryd.sizeOf4
  v4 := Tryd.zeroValue4
  t9 := Tryd.underlying9
  a9 := Tryd.isAgg9
  z9 := Tryd.sizeOf9
  v9 := Tryd.zeroValue9
  t20 := Tryd.underlying20
  a20 := Tryd.isAgg20
  z20 := Tryd.sizeOf20
  v20 := Tryd.zeroValue20
  t37 := Tryd.underlying24
  a37 := Tryd.isAgg24
  z37 := Tryd.sizeOf24
  v37 := Tryd.zeroValue24
  t70 := Tryd.underlying61
  a70 := Tryd.isAgg61
  z70 := Tryd.sizeOf61
  v70 := Tryd.zeroValue61
  t72 := Tryd.underlying63
  a72 := Tryd.isAgg63
  z72 := Tryd.sizeOf63
  v72 := Tryd.zeroValue63
  t75 := Tryd.underlying88
  a75 := Tryd.isAgg88
  z75 := Tryd.sizeOf88
  v75 := Tryd.zeroValue88
  t164 := Tryd.underlying120
  a164 := Tryd.isAgg120
  z164 := Tryd.sizeOf120
  v164 := Tryd.zeroValue120
theorem lays167 : Lays.n167 Tryd.prog bren where
  mixed := by kernel_rfl
  f167 := Tryd.func61.trans (congrArg some (by kernel_rfl))
  f240 := Tryd.func78.trans (congrArg some (by kernel_rfl))
  f276 := Tryd.func100.trans (congrArg some (by kernel_rfl))
  t0 := Tryd.underlying0
  a0 := Tryd.isAgg0
  z0 := Tryd.sizeOf0
  v0 := Tryd.zeroValue0
  t4 := Tryd.underlying4
  a4 := Tryd.isAgg4
  z4 := Tryd.sizeOf4
  v4 := Tryd.zeroValue4
  t5 := Tryd.underlying5
  a5 := Tryd.isAgg5
  z5 := Tryd.sizeOf5
  v5 := Tryd.zeroValue5
  t9 := Tryd.underlying9
  a9 := Tryd.isAgg9
  z9 := Tryd.sizeOf9
  v9 := Tryd.zeroValue9
  t20 := Tryd.underlying20
  a20 := Tryd.isAgg20
  z20 := Tryd.sizeOf20
  v20 := Tryd.zeroValue20
  t37 := Tryd.underlying24
  a37 := Tryd.isAgg24
  z37 := Tryd.sizeOf24
  v37 := Tryd.zeroValue24
  t70 := Tryd.underlying61
  a70 := Tryd.isAgg61
  z70 := Tryd.sizeOf61
  v70 := Tryd.zeroValue61
  t72 := Tryd.underlying63
  a72 := Tryd.isAgg63
  z72 := Tryd.sizeOf63
  v72 := Tryd.zeroValue63
  t75 := Tryd.underlying88
  a75 := Tryd.isAgg88
  z75 := Tryd.sizeOf88
  v75 := Tryd.zeroValue88
  t164 := Tryd.underlying120
  a164 := Tryd.isAgg120
  z164 := Tryd.sizeOf120
  v164 := Tryd.zeroValue120
theorem lays169 : Lays.n169 Tryd.prog bren where
  mixed := by kernel_rfl
  f169 := Tryd.func45.trans (congrArg some (by kernel_rfl))
  t0 := Tryd.underlying0
  a0 := Tryd.isAgg0
  z0 := Tryd.sizeOf0
  v0 := Tryd.zeroValue0
  t3 := Tryd.underlying3
  a3 := Tryd.isAgg3
  z3 := Tryd.sizeOf3
  v3 := Tryd.zeroValue3
  t9 := Tryd.underlying9
  a9 := Tryd.isAgg9
  z9 := Tryd.sizeOf9
  v9 := Tryd.zeroValue9
  t37 := Tryd.underlying24
  a37 := Tryd.isAgg24
  z37 := Tryd.sizeOf24
  v37 := Tryd.zeroValue24
  t70 := Tryd.underlying61
  a70 := Tryd.isAgg61
  z70 := Tryd.sizeOf61
  v70 := Tryd.zeroValue61
  t72 := Tryd.underlying63
  a72 := Tryd.isAgg63
  z72 := Tryd.sizeOf63
  v72 := Tryd.zeroValue63
  t127 := Tryd.underlying95
  a127 := Tryd.isAgg95
  z127 := Tryd.sizeOf95
  v127 := Tryd.zeroValue95
theorem bextra : Builder.Extra Tryd.prog bren where
  sizeBuilder := by kernel_rfl
  liesBuilder := by kernel_rfl
  t5 := Tryd.underlying5
  a5 := Tryd.isAgg5
  z5 := Tryd.sizeOf5
  v5 := Tryd.zeroValue5
  infoByte := by kernel_rfl
  cellsByte := by kernel_rfl
  sizeByte := by kernel_rfl
  neB5 := by decide

/-- The builder in block b holds these bytes. -/
def IsB (B b : Nat) (l : List UInt8) (w : World) : Prop := Lib.IsBuilderF 63 5 B b (Lib.byteCells l) w
/-- All blocks but the builder's and rows of bytes are as they were. -/
def Oth (b : Nat) (w w' : World) : Prop := Lib.OthersKept 5 (some b) w w'

theorem byteCells_length (l : List UInt8) : (Lib.byteCells l).length = l.length := by simp [Lib.byteCells]
theorem writeString_any (B b : Nat) (l : List UInt8) (s : ByteArray) (w : World) (h : IsB B b l w) (hlen : l.length + s.size ≤ 140737488355328) (hBw : B ≤ w.heap.size) :
    Calls Tryd.prog 59 #[.pointer (some ⟨b, 0, none⟩), .string s] w fun e w' => e = .returned (.tuple #[.int .i64 s.size, .nilIface]) ∧ IsB B b (l ++ s.data.toList) w' ∧ Below B w w' ∧ Oth b w w' := by
  refine Calls.mono (Any.Builder_WriteString_k lays166 bextra B b (Lib.byteCells l) s w h (by rw [byteCells_length]; exact hlen) hBw) ?_
  rintro e w' ⟨rfl, h1, h2, h3⟩
  refine ⟨rfl, .inr ?_, h2, h3⟩
  have e : Lib.byteCells (l ++ s.data.toList) = Lib.byteCells l ++ Lib.strCells s := by
    simp [Lib.byteCells, Lib.strCells]
  rw [e]
  exact h1
theorem writeByte_any (B b : Nat) (l : List UInt8) (c : UInt8) (w : World) (h : IsB B b l w) (hlen : l.length + 1 ≤ 140737488355328) (hBw : B ≤ w.heap.size) :
    Calls Tryd.prog 61 #[.pointer (some ⟨b, 0, none⟩), .int .u8 (c.toNat : Int)] w fun e w' => e = .returned .nilIface ∧ IsB B b (l ++ [c]) w' ∧ Below B w w' ∧ Oth b w w' := by
  refine Calls.mono (Any.Builder_WriteByte_k lays167 bextra B b (Lib.byteCells l) c.toNat w h (by rw [byteCells_length]; exact hlen) hBw) ?_
  rintro e w' ⟨rfl, h1, h2, h3⟩
  refine ⟨rfl, .inr ?_, h2, h3⟩
  have e : Lib.byteCells (l ++ [c]) = Lib.byteCells l ++ [.int .u8 (c.toNat : Int)] := by
    simp [Lib.byteCells]
  rw [e]
  exact h1
theorem string_any (B b : Nat) (l : List UInt8) (w : World) (h : IsB B b l w) (hBw : B ≤ w.heap.size) :
    Calls Tryd.prog 45 #[.pointer (some ⟨b, 0, none⟩)] w fun e w' => e = .returned (.string ⟨l.toArray⟩) ∧ Below B w w' := by
  refine Calls.mono (Any.Builder_String_any_k lays169 bextra B b l w h hBw) ?_
  rintro e w' ⟨rfl, _, h2, _⟩
  exact ⟨rfl, h2⟩
end Go.Proofs.YtijecfmblddanaaDoor

set_option linter.unusedVariables false
set_option linter.unusedSimpArgs false
namespace Go.Proofs.YtijecfmblddanaaDoor
open Go.RowKit Go.Maps

def keyBA : List ByteArray := keyWords.map fun x => ⟨x.toArray⟩
theorem keyBA_iff (s : ByteArray) : Lib.containsS (keyBA.take 12) s = keyB s.data.toList := by
  rw [Bool.eq_iff_iff, Lib.containsS_iff]
  unfold keyB
  have h12 : keyBA.take 12 = keyBA := rfl
  rw [h12, List.contains_iff_mem]
  unfold keyBA
  rw [List.mem_map]
  constructor
  · rintro ⟨x, hx, rfl⟩
    simpa using hx
  · intro h
    exact ⟨s.data.toList, h, rfl⟩

set_option maxHeartbeats 1000000 in
theorem key_any (s : ByteArray) (w : World) : Calls Tryd.prog 80 #[.string s] w (Ret w (.bool (keyB s.data.toList))) := by
  have hB := Blk.new w 9 keyV.toArray
  have hb := stepA w (.cells keyV.toArray 9)
  obtain ⟨w1, hw1⟩ : ∃ w1, w1 = w.alloc (.cells (#[.string ⟨#[116, 114, 117, 101]⟩, .string ⟨#[102, 97, 108, 115, 101]⟩, .string ⟨#[69]⟩, .string ⟨#[65]⟩, .string ⟨#[69, 88]⟩, .string ⟨#[65, 88]⟩, .string ⟨#[69, 70]⟩, .string ⟨#[65, 70]⟩, .string ⟨#[69, 71]⟩, .string ⟨#[65, 71]⟩, .string ⟨#[85]⟩, .string ⟨#[82]⟩] : Array Value) 9) := ⟨_, rfl⟩
  rw [keyV_arr, ← hw1] at hb
  have hB2 : Blk w1 w.heap.size 9 keyV.toArray := by rw [hw1]; exact hB
  have hcall : Calls Tryd.prog 101 #[.slice (some ⟨w.heap.size, 0, none⟩) 12 12, .string s] w1 (fun e w' => e = .returned (.bool (keyB s.data.toList)) ∧ w' = w1) := by
    have h := Any.slices_Contains_string Tryd.lays110 w.heap.size 0 12 12 keyBA s w1 (by decide) (by decide) (fun j hj => by
      rw [hB2.cell, List.getElem?_toArray]
      have hj2 : j < 12 := hj
      have hx : keyBA[j]? = some (keyBA.getD j ByteArray.empty) := by
        rw [List.getD_eq_getElem?_getD, List.getElem?_eq_getElem hj]; rfl
      have hv : keyV = keyBA.map Value.string := rfl
      rw [hv, List.getElem?_map, Nat.zero_add, hx]
      rfl)
    rw [keyBA_iff] at h
    exact h
  generalize keyB s.data.toList = kk at hcall ⊢
  have HW1 := Lib.hid hw1
  have HB := Lib.hid hb
  have HC := Lib.hid hcall
  clear hcall hB hB2 hb hw1
  go_enter Tryd.func80, Tryd.ntmps80
  go_wp2_with fail
  rw [← HW1.out]
  refine HC.out.mono ?_
  rintro e w2 ⟨rfl, rfl⟩
  go_wp2_with fail
  go_ret
  exact ⟨rfl, HB.out⟩

/-- A rune that a name cannot stand with without quotes. -/
def oddN (n : Nat) : Bool := !(decide (97 ≤ n) && decide (n ≤ 122) || decide (65 ≤ n) && decide (n ≤ 90) || decide (48 ≤ n) && decide (n ≤ 57) || decide (n = 95))
theorem oddN_byte (c : UInt8) : oddN c.toNat = !letterB c := rfl

set_option maxHeartbeats 400000 in
theorem odd_any (n : Nat) (w : World) : Calls Tryd.prog 79 #[.int .i32 (n : Int)] w fun e w' => e = .returned (.bool (oddN n)) ∧ w' = w := by
  unfold oddN
  go_enter Tryd.func79, Tryd.ntmps79
  go_wp2_with fail
  all_goals go_ret
  all_goals (refine ⟨congrArg Ending.returned (congrArg Value.bool ?_), rfl⟩)
  all_goals (rw [Bool.eq_iff_iff]; simp only [Bool.not_eq_true', Bool.or_eq_false_iff, Bool.and_eq_false_iff, decide_eq_false_iff_not, Bool.not_eq_true, beq_eq_false_iff_ne, true_iff, ne_eq, Bool.or_eq_true, Bool.and_eq_true, decide_eq_true_eq, beq_iff_eq, Bool.false_eq_true, false_iff, Bool.true_eq_false, Bool.false_eq_true, iff_false, iff_true]; omega)

theorem idxFuncFrom_ascii (s : ByteArray) (ha : ∀ b ∈ s.data.toList, b.toNat < 128) : ∀ (f pos : Nat), s.size ≤ pos + f → (decide (0 ≤ Lib.idxFuncFrom oddN true s f pos) = !((s.data.toList.drop pos).all letterB))
  | 0, pos, h => by
    have hl : s.data.toList.length = s.size := Array.length_toList
    rw [List.drop_eq_nil_of_le (by omega)]
    rfl
  | f + 1, pos, h => by
    have hl : s.data.toList.length = s.size := Array.length_toList
    unfold Lib.idxFuncFrom
    by_cases hp : pos < s.size
    · have hd : s.data.toList.drop pos = s[pos] :: s.data.toList.drop (pos + 1) := by
        rw [List.drop_eq_getElem_cons (by omega)]
        rfl
      have hmem : s[pos] ∈ s.data.toList := by
        have : s[pos] ∈ s.data.toList.drop pos := by rw [hd]; exact List.mem_cons_self
        exact List.mem_of_mem_drop this
      rw [if_pos hp, decode_ascii s pos hp (ha _ hmem), hd, List.all_cons]
      show decide (0 ≤ if oddN s[pos].toNat = true then (pos : Int) else Lib.idxFuncFrom oddN true s f (pos + 1)) = _
      rw [oddN_byte]
      cases letterB s[pos] with
      | true =>
        rw [if_neg (by simp), idxFuncFrom_ascii s ha f (pos + 1) (by omega), Bool.true_and]
      | false =>
        rw [if_pos (by simp)]
        simp
    · rw [if_neg hp, List.drop_eq_nil_of_le (by omega)]
      rfl

theorem indexFunc_any (s : ByteArray) (ha : ∀ b ∈ s.data.toList, b.toNat < 128) (w : World) : ∃ i : Int, (decide (0 ≤ i) = !(s.data.toList.all letterB)) ∧ Calls Tryd.prog 81 #[.string s, .func (.func 79) #[] #[]] w (Ret w (.int .i64 i)) := by
  refine ⟨Lib.idxFunc oddN true s, ?_, ?_⟩
  · have h := idxFuncFrom_ascii s ha s.size 0 (by omega)
    exact h
  · have h := Any.strings_IndexFunc Tryd.laysGw15 79 #[] (enters_of Tryd.func79 (by kernel_rfl) rfl) oddN s w (fun W x hb => Calls.mono (odd_any x W) (by rintro e w' ⟨rfl, rfl⟩; exact ⟨rfl, 0, rfl⟩))
    exact h

set_option maxHeartbeats 1000000 in
theorem atom_any (s : ByteArray) (ha : ∀ b ∈ s.data.toList, b.toNat < 128) (hs : s.size ≤ 140737488355328) (w : World) : Calls Tryd.prog 60 #[.string s] w fun e w' => ∃ t : ByteArray, e = .returned (.string t) ∧ t.data.toList = atomT s.data.toList ∧ Below w.heap.size w w' := by
  have HI := Lib.hid (fun w => indexFunc_any s ha w)
  have HK := Lib.hid (fun w => key_any s w)
  have HT : Hid (atomT s.data.toList = if s.data.toList.all letterB && !keyB s.data.toList then s.data.toList else 34 :: (s.data.toList ++ [34])) := Lib.hid rfl
  clear ha
  generalize keyB s.data.toList = kk at HK HT
  generalize s.data.toList.all letterB = aa at HI HT
  go_enter Tryd.func60, Tryd.ntmps60
  go_wp2_with fail
  refine (HK.out _).mono ?_
  rintro e w2 ⟨rfl, hb2⟩
  have HB2 := Lib.hid hb2
  clear hb2
  cases kk with
  | true =>
    go_wp2_with fail
    go_ret
    refine ⟨_, rfl, ?_, HB2.out⟩
    rw [HT.out]
    simp
  | false =>
    obtain ⟨i, hi, hcall⟩ := HI.out w2
    have HCA := Lib.hid hcall
    have HII := Lib.hid hi
    clear hi hcall
    go_wp2_with fail
    refine HCA.out.mono ?_
    rintro e w3 ⟨rfl, hb3⟩
    have hb23 := HB2.out.trans (hb3.mono HB2.out.size)
    have HB3 := Lib.hid hb23
    clear hb3 hb23
    have hi := HII.out
    cases aa with
    | true =>
      have hn : i < 0 := by simpa using hi
      clear hi
      go_wp2_with fail
      go_ret
      refine ⟨_, rfl, ?_, HB3.out⟩
      rw [HT.out]
      simp
    | false =>
      have hn : 0 ≤ i := by simpa using hi
      clear hi
      go_wp2_with fail
      go_ret
      refine ⟨_, rfl, ?_, HB3.out⟩
      rw [HT.out]
      simp
end Go.Proofs.YtijecfmblddanaaDoor

set_option linter.unusedVariables false
set_option linter.unusedSimpArgs false
namespace Go.Proofs.YtijecfmblddanaaDoor
open Go.RowKit Go.Maps

section
variable {w w' w'' : World} {B b x : Nat} {l l' : List UInt8}
theorem IsB.lt (h : IsB B b l w) : b < w.heap.size := h.elim (fun h => h.lt) (fun h => h.lt)
theorem atF_after {T e : TypeId} {p : Value} {bs : List Value} (h : Lib.BuilderAtF T e B b p bs w) (hb : Below w.heap.size w w') : Lib.BuilderAtF T e B b p bs w' := by
  have hlt := h.lt
  obtain ⟨hB, v, h1, h2, h3⟩ := h
  exact ⟨hB, v, (hb.block b hlt).trans h1, h2.kept (below_grown hb none) (by cases v.ownBlock <;> simp), h3⟩
theorem IsB.after (h : IsB B b l w) (hb : Below w.heap.size w w') : IsB B b l w' := h.elim (fun h => .inl (atF_after h hb)) (fun h => .inr (atF_after h hb))
theorem oth_after (hb : Below w.heap.size w w') : Oth b w w' := fun k o h _ _ => (hb.block k (Array.getElem?_eq_some_iff.1 h).1).trans h
theorem Blk.oth {T : TypeId} {cs : Array Value} (h : Blk w x T cs) (hT : T ≠ 5) (hx : x ≠ b) (ho : Oth b w w') : Blk w' x T cs :=
  ho x _ h (fun e => hx (Option.some.inj e)) (fun c fz e => by cases e; exact hT rfl)
theorem IMap.oth {k : TypeId} {n : Nat} {f : Int → Option Value} (h : IMap Tryd.prog k w x n f) (hx : x ≠ b) (ho : Oth b w w') : IMap Tryd.prog k w' x n f := by
  refine h.same ?_
  obtain ⟨D, ⟨es, clock, h1, _⟩, _⟩ := h
  rw [h1]
  exact ho x _ h1 (fun e => hx (Option.some.inj e)) (fun c fz e => by cases e)

theorem IMap.al {k : TypeId} {n : Nat} {f : Int → Option Value} (h : IMap Tryd.prog k w x n f) (o : Obj) : IMap Tryd.prog k (w.alloc o) x n f := GMap.alloc h o

/-- What a writing into the builder leaves. -/
structure Wr (B b : Nat) (l : List UInt8) (w w' : World) : Prop where
  isB : IsB B b l w'
  low : Below B w w'
  oth : Oth b w w'
theorem Wr.of (h : IsB B b l w) : Wr B b l w w := ⟨h, Below.refl _ _, Lib.OthersKept.refl _ _ _⟩
theorem Wr.step (h : Wr B b l w w') (h' : Wr B b l' w' w'') : Wr B b l' w w'' := ⟨h'.isB, h.low.trans h'.low, h.oth.trans h'.oth⟩
theorem Wr.after (h : Wr B b l w w') (hB : B ≤ w.heap.size) (hb : Below w'.heap.size w' w'') : Wr B b l w w'' :=
  ⟨h.isB.after hb, h.low.trans (hb.mono (Nat.le_trans hB h.low.size)), h.oth.trans (oth_after hb)⟩
end

theorem wr_str (B b : Nat) (l t : List UInt8) (w : World) (h : IsB B b l w) (hlen : l.length + t.length ≤ 140737488355328) (hBw : B ≤ w.heap.size) :
    Calls Tryd.prog 59 #[.pointer (some ⟨b, 0, none⟩), .string ⟨t.toArray⟩] w fun e w' => e = .returned (.tuple #[.int .i64 (t.length : Int), .nilIface]) ∧ Wr B b (l ++ t) w w' := by
  refine Calls.mono (writeString_any B b l ⟨t.toArray⟩ w h (by show l.length + t.toArray.size ≤ _; rw [List.size_toArray]; exact hlen) hBw) ?_
  rintro e w' ⟨rfl, h1, h2, h3⟩
  refine ⟨?_, h1, h2, h3⟩
  show Ending.returned (.tuple #[.int .i64 (t.toArray.size : Int), .nilIface]) = _
  rw [List.size_toArray]
theorem wr_open (B b : Nat) (l : List UInt8) (w : World) (h : IsB B b l w) (hlen : l.length + 1 ≤ 140737488355328) (hBw : B ≤ w.heap.size) :
    Calls Tryd.prog 61 #[.pointer (some ⟨b, 0, none⟩), .int .u8 40] w fun e w' => e = .returned .nilIface ∧ Wr B b (l ++ [40]) w w' :=
  Calls.mono (writeByte_any B b l 40 w h hlen hBw) fun e w' h => ⟨h.1, h.2.1, h.2.2.1, h.2.2.2⟩
theorem wr_close (B b : Nat) (l : List UInt8) (w : World) (h : IsB B b l w) (hlen : l.length + 1 ≤ 140737488355328) (hBw : B ≤ w.heap.size) :
    Calls Tryd.prog 61 #[.pointer (some ⟨b, 0, none⟩), .int .u8 41] w fun e w' => e = .returned .nilIface ∧ Wr B b (l ++ [41]) w w' :=
  Calls.mono (writeByte_any B b l 41 w h hlen hBw) fun e w' h => ⟨h.1, h.2.1, h.2.2.1, h.2.2.2⟩

theorem joinB_more (b : List UInt8) (x y : List (List UInt8)) : ∃ r, joinB b (x ++ y) = joinB b x ++ r := by
  cases x with
  | nil => exact ⟨_, rfl⟩
  | cons a x => exact ⟨y.flatMap fun y => b ++ y, by simp [joinB, List.flatMap_append]⟩
theorem joinB_take_le (b : List UInt8) (l : List (List UInt8)) (k : Nat) : (joinB b (l.take k)).length ≤ (joinB b l).length := by
  obtain ⟨r, hr⟩ := joinB_more b (l.take k) (l.drop k)
  rw [List.take_append_drop] at hr
  rw [hr, List.length_append]
  omega

/-- What a right formula's kind and parts are. -/
theorem wf_parts {f : Fm} {d : Int} (h : f.wf d = true) : (1 ≤ f.kind ∧ f.kind ≤ 18) ∧ (f.kids.length : Int) = nk f.kind ∧ (f.kind = 3 → wordB f.name = true) ∧ ∀ k, k ∈ f.kids → k.wf (d - 1) = true := by
  rw [f.wf_eq] at h
  simp only [Bool.and_eq_true, decide_eq_true_eq] at h
  obtain ⟨⟨⟨⟨h1, h2⟩, h3⟩, h4⟩, h5⟩ := h
  refine ⟨?_, h2.symm, fun e => by rw [if_pos e] at h4; exact h4, fun k hk => ?_⟩
  · have hn : 0 ≤ nk f.kind := by rw [h2]; omega
    unfold nk at hn
    by_cases hc : f.kind < 1 ∨ 18 < f.kind
    · rw [if_pos hc] at hn
      omega
    · omega
  · rw [wfL_all, List.all_eq_true] at h5
    exact h5 k hk
theorem word_ascii {l : List UInt8} (h : wordB l = true) : ∀ b ∈ l, b.toNat < 128 := by
  intro b hb
  rw [wordB_eq, Bool.and_eq_true, Bool.and_eq_true, List.all_eq_true] at h
  have := h.1.1 b hb
  unfold wByte at this
  simp only [Bool.and_eq_true, decide_eq_true_eq] at this
  omega

/-- What text leaves. -/
def TextPost (B b : Nat) (l : List UInt8) (w : World) (e : Ending) (w' : World) : Prop := e = .returned (.tuple #[]) ∧ Wr B b l w w'

set_option maxRecDepth 100000 in
set_option maxHeartbeats 4000000 in
theorem text_any : ∀ (n : Nat) (f : Fm), f.sz < n → ∀ (d : Int), f.wf d = true → ∀ (w : World) (mb B b : Nat) (l : List UInt8) (A : Option Addr) (c : Nat), IMap Tryd.prog 3 w mb 17 shapeF → mb ≠ b → IsB B b l w → B ≤ w.heap.size → FmV w B f A c → l.length + f.txt.length ≤ 140737488355328 →
    Calls Tryd.prog 43 #[.pointer (some ⟨b, 0, none⟩), .map (some mb), fmA f A c] w (TextPost B b (l ++ f.txt) w)
  | 0, f, h => by omega
  | n + 1, f, hn => by
    intro d hwf w mb B b l A c hm hmb hB hBw hf hlen
    obtain ⟨⟨hk1, hk2⟩, hkn, hkw, hkk⟩ := wf_parts hwf
    have HIH := Lib.hid (text_any n)
    have hblt := hB.lt
    have hb1 := stepA w (.cells #[.int .i64 f.kind, .string ⟨f.name.toArray⟩, .int .i64 f.lit, .slice A f.kids.length c] 37)
    have HT := Lib.hid (Blk.new w 37 #[.int .i64 f.kind, .string ⟨f.name.toArray⟩, .int .i64 f.lit, .slice A f.kids.length c])
    have HW1 := Lib.hid ((Wr.of hB).after hBw hb1)
    have HM1 := Lib.hid (hm.al (.cells #[.int .i64 f.kind, .string ⟨f.name.toArray⟩, .int .i64 f.lit, .slice A f.kids.length c] 37))
    have HF1 := Lib.hid (hf.low (hb1.mono hBw))
    have HB1 := Lib.hid hb1
    have hf0 := hf
    clear hb1 hm hf hB
    unfold fmA at *
    by_cases hK : f.kind = 3
    · have hK' : (f.kind == 3) = true := by simp [hK]
      have HTX : Hid (f.txt = atomT f.name) := Lib.hid (by rw [f.txt_eq, if_pos hK])
      have hwd := hkw hK
      have HWA := Lib.hid (fun w => atom_any ⟨f.name.toArray⟩ (word_ascii hwd) (by show f.name.toArray.size ≤ _; rw [List.size_toArray]; have := HF1.out.name; omega) w)
      have e0 := HT.out.cell 0
      have e1 := HT.out.cell 1
      rw [HTX.out] at hlen
      clear hK hwd hkw hkk hkn
      go_enter Tryd.func43, Tryd.ntmps43
      go_wp2_with fail
      refine (HWA.out _).mono ?_
      rintro e w2 ⟨t, rfl, ht, hb2⟩
      obtain ⟨tl⟩ := t
      obtain ⟨tl⟩ := tl
      have ht2 : tl = atomT f.name := ht
      have HW2 := Lib.hid (HW1.out.after hBw hb2)
      have HTL := Lib.hid ht2
      have hsz2 := HW2.out.low.size
      clear ht ht2 hb2
      go_wp2_with fail
      refine (wr_str B b l tl w2 HW2.out.isB (by rw [HTL.out]; exact hlen) (by omega)).mono ?_
      rintro e w3 ⟨rfl, h3⟩
      have HW3 := Lib.hid (HW2.out.step h3)
      clear h3
      go_wp2_with fail
      (try simp only [Exit.inBlock, Exit.then])
      refine bodyPost_ret (results_none rfl _ _ _) rfl ?_
      rw [HTX.out, ← HTL.out]
      exact ⟨rfl, HW3.out⟩
    · have hK' : (f.kind == 3) = false := by simpa using hK
      have hsh : shapeF f.kind = some (shapeV f.kind) := by unfold shapeF; rw [if_pos ⟨⟨hk1, hk2⟩, hK⟩]
      have hlk := HM1.out.look Tryd.underlying3 Tryd.underlying65 (zeroShape _) (i := f.kind) (by omega) (by omega)
      rw [hsh] at hlk
      unfold shapeV at hlk
      simp only [Option.getD_some] at hlk
      have HTX : Hid (f.txt = (shp f.kind).1 ++ (joinB (shp f.kind).2.1 (f.kids.map Fm.part) ++ (shp f.kind).2.2)) := Lib.hid (by rw [f.txt_eq, if_neg hK])
      have hlen2 := hlen
      rw [HTX.out, List.length_append, List.length_append] at hlen2
      have HLEN := Lib.hid hlen2
      have HKK := Lib.hid hkk
      have e0 := HT.out.cell 0
      have e3 := HT.out.cell 3
      have hkb : f.kids.length ≤ 140737488355328 := by have := HF1.out.cap; have := HF1.out.big; omega
      have hb2 := stepA (w.alloc (.cells #[.int .i64 f.kind, .string ⟨f.name.toArray⟩, .int .i64 f.lit, .slice A f.kids.length c] 37)) (.cells #[.int .i64 (nk f.kind), .string ⟨(shp f.kind).1.toArray⟩, .string ⟨(shp f.kind).2.1.toArray⟩, .string ⟨(shp f.kind).2.2.toArray⟩] 93)
      have hS := Blk.new (w.alloc (.cells #[.int .i64 f.kind, .string ⟨f.name.toArray⟩, .int .i64 f.lit, .slice A f.kids.length c] 37)) 93 #[.int .i64 (nk f.kind), .string ⟨(shp f.kind).1.toArray⟩, .string ⟨(shp f.kind).2.1.toArray⟩, .string ⟨(shp f.kind).2.2.toArray⟩]
      have hT2 := HT.out.alloc (.cells #[.int .i64 (nk f.kind), .string ⟨(shp f.kind).1.toArray⟩, .string ⟨(shp f.kind).2.1.toArray⟩, .string ⟨(shp f.kind).2.2.toArray⟩] 93)
      have hM2 := HM1.out.al (.cells #[.int .i64 (nk f.kind), .string ⟨(shp f.kind).1.toArray⟩, .string ⟨(shp f.kind).2.1.toArray⟩, .string ⟨(shp f.kind).2.2.toArray⟩] 93)
      have hW2 := HW1.out.after hBw hb2
      simp only [World.size_alloc] at hS
      have s1 := hS.cell 1
      have HS2 := Lib.hid hS
      have HT2 := Lib.hid hT2
      have HM2 := Lib.hid hM2
      have HW2 := Lib.hid hW2
      have HF0 := Lib.hid hf0
      clear hS hT2 hM2 hW2 hb2 hkk hkw hwf hlen hlen2 hsh hf0
      go_enter Tryd.func43, Tryd.ntmps43
      go_wp2_with fail
      refine (wr_str B b l (shp f.kind).1 _ HW2.out.isB (by have := HLEN.out; omega) (by have := HW2.out.low.size; omega)).mono ?_
      rintro e w3 ⟨rfl, h3⟩
      have hT3 := HT2.out.oth (by decide) (by omega) h3.oth
      have HS3 := Lib.hid (HS2.out.oth (by decide) (by omega) h3.oth)
      have HM3 := Lib.hid (IMap.oth HM2.out hmb h3.oth)
      have HW3 := Lib.hid (HW2.out.step h3)
      have t3 := hT3.cell 3
      clear h3 hT3
      go_wp2_with fail
      go_loopw [28] (fun iv wr => ∃ i : Nat, i ≤ f.kids.length ∧ iv = .int .i64 (i : Int) ∧ Wr B b (l ++ ((shp f.kind).1 ++ joinB (shp f.kind).2.1 ((f.kids.map Fm.part).take i))) w wr ∧ Blk wr (w.heap.size + 1) 93 #[.int .i64 (nk f.kind), .string ⟨(shp f.kind).1.toArray⟩, .string ⟨(shp f.kind).2.1.toArray⟩, .string ⟨(shp f.kind).2.2.toArray⟩] ∧ IMap Tryd.prog 3 wr mb 17 shapeF) (fun iv _ => f.kids.length - (intOf iv).toNat)
      case atStart => exact ⟨0, Nat.zero_le _, rfl, (by have := HW3.out; simpa [joinB] using this), HS3.out, HM3.out⟩
      case round =>
        obtain ⟨i, hi, rfl, hwr, hsr, hmr⟩ := hrel
        have hszr := hwr.low.size
        have HWR := Lib.hid hwr
        have HSR := Lib.hid hsr
        have HMR := Lib.hid hmr
        clear hwr hsr hmr
        by_cases hlt : i < f.kids.length
        · have hlt' : (i : Int) < (f.kids.length : Int) := by omega
          obtain ⟨k, hk⟩ : ∃ k, f.kids[i]? = some k := ⟨_, List.getElem?_eq_getElem hlt⟩
          have hksz : k.sz < n := by
            have := Fm.kid_sz (List.mem_of_getElem? hk)
            omega
          have hkwf := HKK.out k (List.mem_of_getElem? hk)
          have hps : (f.kids.map Fm.part)[i]? = some k.part := by rw [List.getElem?_map, hk]; rfl
          have hnil : ((f.kids.map Fm.part).take i = []) = (i = 0) := by
            rw [List.take_eq_nil_iff, eq_iff_iff]
            constructor
            · rintro (h | h)
              · exact h
              · rw [List.map_eq_nil_iff] at h
                rw [h] at hlt
                simp at hlt
            · exact .inl
          have hj : joinB (shp f.kind).2.1 ((f.kids.map Fm.part).take (i + 1)) = joinB (shp f.kind).2.1 ((f.kids.map Fm.part).take i) ++ ((if i = 0 then [] else (shp f.kind).2.1) ++ k.part) := by
            rw [List.take_add_one, hps]
            show joinB _ (_ ++ [k.part]) = _
            rw [joinB_snoc]
            simp only [hnil]
          have hjl := joinB_take_le (shp f.kind).2.1 (f.kids.map Fm.part) (i + 1)
          rw [hj, List.length_append, List.length_append] at hjl
          have HJL := Lib.hid hjl
          have HJ := Lib.hid hj
          obtain ⟨q, oo, A', c', rfl, hq, ⟨q0, q1, q2, q3⟩, hv⟩ := (HF0.out.kids.low HWR.out.low).v hk
          have hst := stepA wr (.cells #[.int .i64 k.kind, .string ⟨k.name.toArray⟩, .int .i64 k.lit, .slice A' k.kids.length c'] 37)
          have HW4 := Lib.hid (HWR.out.after hBw hst)
          have HK4 := Lib.hid (Blk.new wr 37 #[.int .i64 k.kind, .string ⟨k.name.toArray⟩, .int .i64 k.lit, .slice A' k.kids.length c'])
          have HS4 := Lib.hid (HSR.out.alloc (.cells #[.int .i64 k.kind, .string ⟨k.name.toArray⟩, .int .i64 k.lit, .slice A' k.kids.length c'] 37))
          have HM4 : Hid (IMap Tryd.prog 3 (wr.alloc (.cells #[.int .i64 k.kind, .string ⟨k.name.toArray⟩, .int .i64 k.lit, .slice A' k.kids.length c'] 37)) mb 17 shapeF) := Lib.hid (IMap.al HMR.out (.cells #[.int .i64 k.kind, .string ⟨k.name.toArray⟩, .int .i64 k.lit, .slice A' k.kids.length c'] 37))
          have HV4 := Lib.hid (hv.low (hst.mono (by omega)))
          have k0 := HK4.out.cell 0
          have s2 := HS4.out.cell 2
          clear hj hjl hps hnil hst hv
          by_cases h0 : i = 0
          · rcases (show k.kind < 5 ∨ (5 ≤ k.kind ∧ k.kind ≤ 8) ∨ 8 < k.kind by omega) with hkl | ⟨hkm1, hkm2⟩ | hkh
            · skip
              -- the first, low
              have HPT : Hid (l ++ ((shp f.kind).1 ++ joinB (shp f.kind).2.1 ((f.kids.map Fm.part).take (i + 1))) = (l ++ ((shp f.kind).1 ++ joinB (shp f.kind).2.1 ((f.kids.map Fm.part).take i))) ++ k.part) := Lib.hid (by rw [HJ.out, if_pos h0]; simp [List.append_assoc])
              have HPK : Hid (k.part = k.txt) := Lib.hid (by unfold Fm.part parT; rw [if_neg (by omega)])
              have hjl2 := HJL.out
              rw [if_pos h0, HPK.out] at hjl2
              have hlen4 := HLEN.out
              simp only [List.length_nil] at hjl2
              have hxl : (l ++ ((shp f.kind).1 ++ joinB (shp f.kind).2.1 ((f.kids.map Fm.part).take i))).length = l.length + ((shp f.kind).1.length + (joinB (shp f.kind).2.1 ((f.kids.map Fm.part).take i)).length) := by rw [List.length_append, List.length_append]
              have HXL := Lib.hid (And.intro hjl2 (And.intro hlen4 hxl))
              have h01 : i < 1 := by omega
              clear hjl2 hlen4 hxl h0
              go_wp2_with fail
              refine (HIH.out k hksz (d - 1) hkwf _ mb B b (l ++ ((shp f.kind).1 ++ joinB (shp f.kind).2.1 ((f.kids.map Fm.part).take i))) A' c' HM4.out hmb HW4.out.isB (by have := HW4.out.low.size; omega) HV4.out (by obtain ⟨u1, u2, u3⟩ := HXL.out; (try simp only [List.length_append, List.length_cons, List.length_nil] at *); omega)).mono ?_
              rintro e w5 ⟨rfl, h5⟩
              have HK5 := Lib.hid (HK4.out.oth (by decide) (by omega) h5.oth)
              have HS5 := Lib.hid (HS4.out.oth (by decide) (by omega) h5.oth)
              have HM5 := Lib.hid (IMap.oth HM4.out hmb h5.oth)
              have HV5 := Lib.hid (HV4.out.low h5.low)
              have HW5 := Lib.hid (HW4.out.step h5)
              clear h5
              go_wp2_with fail
              go_roundw
              case rel =>
                refine ⟨i + 1, by omega, by go_num, ?_, HS5.out, HM5.out⟩
                have hw := HW5.out
                rw [HPT.out, HPK.out]
                simpa [List.append_assoc] using hw
              case measure => simp [intOf]; omega
            · skip
              -- the first, mid
              have HPT : Hid (l ++ ((shp f.kind).1 ++ joinB (shp f.kind).2.1 ((f.kids.map Fm.part).take (i + 1))) = (l ++ ((shp f.kind).1 ++ joinB (shp f.kind).2.1 ((f.kids.map Fm.part).take i))) ++ k.part) := Lib.hid (by rw [HJ.out, if_pos h0]; simp [List.append_assoc])
              have HPK : Hid (k.part = 40 :: (k.txt ++ [41])) := Lib.hid (by unfold Fm.part parT; rw [if_pos (by omega)])
              have hjl2 := HJL.out
              rw [if_pos h0, HPK.out] at hjl2
              have hlen4 := HLEN.out
              simp only [List.length_cons, List.length_append, List.length_nil] at hjl2
              have hxl : (l ++ ((shp f.kind).1 ++ joinB (shp f.kind).2.1 ((f.kids.map Fm.part).take i))).length = l.length + ((shp f.kind).1.length + (joinB (shp f.kind).2.1 ((f.kids.map Fm.part).take i)).length) := by rw [List.length_append, List.length_append]
              have HXL := Lib.hid (And.intro hjl2 (And.intro hlen4 hxl))
              have h01 : i < 1 := by omega
              clear hjl2 hlen4 hxl h0
              go_wp2_with fail
              refine (wr_open B b (l ++ ((shp f.kind).1 ++ joinB (shp f.kind).2.1 ((f.kids.map Fm.part).take i))) _ HW4.out.isB (by obtain ⟨u1, u2, u3⟩ := HXL.out; (try simp only [List.length_append, List.length_cons, List.length_nil] at *); omega) (by have := HW4.out.low.size; omega)).mono ?_
              rintro e w5 ⟨rfl, h5⟩
              have HK5 := Lib.hid (HK4.out.oth (by decide) (by omega) h5.oth)
              have HS5 := Lib.hid (HS4.out.oth (by decide) (by omega) h5.oth)
              have HM5 := Lib.hid (IMap.oth HM4.out hmb h5.oth)
              have HV5 := Lib.hid (HV4.out.low h5.low)
              have HW5 := Lib.hid (HW4.out.step h5)
              have r0 := HK5.out.cell 0
              have r1 := HK5.out.cell 1
              have r2 := HK5.out.cell 2
              have r3 := HK5.out.cell 3
              clear h5
              go_wp2_with fail
              refine (HIH.out k hksz (d - 1) hkwf _ mb B b ((l ++ ((shp f.kind).1 ++ joinB (shp f.kind).2.1 ((f.kids.map Fm.part).take i))) ++ [40]) A' c' HM5.out hmb HW5.out.isB (by have := HW5.out.low.size; omega) HV5.out (by obtain ⟨u1, u2, u3⟩ := HXL.out; (try simp only [List.length_append, List.length_cons, List.length_nil] at *); omega)).mono ?_
              rintro e w6 ⟨rfl, h6⟩
              have HK6 := Lib.hid (HK5.out.oth (by decide) (by omega) h6.oth)
              have HS6 := Lib.hid (HS5.out.oth (by decide) (by omega) h6.oth)
              have HM6 := Lib.hid (IMap.oth HM5.out hmb h6.oth)
              have HV6 := Lib.hid (HV5.out.low h6.low)
              have HW6 := Lib.hid (HW5.out.step h6)
              clear h6
              go_wp2_with fail
              refine (wr_close B b (((l ++ ((shp f.kind).1 ++ joinB (shp f.kind).2.1 ((f.kids.map Fm.part).take i))) ++ [40]) ++ k.txt) _ HW6.out.isB (by obtain ⟨u1, u2, u3⟩ := HXL.out; (try simp only [List.length_append, List.length_cons, List.length_nil] at *); omega) (by have := HW6.out.low.size; omega)).mono ?_
              rintro e w7 ⟨rfl, h7⟩
              have HK7 := Lib.hid (HK6.out.oth (by decide) (by omega) h7.oth)
              have HS7 := Lib.hid (HS6.out.oth (by decide) (by omega) h7.oth)
              have HM7 := Lib.hid (IMap.oth HM6.out hmb h7.oth)
              have HV7 := Lib.hid (HV6.out.low h7.low)
              have HW7 := Lib.hid (HW6.out.step h7)
              clear h7
              go_wp2_with fail
              go_roundw
              case rel =>
                refine ⟨i + 1, by omega, by go_num, ?_, HS7.out, HM7.out⟩
                have hw := HW7.out
                rw [HPT.out, HPK.out]
                simpa [List.append_assoc] using hw
              case measure => simp [intOf]; omega
            · skip
              -- the first, high
              have HPT : Hid (l ++ ((shp f.kind).1 ++ joinB (shp f.kind).2.1 ((f.kids.map Fm.part).take (i + 1))) = (l ++ ((shp f.kind).1 ++ joinB (shp f.kind).2.1 ((f.kids.map Fm.part).take i))) ++ k.part) := Lib.hid (by rw [HJ.out, if_pos h0]; simp [List.append_assoc])
              have HPK : Hid (k.part = k.txt) := Lib.hid (by unfold Fm.part parT; rw [if_neg (by omega)])
              have hjl2 := HJL.out
              rw [if_pos h0, HPK.out] at hjl2
              have hlen4 := HLEN.out
              simp only [List.length_nil] at hjl2
              have hxl : (l ++ ((shp f.kind).1 ++ joinB (shp f.kind).2.1 ((f.kids.map Fm.part).take i))).length = l.length + ((shp f.kind).1.length + (joinB (shp f.kind).2.1 ((f.kids.map Fm.part).take i)).length) := by rw [List.length_append, List.length_append]
              have HXL := Lib.hid (And.intro hjl2 (And.intro hlen4 hxl))
              have h01 : i < 1 := by omega
              clear hjl2 hlen4 hxl h0
              go_wp2_with fail
              refine (HIH.out k hksz (d - 1) hkwf _ mb B b (l ++ ((shp f.kind).1 ++ joinB (shp f.kind).2.1 ((f.kids.map Fm.part).take i))) A' c' HM4.out hmb HW4.out.isB (by have := HW4.out.low.size; omega) HV4.out (by obtain ⟨u1, u2, u3⟩ := HXL.out; (try simp only [List.length_append, List.length_cons, List.length_nil] at *); omega)).mono ?_
              rintro e w5 ⟨rfl, h5⟩
              have HK5 := Lib.hid (HK4.out.oth (by decide) (by omega) h5.oth)
              have HS5 := Lib.hid (HS4.out.oth (by decide) (by omega) h5.oth)
              have HM5 := Lib.hid (IMap.oth HM4.out hmb h5.oth)
              have HV5 := Lib.hid (HV4.out.low h5.low)
              have HW5 := Lib.hid (HW4.out.step h5)
              clear h5
              go_wp2_with fail
              go_roundw
              case rel =>
                refine ⟨i + 1, by omega, by go_num, ?_, HS5.out, HM5.out⟩
                have hw := HW5.out
                rw [HPT.out, HPK.out]
                simpa [List.append_assoc] using hw
              case measure => simp [intOf]; omega
          · rcases (show k.kind < 5 ∨ (5 ≤ k.kind ∧ k.kind ≤ 8) ∨ 8 < k.kind by omega) with hkl | ⟨hkm1, hkm2⟩ | hkh
            · skip
              -- not the first, low
              have HPT : Hid (l ++ ((shp f.kind).1 ++ joinB (shp f.kind).2.1 ((f.kids.map Fm.part).take (i + 1))) = ((l ++ ((shp f.kind).1 ++ joinB (shp f.kind).2.1 ((f.kids.map Fm.part).take i))) ++ (shp f.kind).2.1) ++ k.part) := Lib.hid (by rw [HJ.out, if_neg h0]; simp [List.append_assoc])
              have HPK : Hid (k.part = k.txt) := Lib.hid (by unfold Fm.part parT; rw [if_neg (by omega)])
              have hjl2 := HJL.out
              rw [if_neg h0, HPK.out] at hjl2
              have hlen4 := HLEN.out
              have hxl : (l ++ ((shp f.kind).1 ++ joinB (shp f.kind).2.1 ((f.kids.map Fm.part).take i))).length = l.length + ((shp f.kind).1.length + (joinB (shp f.kind).2.1 ((f.kids.map Fm.part).take i)).length) := by rw [List.length_append, List.length_append]
              have HXL := Lib.hid (And.intro hjl2 (And.intro hlen4 hxl))
              have hip : 0 < (i : Int) := by omega
              clear hjl2 hlen4 hxl h0
              go_wp2_with fail
              refine (wr_str B b (l ++ ((shp f.kind).1 ++ joinB (shp f.kind).2.1 ((f.kids.map Fm.part).take i))) (shp f.kind).2.1 _ HW4.out.isB (by obtain ⟨u1, u2, u3⟩ := HXL.out; (try simp only [List.length_append, List.length_cons, List.length_nil] at *); omega) (by have := HW4.out.low.size; omega)).mono ?_
              rintro e w5 ⟨rfl, h5⟩
              have HK5 := Lib.hid (HK4.out.oth (by decide) (by omega) h5.oth)
              have HS5 := Lib.hid (HS4.out.oth (by decide) (by omega) h5.oth)
              have HM5 := Lib.hid (IMap.oth HM4.out hmb h5.oth)
              have HV5 := Lib.hid (HV4.out.low h5.low)
              have HW5 := Lib.hid (HW4.out.step h5)
              have k5 := HK5.out.cell 0
              have k51 := HK5.out.cell 1
              have k52 := HK5.out.cell 2
              have k53 := HK5.out.cell 3
              clear h5
              go_wp2_with fail
              refine (HIH.out k hksz (d - 1) hkwf _ mb B b ((l ++ ((shp f.kind).1 ++ joinB (shp f.kind).2.1 ((f.kids.map Fm.part).take i))) ++ (shp f.kind).2.1) A' c' HM5.out hmb HW5.out.isB (by have := HW5.out.low.size; omega) HV5.out (by obtain ⟨u1, u2, u3⟩ := HXL.out; (try simp only [List.length_append, List.length_cons, List.length_nil] at *); omega)).mono ?_
              rintro e w6 ⟨rfl, h6⟩
              have HK6 := Lib.hid (HK5.out.oth (by decide) (by omega) h6.oth)
              have HS6 := Lib.hid (HS5.out.oth (by decide) (by omega) h6.oth)
              have HM6 := Lib.hid (IMap.oth HM5.out hmb h6.oth)
              have HV6 := Lib.hid (HV5.out.low h6.low)
              have HW6 := Lib.hid (HW5.out.step h6)
              clear h6
              go_wp2_with fail
              go_roundw
              case rel =>
                refine ⟨i + 1, by omega, by go_num, ?_, HS6.out, HM6.out⟩
                have hw := HW6.out
                rw [HPT.out, HPK.out]
                simpa [List.append_assoc] using hw
              case measure => simp [intOf]; omega
            · skip
              -- not the first, mid
              have HPT : Hid (l ++ ((shp f.kind).1 ++ joinB (shp f.kind).2.1 ((f.kids.map Fm.part).take (i + 1))) = ((l ++ ((shp f.kind).1 ++ joinB (shp f.kind).2.1 ((f.kids.map Fm.part).take i))) ++ (shp f.kind).2.1) ++ k.part) := Lib.hid (by rw [HJ.out, if_neg h0]; simp [List.append_assoc])
              have HPK : Hid (k.part = 40 :: (k.txt ++ [41])) := Lib.hid (by unfold Fm.part parT; rw [if_pos (by omega)])
              have hjl2 := HJL.out
              rw [if_neg h0, HPK.out] at hjl2
              have hlen4 := HLEN.out
              simp only [List.length_cons, List.length_append, List.length_nil] at hjl2
              have hxl : (l ++ ((shp f.kind).1 ++ joinB (shp f.kind).2.1 ((f.kids.map Fm.part).take i))).length = l.length + ((shp f.kind).1.length + (joinB (shp f.kind).2.1 ((f.kids.map Fm.part).take i)).length) := by rw [List.length_append, List.length_append]
              have HXL := Lib.hid (And.intro hjl2 (And.intro hlen4 hxl))
              have hip : 0 < (i : Int) := by omega
              clear hjl2 hlen4 hxl h0
              go_wp2_with fail
              refine (wr_str B b (l ++ ((shp f.kind).1 ++ joinB (shp f.kind).2.1 ((f.kids.map Fm.part).take i))) (shp f.kind).2.1 _ HW4.out.isB (by obtain ⟨u1, u2, u3⟩ := HXL.out; (try simp only [List.length_append, List.length_cons, List.length_nil] at *); omega) (by have := HW4.out.low.size; omega)).mono ?_
              rintro e w5 ⟨rfl, h5⟩
              have HK5 := Lib.hid (HK4.out.oth (by decide) (by omega) h5.oth)
              have HS5 := Lib.hid (HS4.out.oth (by decide) (by omega) h5.oth)
              have HM5 := Lib.hid (IMap.oth HM4.out hmb h5.oth)
              have HV5 := Lib.hid (HV4.out.low h5.low)
              have HW5 := Lib.hid (HW4.out.step h5)
              have k5 := HK5.out.cell 0
              have k51 := HK5.out.cell 1
              have k52 := HK5.out.cell 2
              have k53 := HK5.out.cell 3
              clear h5
              go_wp2_with fail
              refine (wr_open B b ((l ++ ((shp f.kind).1 ++ joinB (shp f.kind).2.1 ((f.kids.map Fm.part).take i))) ++ (shp f.kind).2.1) _ HW5.out.isB (by obtain ⟨u1, u2, u3⟩ := HXL.out; (try simp only [List.length_append, List.length_cons, List.length_nil] at *); omega) (by have := HW5.out.low.size; omega)).mono ?_
              rintro e w6 ⟨rfl, h6⟩
              have HK6 := Lib.hid (HK5.out.oth (by decide) (by omega) h6.oth)
              have HS6 := Lib.hid (HS5.out.oth (by decide) (by omega) h6.oth)
              have HM6 := Lib.hid (IMap.oth HM5.out hmb h6.oth)
              have HV6 := Lib.hid (HV5.out.low h6.low)
              have HW6 := Lib.hid (HW5.out.step h6)
              have r0 := HK6.out.cell 0
              have r1 := HK6.out.cell 1
              have r2 := HK6.out.cell 2
              have r3 := HK6.out.cell 3
              clear h6
              go_wp2_with fail
              refine (HIH.out k hksz (d - 1) hkwf _ mb B b (((l ++ ((shp f.kind).1 ++ joinB (shp f.kind).2.1 ((f.kids.map Fm.part).take i))) ++ (shp f.kind).2.1) ++ [40]) A' c' HM6.out hmb HW6.out.isB (by have := HW6.out.low.size; omega) HV6.out (by obtain ⟨u1, u2, u3⟩ := HXL.out; (try simp only [List.length_append, List.length_cons, List.length_nil] at *); omega)).mono ?_
              rintro e w7 ⟨rfl, h7⟩
              have HK7 := Lib.hid (HK6.out.oth (by decide) (by omega) h7.oth)
              have HS7 := Lib.hid (HS6.out.oth (by decide) (by omega) h7.oth)
              have HM7 := Lib.hid (IMap.oth HM6.out hmb h7.oth)
              have HV7 := Lib.hid (HV6.out.low h7.low)
              have HW7 := Lib.hid (HW6.out.step h7)
              clear h7
              go_wp2_with fail
              refine (wr_close B b ((((l ++ ((shp f.kind).1 ++ joinB (shp f.kind).2.1 ((f.kids.map Fm.part).take i))) ++ (shp f.kind).2.1) ++ [40]) ++ k.txt) _ HW7.out.isB (by obtain ⟨u1, u2, u3⟩ := HXL.out; (try simp only [List.length_append, List.length_cons, List.length_nil] at *); omega) (by have := HW7.out.low.size; omega)).mono ?_
              rintro e w8 ⟨rfl, h8⟩
              have HK8 := Lib.hid (HK7.out.oth (by decide) (by omega) h8.oth)
              have HS8 := Lib.hid (HS7.out.oth (by decide) (by omega) h8.oth)
              have HM8 := Lib.hid (IMap.oth HM7.out hmb h8.oth)
              have HV8 := Lib.hid (HV7.out.low h8.low)
              have HW8 := Lib.hid (HW7.out.step h8)
              clear h8
              go_wp2_with fail
              go_roundw
              case rel =>
                refine ⟨i + 1, by omega, by go_num, ?_, HS8.out, HM8.out⟩
                have hw := HW8.out
                rw [HPT.out, HPK.out]
                simpa [List.append_assoc] using hw
              case measure => simp [intOf]; omega
            · skip
              -- not the first, high
              have HPT : Hid (l ++ ((shp f.kind).1 ++ joinB (shp f.kind).2.1 ((f.kids.map Fm.part).take (i + 1))) = ((l ++ ((shp f.kind).1 ++ joinB (shp f.kind).2.1 ((f.kids.map Fm.part).take i))) ++ (shp f.kind).2.1) ++ k.part) := Lib.hid (by rw [HJ.out, if_neg h0]; simp [List.append_assoc])
              have HPK : Hid (k.part = k.txt) := Lib.hid (by unfold Fm.part parT; rw [if_neg (by omega)])
              have hjl2 := HJL.out
              rw [if_neg h0, HPK.out] at hjl2
              have hlen4 := HLEN.out
              have hxl : (l ++ ((shp f.kind).1 ++ joinB (shp f.kind).2.1 ((f.kids.map Fm.part).take i))).length = l.length + ((shp f.kind).1.length + (joinB (shp f.kind).2.1 ((f.kids.map Fm.part).take i)).length) := by rw [List.length_append, List.length_append]
              have HXL := Lib.hid (And.intro hjl2 (And.intro hlen4 hxl))
              have hip : 0 < (i : Int) := by omega
              clear hjl2 hlen4 hxl h0
              go_wp2_with fail
              refine (wr_str B b (l ++ ((shp f.kind).1 ++ joinB (shp f.kind).2.1 ((f.kids.map Fm.part).take i))) (shp f.kind).2.1 _ HW4.out.isB (by obtain ⟨u1, u2, u3⟩ := HXL.out; (try simp only [List.length_append, List.length_cons, List.length_nil] at *); omega) (by have := HW4.out.low.size; omega)).mono ?_
              rintro e w5 ⟨rfl, h5⟩
              have HK5 := Lib.hid (HK4.out.oth (by decide) (by omega) h5.oth)
              have HS5 := Lib.hid (HS4.out.oth (by decide) (by omega) h5.oth)
              have HM5 := Lib.hid (IMap.oth HM4.out hmb h5.oth)
              have HV5 := Lib.hid (HV4.out.low h5.low)
              have HW5 := Lib.hid (HW4.out.step h5)
              have k5 := HK5.out.cell 0
              have k51 := HK5.out.cell 1
              have k52 := HK5.out.cell 2
              have k53 := HK5.out.cell 3
              clear h5
              go_wp2_with fail
              refine (HIH.out k hksz (d - 1) hkwf _ mb B b ((l ++ ((shp f.kind).1 ++ joinB (shp f.kind).2.1 ((f.kids.map Fm.part).take i))) ++ (shp f.kind).2.1) A' c' HM5.out hmb HW5.out.isB (by have := HW5.out.low.size; omega) HV5.out (by obtain ⟨u1, u2, u3⟩ := HXL.out; (try simp only [List.length_append, List.length_cons, List.length_nil] at *); omega)).mono ?_
              rintro e w6 ⟨rfl, h6⟩
              have HK6 := Lib.hid (HK5.out.oth (by decide) (by omega) h6.oth)
              have HS6 := Lib.hid (HS5.out.oth (by decide) (by omega) h6.oth)
              have HM6 := Lib.hid (IMap.oth HM5.out hmb h6.oth)
              have HV6 := Lib.hid (HV5.out.low h6.low)
              have HW6 := Lib.hid (HW5.out.step h6)
              clear h6
              go_wp2_with fail
              go_roundw
              case rel =>
                refine ⟨i + 1, by omega, by go_num, ?_, HS6.out, HM6.out⟩
                have hw := HW6.out
                rw [HPT.out, HPK.out]
                simpa [List.append_assoc] using hw
              case measure => simp [intOf]; omega
        · obtain rfl : i = f.kids.length := by omega
          have HFX : Hid (l ++ f.txt = (l ++ ((shp f.kind).1 ++ joinB (shp f.kind).2.1 ((f.kids.map Fm.part).take f.kids.length))) ++ (shp f.kind).2.2) := Lib.hid (by rw [HTX.out, List.take_of_length_le (by simp)]; simp [List.append_assoc])
          have HXL : Hid ((l ++ ((shp f.kind).1 ++ joinB (shp f.kind).2.1 ((f.kids.map Fm.part).take f.kids.length))).length + (shp f.kind).2.2.length ≤ 140737488355328) := Lib.hid (by
            have := HLEN.out
            have h2 := joinB_take_le (shp f.kind).2.1 (f.kids.map Fm.part) f.kids.length
            rw [List.length_append, List.length_append]
            omega)
          have s3 := HSR.out.cell 3
          go_wp2_with fail
          refine (wr_str B b (l ++ ((shp f.kind).1 ++ joinB (shp f.kind).2.1 ((f.kids.map Fm.part).take f.kids.length))) (shp f.kind).2.2 _ HWR.out.isB HXL.out (by omega)).mono ?_
          rintro e w4 ⟨rfl, h4⟩
          have HW4 := Lib.hid (HWR.out.step h4)
          clear h4
          go_wp2_with fail
          go_end0
          rw [HFX.out]
          exact ⟨rfl, HW4.out⟩
end Go.Proofs.YtijecfmblddanaaDoor
