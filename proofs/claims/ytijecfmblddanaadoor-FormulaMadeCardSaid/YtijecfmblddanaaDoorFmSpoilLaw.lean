/- Formulas: FormulaMade. -/
import Derived.Test.YtijecfmblddanaaDoorG4
import Derived.Test.YtijecfmblddanaaDoorG15
import Derived.Test.YtijecfmblddanaaDoorFmAwake
import Derived.Test.YtijecfmblddanaaDoorG14
import Derived.Test.YtijecfmblddanaaDoorG2
set_option linter.unusedVariables false
set_option linter.unusedSimpArgs false
namespace Go.Proofs.YtijecfmblddanaaDoor
open Go.RowKit Go.Maps

/-- What stands at first. -/
theorem SpSt.start {w w1 w2 : World} {f g : Fm} {A1 A2 : Option Addr} {c1 c2 : Nat} (hw : w.heap.size ≤ w1.heap.size) (hf : FmVT w1 w.heap.size w1.heap.size f A1 c1) (hb : Below w1.heap.size w1 w2) (hg : FmVT w2 w1.heap.size w2.heap.size g A2 c2) :
    SpSt ((w2.alloc (.cells #[.int .i64 f.kind, .string ⟨f.name.toArray⟩, .int .i64 f.lit, .slice A1 f.kids.length c1] 37)).alloc (.cells #[.int .i64 g.kind, .string ⟨g.name.toArray⟩, .int .i64 g.lit, .slice A2 g.kids.length c2] 37)) w.heap.size w2.heap.size (w2.heap.size + 1) w1.heap.size w2.heap.size g A2 c2 w2.heap.size 0 w.heap.size w1.heap.size f A1 c1 := by
  have hs := hb.size
  have hX : Blk ((w2.alloc (.cells #[.int .i64 f.kind, .string ⟨f.name.toArray⟩, .int .i64 f.lit, .slice A1 f.kids.length c1] 37)).alloc (.cells #[.int .i64 g.kind, .string ⟨g.name.toArray⟩, .int .i64 g.lit, .slice A2 g.kids.length c2] 37)) w2.heap.size 37 #[.int .i64 f.kind, .string ⟨f.name.toArray⟩, .int .i64 f.lit, .slice A1 f.kids.length c1] := (Blk.new w2 37 #[.int .i64 f.kind, .string ⟨f.name.toArray⟩, .int .i64 f.lit, .slice A1 f.kids.length c1]).alloc _
  have hY : Blk ((w2.alloc (.cells #[.int .i64 f.kind, .string ⟨f.name.toArray⟩, .int .i64 f.lit, .slice A1 f.kids.length c1] 37)).alloc (.cells #[.int .i64 g.kind, .string ⟨g.name.toArray⟩, .int .i64 g.lit, .slice A2 g.kids.length c2] 37)) (w2.heap.size + 1) 37 #[.int .i64 g.kind, .string ⟨g.name.toArray⟩, .int .i64 g.lit, .slice A2 g.kids.length c2] := by
    have := Blk.new (w2.alloc (.cells #[.int .i64 f.kind, .string ⟨f.name.toArray⟩, .int .i64 f.lit, .slice A1 f.kids.length c1] 37)) 37 #[.int .i64 g.kind, .string ⟨g.name.toArray⟩, .int .i64 g.lit, .slice A2 g.kids.length c2]
    rwa [World.size_alloc] at this
  have hv : Below w2.heap.size w2 ((w2.alloc (.cells #[.int .i64 f.kind, .string ⟨f.name.toArray⟩, .int .i64 f.lit, .slice A1 f.kids.length c1] 37)).alloc (.cells #[.int .i64 g.kind, .string ⟨g.name.toArray⟩, .int .i64 g.lit, .slice A2 g.kids.length c2] 37)) := (stepA w2 _).alloc (by simp) _
  exact ⟨Hole.start _ _ _ _, ⟨hX.cell 0, hX.cell 1, hX.cell 2, hX.cell 3⟩, (hf.keep fun k h1 h2 => hb.block k h2).keep fun k h1 h2 => hv.block k (by omega), ⟨_, hX⟩, by omega, by omega, by have := hv.size; omega, Nat.le_refl _,
    hg.keep fun k h1 h2 => hv.block k h2, hY, Nat.le_refl _, hv.size, by omega, by omega, by omega⟩

set_option maxRecDepth 100000 in
set_option maxHeartbeats 4000000 in
theorem formulaMade_any (l0 : List Int) (A0 : Option Addr) (c0 : Nat) (m0 : List Int) (B0 : Option Addr) (d0 : Nat) (k n : Int) (s : ByteArray) (w : World) (hr : ∀ x ∈ l0, 0 ≤ x ∧ x ≤ 255) (hc : l0.length ≤ c0) (hl : c0 ≤ 140737488355328) (hA : Vals w w.heap.size A0 (l0.map (.int .u8 ·)))
    (hr2 : ∀ x ∈ m0, 0 ≤ x ∧ x ≤ 255) (hc2 : m0.length ≤ d0) (hl2 : d0 ≤ 140737488355328) (hA2 : Vals w w.heap.size B0 (m0.map (.int .u8 ·))) (hk : 0 ≤ k ∧ k ≤ 255) (hn : -9223372036854775808 ≤ n ∧ n ≤ 9223372036854775807) (hs : s.size ≤ 140737488355328) :
    Calls Tryd.prog 8 #[.slice A0 l0.length c0, .slice B0 m0.length d0, .int .u8 k, .int .i64 n, .string s] w (Ret w (.bool true)) := by
  have n1 := nums_of hA hr
  have n2 := nums_of hA2 hr2
  rw [← bytesI_len l0, ← bytesI_len m0]
  rw [← bytesI_len l0] at hc
  rw [← bytesI_len m0] at hc2
  clear hA hA2 hr hr2
  obtain ⟨l, hl'⟩ : ∃ l, l = bytesI l0 := ⟨_, rfl⟩
  obtain ⟨m, hm'⟩ : ∃ m, m = bytesI m0 := ⟨_, rfl⟩
  rw [← hl'] at n1 hc ⊢
  rw [← hm'] at n2 hc2 ⊢
  clear hl' hm' l0 m0
  obtain ⟨hk0, hk1⟩ := hk
  have HM1 := Lib.hid (made_any l w A0 c0 hc hl n1)
  have HM2 := Lib.hid (fun W (h : Below w.heap.size w W) => made_any m W B0 d0 hc2 hl2 (fun i b hi => by
    obtain ⟨q, o, h1, h2, h3⟩ := n2.low h i b hi
    exact ⟨q, o, h1, Nat.lt_of_lt_of_le h2 h.size, h3⟩))
  clear n1 n2 hc hc2
  have HN := Lib.hid hn
  have HSS := Lib.hid hs
  clear hn hs
  unfold MadePost at HM1 HM2
  generalize madeF l = f at HM1
  generalize madeF m = g at HM2
  go_enter Tryd.func8, Tryd.ntmps8
  go_wp2_with fail
  refine HM1.out.mono ?_
  rintro e w1 ⟨A1, c1, rfl, hv1, hb1⟩
  have HV1 := Lib.hid hv1
  have HB1 := Lib.hid hb1
  clear hv1 hb1 HM1
  unfold fmA
  go_wp2_with fail
  refine (HM2.out _ HB1.out).mono ?_
  rintro e w2 ⟨A2, c2, rfl, hv2, hb2⟩
  have hsz1 := HB1.out.size
  have hsz2 := hb2.size
  have HST := Lib.hid (SpSt.start hsz1 HV1.out hb2 hv2)
  have HV := Lib.hid (((step2 (step2 HB1.out hb2) (stepA w2 (.cells #[.int .i64 f.kind, .string ⟨f.name.toArray⟩, .int .i64 f.lit, .slice A1 f.kids.length c1] 37))).alloc (by simp; omega) (.cells #[.int .i64 g.kind, .string ⟨g.name.toArray⟩, .int .i64 g.lit, .slice A2 g.kids.length c2] 37) : Below w.heap.size w ((w2.alloc (.cells #[.int .i64 f.kind, .string ⟨f.name.toArray⟩, .int .i64 f.lit, .slice A1 f.kids.length c1] 37)).alloc (.cells #[.int .i64 g.kind, .string ⟨g.name.toArray⟩, .int .i64 g.lit, .slice A2 g.kids.length c2] 37))))
  clear hv2 hb2 HV1 HM2 HB1
  unfold fmA
  go_wp2_with fail
  have hxs : w2.heap.size + 1 + 1 = ((w2.alloc (.cells #[.int .i64 f.kind, .string ⟨f.name.toArray⟩, .int .i64 f.lit, .slice A1 f.kids.length c1] 37)).alloc (.cells #[.int .i64 g.kind, .string ⟨g.name.toArray⟩, .int .i64 g.lit, .slice A2 g.kids.length c2] 37)).heap.size := by simp
  obtain ⟨v, hv⟩ : ∃ v, v = ((w2.alloc (.cells #[.int .i64 f.kind, .string ⟨f.name.toArray⟩, .int .i64 f.lit, .slice A1 f.kids.length c1] 37)).alloc (.cells #[.int .i64 g.kind, .string ⟨g.name.toArray⟩, .int .i64 g.lit, .slice A2 g.kids.length c2] 37)) := ⟨_, rfl⟩
  rw [← hv] at HST HV hxs ⊢
  clear hv
  generalize w2.heap.size = x at *
  have HSB : Hid (∀ W, Below v.heap.size v W → (W.cell? ⟨x, 0, none⟩ = some (.int .i64 f.kind) ∧ W.cell? ⟨x, 1, none⟩ = some (.string ⟨f.name.toArray⟩) ∧ W.cell? ⟨x, 2, none⟩ = some (.int .i64 f.lit) ∧ W.cell? ⟨x, 3, none⟩ = some (.slice A1 f.kids.length c1)) ∧ (W.cell? ⟨x + 1, 0, none⟩ = some (.int .i64 g.kind) ∧ W.cell? ⟨x + 1, 1, none⟩ = some (.string ⟨g.name.toArray⟩) ∧ W.cell? ⟨x + 1, 2, none⟩ = some (.int .i64 g.lit) ∧ W.cell? ⟨x + 1, 3, none⟩ = some (.slice A2 g.kids.length c2))) := Lib.hid fun W h => by
    have h1 := HST.out.after h
    have h2 := h1.gx
    exact ⟨⟨h1.a.k, h1.a.n, h1.a.l, h1.a.s⟩, h2.cell 0, h2.cell 1, h2.cell 2, h2.cell 3⟩
  have HQF : Hid (∀ W, Below v.heap.size v W → FmV W W.heap.size f A1 c1) := Lib.hid fun W h => (HST.out.after h).v.v fun b hb => by have := (HST.out.after h).hs; omega
  have HQG : Hid (∀ W, Below v.heap.size v W → FmV W W.heap.size g A2 c2) := Lib.hid fun W h => (HST.out.after h).gv.v fun b hb => by have := (HST.out.after h).g2; omega
  have CSF := Lib.hid (fun W (h : Below v.heap.size v W) => lsame_any f _ _ W (HQF.out W h))
  have CFG := Lib.hid (fun W (h : Below v.heap.size v W) => same_any (f.sz + 1) f (Nat.lt_succ_self _) g W W.heap.size _ _ _ _ (HQF.out W h) (HQG.out W h) (Nat.le_refl _))
  have CRG := Lib.hid (fun W (h : Below v.heap.size v W) => rsame_any (f.sz + 1) f (Nat.lt_succ_self _) g W W.heap.size _ _ _ _ (HQF.out W h) (HQG.out W h) (Nat.le_refl _))
  unfold fmA at CSF CFG CRG
  generalize f.same g = R at CFG CRG
  have hRR : (R == R) = true := by simp
  have HW0 := Lib.hid (Below.refl v.heap.size v)
  by_cases h100 : (100 : Int) < (s.size : Int)
  · go_wp2_with fail
    refine wp_region_noPanic ?_
    refine wp_region_seq (fun W => (W.cell? ⟨x, 0, none⟩ = some (.int .i64 f.kind) ∧ W.cell? ⟨x, 1, none⟩ = some (.string ⟨f.name.toArray⟩) ∧ W.cell? ⟨x, 2, none⟩ = some (.int .i64 f.lit) ∧ W.cell? ⟨x, 3, none⟩ = some (.slice A1 f.kids.length c1)) ∧ (W.cell? ⟨x + 1, 0, none⟩ = some (.int .i64 g.kind) ∧ W.cell? ⟨x + 1, 1, none⟩ = some (.string ⟨g.name.toArray⟩) ∧ W.cell? ⟨x + 1, 2, none⟩ = some (.int .i64 g.lit) ∧ W.cell? ⟨x + 1, 3, none⟩ = some (.slice A2 g.kids.length c2))) [0, 1, 2, 3, 4, 5, 7, 8, 6, 9, 10, 11, 12, 13, 14, 15, 16] [0, 2, 3, 4, 5, 7, 8, 10, 11, 12, 13, 14, 15, 16] [] (by kernel_rfl) (by kernel_rfl) rfl (by kernel_rfl) (by kernel_rfl) (fun _ _ _ _ _ h => h) ?_ (fun hSS => ?_)
    · exact HSB.out _ (stepD1 _)
    have HW1 := Lib.hid (step2 HW0.out (stepD1 _))
    clear hSS
    generalize v.drew = v1 at HW1 ⊢
    (refine wpSeq_mov rfl rfl ?_; intro o ho; simp only [List.getElem?_toArray, List.getElem?_cons_zero, List.getElem?_cons_succ, Option.some.injEq] at ho; subst ho; refine ⟨?_, Or.inl ⟨by rfl, fun W hSW => ?_⟩, ?_⟩; rotate_left; (focus (go_simp; first | done | with_reducible rfl)); try simp only [Act.put, List.setIfInBounds_toArray, List.set_cons_zero, List.set_cons_succ])
    (refine wpSeq_fix rfl rfl ?_; intro o ho; simp only [List.getElem?_toArray, List.getElem?_cons_zero, List.getElem?_cons_succ, Option.some.injEq] at ho; subst ho; intro K hK)
    go_simp
    refine (CSF.out _ HW1.out).mono ?_
    rintro e v2 ⟨rfl, hb⟩
    have HW2 := Lib.hid (step2 HW1.out hb)
    clear hb
    (refine hK.out _ _ (fun _ => HSB.out _ HW2.out) ?_; clear hK K; try simp only [Act.put, List.setIfInBounds_toArray, List.set_cons_zero, List.set_cons_succ])
    (refine wpSeq_mov rfl rfl ?_; intro o ho; simp only [List.getElem?_toArray, List.getElem?_cons_zero, List.getElem?_cons_succ, Option.some.injEq] at ho; subst ho; refine ⟨?_, Or.inl ⟨by rfl, fun W hSW => ?_⟩, ?_⟩; rotate_left; (focus (go_simp; first | done | with_reducible rfl)); try simp only [Act.put, List.setIfInBounds_toArray, List.set_cons_zero, List.set_cons_succ])
    (refine wpSeq_mov rfl rfl ?_; intro o ho; simp only [List.getElem?_toArray, List.getElem?_cons_zero, List.getElem?_cons_succ, Option.some.injEq] at ho; subst ho; refine ⟨?_, Or.inl ⟨by rfl, fun W hSW => ?_⟩, ?_⟩; rotate_left; (focus (go_simp; first | done | with_reducible rfl)); try simp only [Act.put, List.setIfInBounds_toArray, List.set_cons_zero, List.set_cons_succ])
    (refine wpSeq_mov rfl rfl ?_; intro o ho; simp only [List.getElem?_toArray, List.getElem?_cons_zero, List.getElem?_cons_succ, Option.some.injEq] at ho; subst ho; refine ⟨?_, Or.inl ⟨by rfl, fun W hSW => ?_⟩, ?_⟩; rotate_left; (focus (go_simp; first | done | with_reducible rfl)); try simp only [Act.put, List.setIfInBounds_toArray, List.set_cons_zero, List.set_cons_succ])
    (refine wpSeq_mov rfl rfl ?_; intro o ho; simp only [List.getElem?_toArray, List.getElem?_cons_zero, List.getElem?_cons_succ, Option.some.injEq] at ho; subst ho; refine ⟨?_, Or.inl ⟨by rfl, fun W hSW => ?_⟩, ?_⟩; rotate_left; (focus (go_simp; first | done | with_reducible rfl)); try simp only [Act.put, List.setIfInBounds_toArray, List.set_cons_zero, List.set_cons_succ])
    (refine wpSeq_mov rfl rfl ?_; intro o ho; simp only [List.getElem?_toArray, List.getElem?_cons_zero, List.getElem?_cons_succ, Option.some.injEq] at ho; subst ho; refine ⟨?_, Or.inl ⟨by rfl, fun W hSW => ?_⟩, ?_⟩; rotate_left; (focus (go_simp; first | done | with_reducible rfl)); try simp only [Act.put, List.setIfInBounds_toArray, List.set_cons_zero, List.set_cons_succ])
    (refine wpSeq_mov rfl rfl ?_; intro o ho; simp only [List.getElem?_toArray, List.getElem?_cons_zero, List.getElem?_cons_succ, Option.some.injEq] at ho; subst ho; refine ⟨?_, Or.inl ⟨by rfl, fun W hSW => ?_⟩, ?_⟩; rotate_left; (focus (go_simp; first | done | with_reducible rfl)); try simp only [Act.put, List.setIfInBounds_toArray, List.set_cons_zero, List.set_cons_succ])
    (refine wpSeq_fix rfl rfl ?_; intro o ho; simp only [List.getElem?_toArray, List.getElem?_cons_zero, List.getElem?_cons_succ, Option.some.injEq] at ho; subst ho; intro K hK)
    go_simp
    refine (CFG.out _ HW2.out).mono ?_
    rintro e v3 ⟨rfl, hb⟩
    have HW3 := Lib.hid (step2 HW2.out hb)
    clear hb
    (refine hK.out _ _ (fun _ => HSB.out _ HW3.out) ?_; clear hK K; try simp only [Act.put, List.setIfInBounds_toArray, List.set_cons_zero, List.set_cons_succ])
    (refine wpSeq_fix rfl rfl ?_; intro o ho; simp only [List.getElem?_toArray, List.getElem?_cons_zero, List.getElem?_cons_succ, Option.some.injEq] at ho; subst ho; intro K hK)
    go_simp
    refine (CRG.out _ HW3.out).mono ?_
    rintro e v4 ⟨rfl, hb⟩
    have HW4 := Lib.hid (step2 HW3.out hb)
    clear hb
    (refine hK.out _ _ (fun _ => HSB.out _ HW4.out) ?_; clear hK K; try simp only [Act.put, List.setIfInBounds_toArray, List.set_cons_zero, List.set_cons_succ])
    (refine wpSeq_mov rfl rfl ?_; intro o ho; simp only [List.getElem?_toArray, List.getElem?_cons_zero, List.getElem?_cons_succ, Option.some.injEq] at ho; subst ho; refine ⟨?_, Or.inl ⟨by rfl, fun W hSW => ?_⟩, ?_⟩; rotate_left; (focus (go_simp; first | done | with_reducible rfl)); try simp only [Act.put, List.setIfInBounds_toArray, List.set_cons_zero, List.set_cons_succ])
    (refine wpSeq_mov rfl rfl ?_; intro o ho; simp only [List.getElem?_toArray, List.getElem?_cons_zero, List.getElem?_cons_succ, Option.some.injEq] at ho; subst ho; refine ⟨?_, Or.inl ⟨by rfl, fun W hSW => ?_⟩, ?_⟩; rotate_left; (focus (go_simp; first | done | with_reducible rfl)); try simp only [Act.put, List.setIfInBounds_toArray, List.set_cons_zero, List.set_cons_succ])
    (refine wpSeq_mov rfl rfl ?_; intro o ho; simp only [List.getElem?_toArray, List.getElem?_cons_zero, List.getElem?_cons_succ, Option.some.injEq] at ho; subst ho; refine ⟨?_, Or.inl ⟨by rfl, fun W hSW => ?_⟩, ?_⟩; rotate_left; (focus (go_simp; first | done | with_reducible rfl)); try simp only [Act.put, List.setIfInBounds_toArray, List.set_cons_zero, List.set_cons_succ])
    (refine wpSeq_mov rfl rfl ?_; intro o ho; simp only [List.getElem?_toArray, List.getElem?_cons_zero, List.getElem?_cons_succ, Option.some.injEq] at ho; subst ho; refine ⟨?_, Or.inl ⟨by rfl, fun W hSW => ?_⟩, ?_⟩; rotate_left; (focus (go_simp; first | done | with_reducible rfl)); try simp only [Act.put, List.setIfInBounds_toArray, List.set_cons_zero, List.set_cons_succ])
    (refine wpSeq_mov rfl rfl ?_; intro o ho; simp only [List.getElem?_toArray, List.getElem?_cons_zero, List.getElem?_cons_succ, Option.some.injEq] at ho; subst ho; refine ⟨?_, Or.inl ⟨by rfl, fun W hSW => ?_⟩, ?_⟩; rotate_left; (focus (go_simp; first | done | with_reducible rfl)); try simp only [Act.put, List.setIfInBounds_toArray, List.set_cons_zero, List.set_cons_succ])
    (refine wpSeq_mov rfl rfl ?_; intro o ho; simp only [List.getElem?_toArray, List.getElem?_cons_zero, List.getElem?_cons_succ, Option.some.injEq] at ho; subst ho; refine ⟨?_, Or.inl ⟨by rfl, fun W hSW => ?_⟩, ?_⟩; rotate_left; (focus (go_simp; first | done | with_reducible rfl)); try simp only [Act.put, List.setIfInBounds_toArray, List.set_cons_zero, List.set_cons_succ])
    (refine wpSeq_mov rfl rfl ?_; intro o ho; simp only [List.getElem?_toArray, List.getElem?_cons_zero, List.getElem?_cons_succ, Option.some.injEq] at ho; subst ho; refine ⟨?_, Or.inl ⟨by rfl, fun W hSW => ?_⟩, ?_⟩; rotate_left; (focus (go_simp; first | done | with_reducible rfl)); try simp only [Act.put, List.setIfInBounds_toArray, List.set_cons_zero, List.set_cons_succ])
    refine wpSeq_done ?_
    go_wp2_with fail
    refine (awake8_any _).mono ?_
    rintro e v5 ⟨rfl, hb⟩
    have HW5 := Lib.hid (step2 HV.out (step2 HW4.out hb))
    clear hb
    go_wp2_with fail
    go_ret
    exact ⟨rfl, HW5.out⟩
  · have hd := decide_eq_false h100
    go_wp2_with fail
    refine wp_region_noPanic ?_
    refine wp_region_seq (fun W => (W.cell? ⟨x, 0, none⟩ = some (.int .i64 f.kind) ∧ W.cell? ⟨x, 1, none⟩ = some (.string ⟨f.name.toArray⟩) ∧ W.cell? ⟨x, 2, none⟩ = some (.int .i64 f.lit) ∧ W.cell? ⟨x, 3, none⟩ = some (.slice A1 f.kids.length c1)) ∧ (W.cell? ⟨x + 1, 0, none⟩ = some (.int .i64 g.kind) ∧ W.cell? ⟨x + 1, 1, none⟩ = some (.string ⟨g.name.toArray⟩) ∧ W.cell? ⟨x + 1, 2, none⟩ = some (.int .i64 g.lit) ∧ W.cell? ⟨x + 1, 3, none⟩ = some (.slice A2 g.kids.length c2))) [0, 1, 2, 3, 4, 5, 7, 8, 6, 9, 10, 11, 12, 13, 14, 15, 16] [0, 2, 3, 4, 5, 7, 8, 10, 11, 12, 13, 14, 15, 16] [] (by kernel_rfl) (by kernel_rfl) rfl (by kernel_rfl) (by kernel_rfl) (fun _ _ _ _ _ h => h) ?_ (fun hSS => ?_)
    · exact HSB.out _ (stepD1 _)
    have HW1 := Lib.hid (step2 HW0.out (stepD1 _))
    clear hSS
    generalize v.drew = v1 at HW1 ⊢
    (refine wpSeq_mov rfl rfl ?_; intro o ho; simp only [List.getElem?_toArray, List.getElem?_cons_zero, List.getElem?_cons_succ, Option.some.injEq] at ho; subst ho; refine ⟨?_, Or.inl ⟨by rfl, fun W hSW => ?_⟩, ?_⟩; rotate_left; (focus (go_simp; first | done | with_reducible rfl)); try simp only [Act.put, List.setIfInBounds_toArray, List.set_cons_zero, List.set_cons_succ])
    (refine wpSeq_fix rfl rfl ?_; intro o ho; simp only [List.getElem?_toArray, List.getElem?_cons_zero, List.getElem?_cons_succ, Option.some.injEq] at ho; subst ho; intro K hK)
    go_simp
    refine (CSF.out _ HW1.out).mono ?_
    rintro e v2 ⟨rfl, hb⟩
    have HW2 := Lib.hid (step2 HW1.out hb)
    clear hb
    (refine hK.out _ _ (fun _ => HSB.out _ HW2.out) ?_; clear hK K; try simp only [Act.put, List.setIfInBounds_toArray, List.set_cons_zero, List.set_cons_succ])
    (refine wpSeq_mov rfl rfl ?_; intro o ho; simp only [List.getElem?_toArray, List.getElem?_cons_zero, List.getElem?_cons_succ, Option.some.injEq] at ho; subst ho; refine ⟨?_, Or.inl ⟨by rfl, fun W hSW => ?_⟩, ?_⟩; rotate_left; (focus (go_simp; first | done | with_reducible rfl)); try simp only [Act.put, List.setIfInBounds_toArray, List.set_cons_zero, List.set_cons_succ])
    (refine wpSeq_mov rfl rfl ?_; intro o ho; simp only [List.getElem?_toArray, List.getElem?_cons_zero, List.getElem?_cons_succ, Option.some.injEq] at ho; subst ho; refine ⟨?_, Or.inl ⟨by rfl, fun W hSW => ?_⟩, ?_⟩; rotate_left; (focus (go_simp; first | done | with_reducible rfl)); try simp only [Act.put, List.setIfInBounds_toArray, List.set_cons_zero, List.set_cons_succ])
    (refine wpSeq_mov rfl rfl ?_; intro o ho; simp only [List.getElem?_toArray, List.getElem?_cons_zero, List.getElem?_cons_succ, Option.some.injEq] at ho; subst ho; refine ⟨?_, Or.inl ⟨by rfl, fun W hSW => ?_⟩, ?_⟩; rotate_left; (focus (go_simp; first | done | with_reducible rfl)); try simp only [Act.put, List.setIfInBounds_toArray, List.set_cons_zero, List.set_cons_succ])
    (refine wpSeq_mov rfl rfl ?_; intro o ho; simp only [List.getElem?_toArray, List.getElem?_cons_zero, List.getElem?_cons_succ, Option.some.injEq] at ho; subst ho; refine ⟨?_, Or.inl ⟨by rfl, fun W hSW => ?_⟩, ?_⟩; rotate_left; (focus (go_simp; first | done | with_reducible rfl)); try simp only [Act.put, List.setIfInBounds_toArray, List.set_cons_zero, List.set_cons_succ])
    (refine wpSeq_mov rfl rfl ?_; intro o ho; simp only [List.getElem?_toArray, List.getElem?_cons_zero, List.getElem?_cons_succ, Option.some.injEq] at ho; subst ho; refine ⟨?_, Or.inl ⟨by rfl, fun W hSW => ?_⟩, ?_⟩; rotate_left; (focus (go_simp; first | done | with_reducible rfl)); try simp only [Act.put, List.setIfInBounds_toArray, List.set_cons_zero, List.set_cons_succ])
    (refine wpSeq_mov rfl rfl ?_; intro o ho; simp only [List.getElem?_toArray, List.getElem?_cons_zero, List.getElem?_cons_succ, Option.some.injEq] at ho; subst ho; refine ⟨?_, Or.inl ⟨by rfl, fun W hSW => ?_⟩, ?_⟩; rotate_left; (focus (go_simp; first | done | with_reducible rfl)); try simp only [Act.put, List.setIfInBounds_toArray, List.set_cons_zero, List.set_cons_succ])
    (refine wpSeq_fix rfl rfl ?_; intro o ho; simp only [List.getElem?_toArray, List.getElem?_cons_zero, List.getElem?_cons_succ, Option.some.injEq] at ho; subst ho; intro K hK)
    go_simp
    refine (CFG.out _ HW2.out).mono ?_
    rintro e v3 ⟨rfl, hb⟩
    have HW3 := Lib.hid (step2 HW2.out hb)
    clear hb
    (refine hK.out _ _ (fun _ => HSB.out _ HW3.out) ?_; clear hK K; try simp only [Act.put, List.setIfInBounds_toArray, List.set_cons_zero, List.set_cons_succ])
    (refine wpSeq_fix rfl rfl ?_; intro o ho; simp only [List.getElem?_toArray, List.getElem?_cons_zero, List.getElem?_cons_succ, Option.some.injEq] at ho; subst ho; intro K hK)
    go_simp
    refine (CRG.out _ HW3.out).mono ?_
    rintro e v4 ⟨rfl, hb⟩
    have HW4 := Lib.hid (step2 HW3.out hb)
    clear hb
    (refine hK.out _ _ (fun _ => HSB.out _ HW4.out) ?_; clear hK K; try simp only [Act.put, List.setIfInBounds_toArray, List.set_cons_zero, List.set_cons_succ])
    (refine wpSeq_mov rfl rfl ?_; intro o ho; simp only [List.getElem?_toArray, List.getElem?_cons_zero, List.getElem?_cons_succ, Option.some.injEq] at ho; subst ho; refine ⟨?_, Or.inl ⟨by rfl, fun W hSW => ?_⟩, ?_⟩; rotate_left; (focus (go_simp; first | done | with_reducible rfl)); try simp only [Act.put, List.setIfInBounds_toArray, List.set_cons_zero, List.set_cons_succ])
    (refine wpSeq_mov rfl rfl ?_; intro o ho; simp only [List.getElem?_toArray, List.getElem?_cons_zero, List.getElem?_cons_succ, Option.some.injEq] at ho; subst ho; refine ⟨?_, Or.inl ⟨by rfl, fun W hSW => ?_⟩, ?_⟩; rotate_left; (focus (go_simp; first | done | with_reducible rfl)); try simp only [Act.put, List.setIfInBounds_toArray, List.set_cons_zero, List.set_cons_succ])
    (refine wpSeq_mov rfl rfl ?_; intro o ho; simp only [List.getElem?_toArray, List.getElem?_cons_zero, List.getElem?_cons_succ, Option.some.injEq] at ho; subst ho; refine ⟨?_, Or.inl ⟨by rfl, fun W hSW => ?_⟩, ?_⟩; rotate_left; (focus (go_simp; first | done | with_reducible rfl)); try simp only [Act.put, List.setIfInBounds_toArray, List.set_cons_zero, List.set_cons_succ])
    (refine wpSeq_mov rfl rfl ?_; intro o ho; simp only [List.getElem?_toArray, List.getElem?_cons_zero, List.getElem?_cons_succ, Option.some.injEq] at ho; subst ho; refine ⟨?_, Or.inl ⟨by rfl, fun W hSW => ?_⟩, ?_⟩; rotate_left; (focus (go_simp; first | done | with_reducible rfl)); try simp only [Act.put, List.setIfInBounds_toArray, List.set_cons_zero, List.set_cons_succ])
    (refine wpSeq_mov rfl rfl ?_; intro o ho; simp only [List.getElem?_toArray, List.getElem?_cons_zero, List.getElem?_cons_succ, Option.some.injEq] at ho; subst ho; refine ⟨?_, Or.inl ⟨by rfl, fun W hSW => ?_⟩, ?_⟩; rotate_left; (focus (go_simp; first | done | with_reducible rfl)); try simp only [Act.put, List.setIfInBounds_toArray, List.set_cons_zero, List.set_cons_succ])
    (refine wpSeq_mov rfl rfl ?_; intro o ho; simp only [List.getElem?_toArray, List.getElem?_cons_zero, List.getElem?_cons_succ, Option.some.injEq] at ho; subst ho; refine ⟨?_, Or.inl ⟨by rfl, fun W hSW => ?_⟩, ?_⟩; rotate_left; (focus (go_simp; first | done | with_reducible rfl)); try simp only [Act.put, List.setIfInBounds_toArray, List.set_cons_zero, List.set_cons_succ])
    try rw [hd]
    (refine wpSeq_mov rfl rfl ?_; intro o ho; simp only [List.getElem?_toArray, List.getElem?_cons_zero, List.getElem?_cons_succ, Option.some.injEq] at ho; subst ho; refine ⟨?_, Or.inl ⟨by rfl, fun W hSW => ?_⟩, ?_⟩; rotate_left; (focus (go_simp; first | done | with_reducible rfl)); try simp only [Act.put, List.setIfInBounds_toArray, List.set_cons_zero, List.set_cons_succ])
    refine wpSeq_done ?_
    have HST4 := Lib.hid (HST.out.after HW4.out)
    have HV4 := Lib.hid (step2 HV.out HW4.out)
    have hx4 : x < v4.heap.size := by have := HW4.out.size; omega
    clear hd HSB CSF CFG CRG HQF HQG HW0 HW1 HW2 HW3 HW4 HST HV hxs hRR
    go_wp2_with fail
    go_loopw [13, 14] (fun pv iv wr => ∃ (i b o lo hi : Nat) (h : Fm) (A' : Option Addr) (c' : Nat), i ≤ 40 ∧ iv = .int .i64 (i : Int) ∧ pv = .pointer (some ⟨b, o, none⟩) ∧ SpSt wr w.heap.size x (x + 1) w1.heap.size x g A2 c2 b o lo hi h A' c' ∧ Below w.heap.size w wr ∧ x < wr.heap.size) (fun _ iv _ => 100 - (intOf iv).toNat)
    case atStart => exact ⟨0, x, 0, _, _, f, A1, c1, by omega, rfl, rfl, HST4.out, HV4.out, hx4⟩
    case round =>
      obtain ⟨i, b, o, lo, hi, h, A', c', hi40, rfl, rfl, hS, hB, hxr⟩ := hrel
      have e3 := hS.a.s
      have z3 := hS.fz (o + 3)
      have HS := Lib.hid hS
      have HB := Lib.hid hB
      clear hS hB
      have tq : IntKind.i64.wrap (k.tdiv 8) = k / 8 := by
        rw [Int.tdiv_eq_ediv_of_nonneg hk0, IntKind.wrap_i64]
        omega
      by_cases hlt : (i : Int) < k / 8
      · by_cases hpos : 0 < h.kids.length
        · obtain ⟨kb, xs, rfl, hn1, hlx, hrd, hone, hdn⟩ := HS.out.down hpos
          have HRD := Lib.hid hrd
          have HONE := Lib.hid hone
          have HDN := Lib.hid hdn
          have HLX := Lib.hid hlx
          clear hrd hone hdn hlx
          obtain ⟨i0, hi0, hz0, hz1, hz2⟩ := info_parts fmInfo
          go_wp2_with ((at_builtin; go_loud (refine wpList_append_own_at (o := ⟨some 62, _, _, _, _, _⟩) _ rfl (.const (.slice none 0 0)) (.tmp 61) _ rfl wr.heap.size 37 i0 _ 4 56 Tryd.underlying35 hi0 hz0 hz1 hz2 rfl (by omega) (.slice none 0 0) 0 [] rfl (World.ownsRow_nil _ _ _ _) _ h.kids.length c' xs rfl HLX.out HRD.out HONE.out (by unfold maxLen; omega) (by omega) (Nat.le_refl _) ?_); intro v9 w9 ho9 hg9 _ _; go_loud (obtain ⟨r, c3, rfl, hrs, hrc, hdn9⟩ := HDN.out w9 v9 (by simpa using ho9) hg9); have HDN9 := Lib.hid hdn9; go_loud (have hb9 : Below wr.heap.size wr w9 := (Below.refl _ _).grown hg9 (Nat.le_refl _) (fun k hk => by cases hk)); have HB9 := Lib.hid hb9; go_loud (have e9 := ((bcell hb9).1 b (o + 3) HS.out.lt).trans e3); go_loud (have z9 := ((bcell hb9).2 b (o + 3) HS.out.lt).trans z3); clear e3 z3 ho9 hg9 hdn9 hb9))
          have hjn : i % h.kids.length < h.kids.length := Nat.mod_lt _ hpos
          obtain ⟨h', A'', c'', lo', hi', hS'⟩ := HDN9.out (i % h.kids.length) hjn
          have hxx : x < w9.heap.size := Nat.lt_of_lt_of_le hxr HB9.out.size
          have e10 := World.cell?_setCell_same w9 ⟨b, o + 3, none⟩ (.slice (some ⟨r, 0, none⟩) h.kids.length c3) e9
          have HS10 := Lib.hid hS'
          have HB10 : Hid (Below w.heap.size w (w9.setCell ⟨b, o + 3, none⟩ (.slice (some ⟨r, 0, none⟩) h.kids.length c3))) := Lib.hid ((step2 HB.out HB9.out).setCell HS.out.bs _)
          have hx10 : x < (w9.setCell ⟨b, o + 3, none⟩ (.slice (some ⟨r, 0, none⟩) h.kids.length c3)).heap.size := by simpa [World.setCell] using hxx
          clear hS' e9 z9 hxx HDN9
          generalize w9.setCell ⟨b, o + 3, none⟩ (.slice (some ⟨r, 0, none⟩) h.kids.length c3) = w10 at e10 HS10 HB10 hx10 ⊢
          have ht : ((i : Nat) : Int).tmod (h.kids.length : Int) = ((i % h.kids.length : Nat) : Int) := by
            rw [Int.tmod_eq_emod_of_nonneg (by omega)]
            omega
          generalize i % h.kids.length = j at hjn HS10 ht
          have hj1 : (j : Int) < (h.kids.length : Int) := by omega
          have hj0 : ¬ h.kids = [] := List.ne_nil_of_length_pos hpos
          refine wp_region_noPanic ?_
          refine wp_region_seq (fun W => W.cell? ⟨b, o + 3, none⟩ = some (.slice (some ⟨r, 0, none⟩) h.kids.length c3)) [0, 4, 5, 1, 2, 3, 6, 7, 8, 9, 10, 11, 12] [0, 1, 2, 3, 4, 5, 6, 7, 8, 9, 10, 11, 12] [] (by kernel_rfl) (by kernel_rfl) rfl (by kernel_rfl) (by kernel_rfl) (fun _ _ _ _ _ h => h) ?_ (fun hSS => ?_)
          · exact e10
          have HB11 := Lib.hid (step2 HB10.out (stepD1 w10))
          have HS11 := Lib.hid (HS10.out.after (stepD1 w10))
          have hx11 : x < w10.drew.heap.size := Nat.lt_of_lt_of_le hx10 (stepD1 w10).size
          clear hSS e10 HB10 HS10 hx10
          generalize w10.drew = w11 at HB11 HS11 hx11 ⊢
          (refine wpSeq_mov rfl rfl ?_; intro o ho; simp only [List.getElem?_toArray, List.getElem?_cons_zero, List.getElem?_cons_succ, Option.some.injEq] at ho; subst ho; refine ⟨?_, Or.inl ⟨by rfl, fun W hSW => ?_⟩, ?_⟩; rotate_left; (focus (go_simp; first | done | with_reducible rfl)); try simp only [Act.put, List.setIfInBounds_toArray, List.set_cons_zero, List.set_cons_succ])
          (refine wpSeq_mov rfl rfl ?_; intro o ho; simp only [List.getElem?_toArray, List.getElem?_cons_zero, List.getElem?_cons_succ, Option.some.injEq] at ho; subst ho; refine ⟨?_, Or.inl ⟨by rfl, fun W hSW => ?_⟩, ?_⟩; rotate_left; (focus (go_simp; first | done | with_reducible rfl)); try simp only [Act.put, List.setIfInBounds_toArray, List.set_cons_zero, List.set_cons_succ])
          (refine wpSeq_mov rfl rfl ?_; intro o ho; simp only [List.getElem?_toArray, List.getElem?_cons_zero, List.getElem?_cons_succ, Option.some.injEq] at ho; subst ho; refine ⟨?_, Or.inl ⟨by rfl, fun W hSW => ?_⟩, ?_⟩; rotate_left; (focus (go_simp; first | done | with_reducible rfl)); try simp only [Act.put, List.setIfInBounds_toArray, List.set_cons_zero, List.set_cons_succ])
          (refine wpSeq_mov rfl rfl ?_; intro o ho; simp only [List.getElem?_toArray, List.getElem?_cons_zero, List.getElem?_cons_succ, Option.some.injEq] at ho; subst ho; refine ⟨?_, Or.inl ⟨by rfl, fun W hSW => ?_⟩, ?_⟩; rotate_left; (focus (go_simp; first | done | with_reducible rfl)); try simp only [Act.put, List.setIfInBounds_toArray, List.set_cons_zero, List.set_cons_succ])
          (refine wpSeq_mov rfl rfl ?_; intro o ho; simp only [List.getElem?_toArray, List.getElem?_cons_zero, List.getElem?_cons_succ, Option.some.injEq] at ho; subst ho; refine ⟨?_, Or.inl ⟨by rfl, fun W hSW => ?_⟩, ?_⟩; rotate_left; (focus (go_simp; first | done | with_reducible rfl)); try simp only [Act.put, List.setIfInBounds_toArray, List.set_cons_zero, List.set_cons_succ])
          (refine wpSeq_mov rfl rfl ?_; intro o ho; simp only [List.getElem?_toArray, List.getElem?_cons_zero, List.getElem?_cons_succ, Option.some.injEq] at ho; subst ho; refine ⟨?_, Or.inl ⟨by rfl, fun W hSW => ?_⟩, ?_⟩; rotate_left; (focus (go_simp; first | done | with_reducible rfl)); try simp only [Act.put, List.setIfInBounds_toArray, List.set_cons_zero, List.set_cons_succ])
          (refine wpSeq_mov rfl rfl ?_; intro o ho; simp only [List.getElem?_toArray, List.getElem?_cons_zero, List.getElem?_cons_succ, Option.some.injEq] at ho; subst ho; refine ⟨?_, Or.inl ⟨by rfl, fun W hSW => ?_⟩, ?_⟩; rotate_left; (focus (go_simp; first | done | with_reducible rfl)); try simp only [Act.put, List.setIfInBounds_toArray, List.set_cons_zero, List.set_cons_succ])
          (refine wpSeq_mov rfl rfl ?_; intro o ho; simp only [List.getElem?_toArray, List.getElem?_cons_zero, List.getElem?_cons_succ, Option.some.injEq] at ho; subst ho; refine ⟨?_, Or.inl ⟨by rfl, fun W hSW => ?_⟩, ?_⟩; rotate_left; (focus (go_simp; first | done | with_reducible rfl)); try simp only [Act.put, List.setIfInBounds_toArray, List.set_cons_zero, List.set_cons_succ])
          (refine wpSeq_mov rfl rfl ?_; intro o ho; simp only [List.getElem?_toArray, List.getElem?_cons_zero, List.getElem?_cons_succ, Option.some.injEq] at ho; subst ho; refine ⟨?_, Or.inl ⟨by rfl, fun W hSW => ?_⟩, ?_⟩; rotate_left; (focus (go_simp; first | done | with_reducible rfl)); try simp only [Act.put, List.setIfInBounds_toArray, List.set_cons_zero, List.set_cons_succ])
          (refine wpSeq_mov rfl rfl ?_; intro o ho; simp only [List.getElem?_toArray, List.getElem?_cons_zero, List.getElem?_cons_succ, Option.some.injEq] at ho; subst ho; refine ⟨?_, Or.inl ⟨by rfl, fun W hSW => ?_⟩, ?_⟩; rotate_left; (focus (go_simp; first | done | with_reducible rfl)); try simp only [Act.put, List.setIfInBounds_toArray, List.set_cons_zero, List.set_cons_succ])
          (refine wpSeq_mov rfl rfl ?_; intro o ho; simp only [List.getElem?_toArray, List.getElem?_cons_zero, List.getElem?_cons_succ, Option.some.injEq] at ho; subst ho; refine ⟨?_, Or.inl ⟨by rfl, fun W hSW => ?_⟩, ?_⟩; rotate_left; (focus (go_simp; first | done | with_reducible rfl)); try simp only [Act.put, List.setIfInBounds_toArray, List.set_cons_zero, List.set_cons_succ])
          (refine wpSeq_mov rfl rfl ?_; intro o ho; simp only [List.getElem?_toArray, List.getElem?_cons_zero, List.getElem?_cons_succ, Option.some.injEq] at ho; subst ho; refine ⟨?_, Or.inl ⟨by rfl, fun W hSW => ?_⟩, ?_⟩; rotate_left; (focus (go_simp; first | done | with_reducible rfl)); try simp only [Act.put, List.setIfInBounds_toArray, List.set_cons_zero, List.set_cons_succ])
          (refine wpSeq_mov rfl rfl ?_; intro o ho; simp only [List.getElem?_toArray, List.getElem?_cons_zero, List.getElem?_cons_succ, Option.some.injEq] at ho; subst ho; refine ⟨?_, Or.inl ⟨by rfl, fun W hSW => ?_⟩, ?_⟩; rotate_left; (focus (go_simp; first | done | with_reducible rfl)); try simp only [Act.put, List.setIfInBounds_toArray, List.set_cons_zero, List.set_cons_succ])
          refine wpSeq_done ?_
          go_wp2_with fail
          go_roundw
          case rel => exact ⟨i + 1, r, j * 4, lo', hi', h', A'', c'', by omega, by go_num, rfl, HS11.out, HB11.out, hx11⟩
          case measure => simp [intOf]; omega
        · have hpos' : h.kids.length = 0 := by omega
          have e0 := HS.out.a.k
          have e1 := HS.out.a.n
          have e2 := HS.out.a.l
          have z0 := HS.out.fz o
          have z1 := HS.out.fz (o + 1)
          have z2 := HS.out.fz (o + 2)
          have hm5 : k % 5 = 0 ∨ k % 5 = 1 ∨ k % 5 = 2 ∨ k % 5 = 3 ∨ k % 5 = 4 := by omega
          rcases hm5 with h5 | h5 | h5 | h5 | h5
          · go_wp2_with fail
            have HWH := Lib.hid (HS.out.kind n HN.out)
            have HBW := Lib.hid (HB.out.setCell (p := ⟨b, o, none⟩) HS.out.bs (.int .i64 n))
            have hxW := (show x < (wr.setCell ⟨b, o, none⟩ (.int .i64 n)).heap.size from (by simp only [World.setCell, Array.size_modify]; exact hxr))
            refine (awake8_any _).mono ?_
            rintro e v7 ⟨rfl, hb⟩
            have hwh := HWH.out.after hb hxW
            have HB7 := Lib.hid (step2 HBW.out hb)
            clear hb
            obtain ⟨ff, Af, cf, ⟨y0, y1, y2, y3⟩, hvf⟩ := hwh
            simp only [Nat.zero_add] at y1 y2 y3
            have CLS := Lib.hid (lsame_any ff Af cf v7 hvf)
            clear hvf
            unfold fmA at CLS
            go_wp2_with fail
            refine CLS.out.mono ?_
            rintro e v8 ⟨rfl, hb⟩
            have HB8 := Lib.hid (step2 HB7.out hb)
            clear hb
            go_wp2_with fail
            go_ret
            exact ⟨rfl, HB8.out⟩
          · go_wp2_with fail
            have HWH := Lib.hid (HS.out.name s HSS.out)
            have HBW := Lib.hid (HB.out.setCell (p := ⟨b, o + 1, none⟩) HS.out.bs (.string s))
            have hxW := (show x < (wr.setCell ⟨b, o + 1, none⟩ (.string s)).heap.size from (by simp only [World.setCell, Array.size_modify]; exact hxr))
            refine (awake8_any _).mono ?_
            rintro e v7 ⟨rfl, hb⟩
            have hwh := HWH.out.after hb hxW
            have HB7 := Lib.hid (step2 HBW.out hb)
            clear hb
            obtain ⟨ff, Af, cf, ⟨y0, y1, y2, y3⟩, hvf⟩ := hwh
            simp only [Nat.zero_add] at y1 y2 y3
            have CLS := Lib.hid (lsame_any ff Af cf v7 hvf)
            clear hvf
            unfold fmA at CLS
            go_wp2_with fail
            refine CLS.out.mono ?_
            rintro e v8 ⟨rfl, hb⟩
            have HB8 := Lib.hid (step2 HB7.out hb)
            clear hb
            go_wp2_with fail
            go_ret
            exact ⟨rfl, HB8.out⟩
          · go_wp2_with fail
            have HWH := Lib.hid (HS.out.lit n)
            have HBW := Lib.hid (HB.out.setCell (p := ⟨b, o + 2, none⟩) HS.out.bs (.int .i64 n))
            have hxW := (show x < (wr.setCell ⟨b, o + 2, none⟩ (.int .i64 n)).heap.size from (by simp only [World.setCell, Array.size_modify]; exact hxr))
            refine (awake8_any _).mono ?_
            rintro e v7 ⟨rfl, hb⟩
            have hwh := HWH.out.after hb hxW
            have HB7 := Lib.hid (step2 HBW.out hb)
            clear hb
            obtain ⟨ff, Af, cf, ⟨y0, y1, y2, y3⟩, hvf⟩ := hwh
            simp only [Nat.zero_add] at y1 y2 y3
            have CLS := Lib.hid (lsame_any ff Af cf v7 hvf)
            clear hvf
            unfold fmA at CLS
            go_wp2_with fail
            refine CLS.out.mono ?_
            rintro e v8 ⟨rfl, hb⟩
            have HB8 := Lib.hid (step2 HB7.out hb)
            clear hb
            go_wp2_with fail
            go_ret
            exact ⟨rfl, HB8.out⟩
          · have HGX := Lib.hid HS.out.gx
            have hg0 := HGX.out.cell 0
            have hg1 := HGX.out.cell 1
            have hg2 := HGX.out.cell 2
            have hg3 := HGX.out.cell 3
            clear e0 e1 e2 z0 z1 z2
            go_wp2_with fail
            try clear hpos'
            refine wp_region_noPanic ?_
            refine wp_region_tree (fun W => W.cell? ⟨b, o + 3, none⟩ = some (.slice A' h.kids.length c') ∧ W.cell? ⟨x + 1, 0, none⟩ = some (.int .i64 g.kind) ∧ W.cell? ⟨x + 1, 1, none⟩ = some (.string ⟨g.name.toArray⟩) ∧ W.cell? ⟨x + 1, 2, none⟩ = some (.int .i64 g.lit) ∧ W.cell? ⟨x + 1, 3, none⟩ = some (.slice A2 g.kids.length c2)) (fun _ => True) (Ord.ofList [0, 4, 1, 2, 3, 5, 6, 7, 8, 10, 11] (.fork 9 (.step 12 .done) 12 (.step 9 .done))) [0, 1, 2, 3, 4, 5] [8, 10, 11] [7, 9, 12] [] (by kernel_rfl) (by kernel_rfl) rfl (by kernel_rfl) (by kernel_rfl) (by kernel_rfl) (fun _ _ _ _ _ h => h) ?_ (fun hSS hRR => ?_)
            · exact ⟨⟨e3, hg0, hg1, hg2, hg3⟩, trivial⟩
            clear hSS hRR HGX e3 z3 hg0 hg1 hg2 hg3
            have HSD := Lib.hid (HS.out.after (stepD1 wr))
            have HBD := Lib.hid (step2 HB.out (stepD1 wr))
            have hxD : x < wr.drew.heap.size := hxr
            clear HB HS hxr
            generalize wr.drew = wq at HSD HBD hxD ⊢
            obtain ⟨L, hLl, hown, hL1, hLb, hpush⟩ := HSD.out.push
            have HOW := Lib.hid hown
            have HPU := Lib.hid hpush
            have HLB := Lib.hid hLb
            clear hown hpush hLb
            have HSA := Lib.hid (HSD.out.after (stepA wq (.cells #[.int .i64 0, .string ⟨#[]⟩, .int .i64 0, .slice none 0 0] 37)))
            (refine wpTree_mov rfl rfl ?_; intro o ho; simp only [List.getElem?_toArray, List.getElem?_cons_zero, List.getElem?_cons_succ, Option.some.injEq] at ho; subst ho; refine ⟨?_, Or.inl ⟨by rfl, fun W hSW => ?_⟩, ?_⟩; rotate_left; (focus (go_simp; first | done | with_reducible rfl)); try simp only [Act.put, List.setIfInBounds_toArray, List.set_cons_zero, List.set_cons_succ])
            (refine wpTree_mov rfl rfl ?_; intro o ho; simp only [List.getElem?_toArray, List.getElem?_cons_zero, List.getElem?_cons_succ, Option.some.injEq] at ho; subst ho; refine ⟨?_, Or.inl ⟨by rfl, fun W hSW => ?_⟩, ?_⟩; rotate_left; (focus (go_simp; first | done | with_reducible rfl)); try simp only [Act.put, List.setIfInBounds_toArray, List.set_cons_zero, List.set_cons_succ])
            (refine wpTree_mov rfl rfl ?_; intro o ho; simp only [List.getElem?_toArray, List.getElem?_cons_zero, List.getElem?_cons_succ, Option.some.injEq] at ho; subst ho; refine ⟨?_, Or.inl ⟨by rfl, fun W hSW => ?_⟩, ?_⟩; rotate_left; (focus (go_simp; first | done | with_reducible rfl)); try simp only [Act.put, List.setIfInBounds_toArray, List.set_cons_zero, List.set_cons_succ])
            (refine wpTree_mov rfl rfl ?_; intro o ho; simp only [List.getElem?_toArray, List.getElem?_cons_zero, List.getElem?_cons_succ, Option.some.injEq] at ho; subst ho; refine ⟨?_, Or.inl ⟨by rfl, fun W hSW => ?_⟩, ?_⟩; rotate_left; (focus (go_simp; first | done | with_reducible rfl)); try simp only [Act.put, List.setIfInBounds_toArray, List.set_cons_zero, List.set_cons_succ])
            (refine wpTree_mov rfl rfl ?_; intro o ho; simp only [List.getElem?_toArray, List.getElem?_cons_zero, List.getElem?_cons_succ, Option.some.injEq] at ho; subst ho; refine ⟨?_, Or.inl ⟨by rfl, fun W hSW => ?_⟩, ?_⟩; rotate_left; (focus (go_simp; first | done | with_reducible rfl)); try simp only [Act.put, List.setIfInBounds_toArray, List.set_cons_zero, List.set_cons_succ])
            (refine wpTree_mov rfl rfl ?_; intro o ho; simp only [List.getElem?_toArray, List.getElem?_cons_zero, List.getElem?_cons_succ, Option.some.injEq] at ho; subst ho; refine ⟨?_, Or.inl ⟨by rfl, fun W hSW => ?_⟩, ?_⟩; rotate_left; (focus (go_simp; first | done | with_reducible rfl)); try simp only [Act.put, List.setIfInBounds_toArray, List.set_cons_zero, List.set_cons_succ])
            (refine wpTree_fix rfl rfl rfl ?_; intro o ho; simp only [List.getElem?_toArray, List.getElem?_cons_zero, List.getElem?_cons_succ, Option.some.injEq] at ho; subst ho; intro K hK)
            go_simp
            (refine hK.out _ _ (fun _ _ => ⟨HSA.out.a.s, HSA.out.gx.cell 0, HSA.out.gx.cell 1, HSA.out.gx.cell 2, HSA.out.gx.cell 3⟩) (fun _ _ => trivial) ?_; clear hK K; try simp only [Act.put, List.setIfInBounds_toArray, List.set_cons_zero, List.set_cons_succ])
            (refine wpTree_fix rfl rfl rfl ?_; intro o ho; simp only [List.getElem?_toArray, List.getElem?_cons_zero, List.getElem?_cons_succ, Option.some.injEq] at ho; subst ho; intro K hK)
            have hbl : w.heap.size ≤ (wq.alloc (.cells #[.int .i64 0, .string ⟨#[]⟩, .int .i64 0, .slice none 0 0] 37)).heap.size := by
              have := HSD.out.bs
              have := HSD.out.lt
              simp
              omega
            refine step_append_fm rfl (.tmp 106) (.tmp 109) rfl w.heap.size L (.slice A' h.kids.length c') rfl (own_below HOW.out (stepA wq (.cells #[.int .i64 0, .string ⟨#[]⟩, .int .i64 0, .slice none 0 0] 37))) wq.heap.size (.mk 0 [] 0 []) none 0 rfl (Blk.new _ _ _) hL1 hbl ?_
            intro A9 c9 w9 ho9 hc9 hg9 hat9
            obtain ⟨r, rfl, hrb, hrs, hrl, hrf, hat, hold, hfin⟩ := HPU.out (wq.alloc (.cells #[.int .i64 0, .string ⟨#[]⟩, .int .i64 0, .slice none 0 0] 37)) w9 A9 c9 (by simp) (fun k hk => Lib.alloc_old wq _ k hk) ho9 hg9 hat9
            rw [hLl] at hat hfin ⊢
            have hbb := hold b HSD.out.lt HSD.out.out
            have e9 : w9.cell? ⟨b, o + 3, none⟩ = some (.slice A' h.kids.length c') := by
              have := HSD.out.a.s
              simp only [World.cell?, hbb] at this ⊢
              exact this
            have z9 : w9.frozen? ⟨b, o + 3, none⟩ = false := by
              have := HSD.out.fz (o + 3)
              simp only [World.frozen?, hbb] at this ⊢
              exact this
            have HB9 := Lib.hid ((step2 HBD.out (stepA wq (.cells #[.int .i64 0, .string ⟨#[]⟩, .int .i64 0, .slice none 0 0] 37))).grown hg9 (by have := HBD.out.size; simp; omega) (fun k hk => Nat.le_trans HSD.out.low (HLB.out k hk).1))
            have hx9 : x < w9.heap.size := by
              have := hg9.size
              rw [World.size_alloc] at this
              omega
            have HFA := Lib.hid (fill_a (v := (.slice (some ⟨r, 0, none⟩) (h.kids.length + 1) c9)) hrb hat e9 hfin)
            have HFB := Lib.hid (fill_b (v := (.slice (some ⟨r, 0, none⟩) (h.kids.length + 1) c9)) hrb hat e9 hfin)
            have q0 := hat.k
            have q1 := hat.n
            have q2 := hat.l
            have q3 := hat.s
            have f0 := hrf (h.kids.length * 4)
            have f1 := hrf (h.kids.length * 4 + 1)
            have f2 := hrf (h.kids.length * 4 + 2)
            have f3 := hrf (h.kids.length * 4 + 3)
            have hrb' : ¬ b = r := fun e => hrb e.symm
            have hkl : (h.kids.length : Int) < (h.kids.length : Int) + 1 := by omega
            clear hfin hat hold ho9 hg9 hat9 hbb hrf HPU HOW HLB HSA hbl hc9
            (refine hK.out _ _ (fun h => by simp at h) (fun _ _ => trivial) ?_; clear hK K; try simp only [Act.put, List.setIfInBounds_toArray, List.set_cons_zero, List.set_cons_succ])
            (refine wpTree_movR rfl rfl rfl ?_; intro o ho; simp only [List.getElem?_toArray, List.getElem?_cons_zero, List.getElem?_cons_succ, Option.some.injEq] at ho; subst ho; refine ⟨?_, Or.inl ⟨by rfl, fun W hSW => ?_⟩, ?_⟩; rotate_left; (focus (go_simp; first | done | with_reducible rfl)); try simp only [Act.put, List.setIfInBounds_toArray, List.set_cons_zero, List.set_cons_succ])
            (refine wpTree_movR rfl rfl rfl ?_; intro o ho; simp only [List.getElem?_toArray, List.getElem?_cons_zero, List.getElem?_cons_succ, Option.some.injEq] at ho; subst ho; refine ⟨?_, Or.inl ⟨by rfl, fun W hSW => ?_⟩, ?_⟩; rotate_left; (focus (go_simp; first | done | with_reducible rfl)); try simp only [Act.put, List.setIfInBounds_toArray, List.set_cons_zero, List.set_cons_succ])
            (refine wpTree_movR rfl rfl rfl ?_; intro o ho; simp only [List.getElem?_toArray, List.getElem?_cons_zero, List.getElem?_cons_succ, Option.some.injEq] at ho; subst ho; refine ⟨?_, Or.inl ⟨by rfl, fun W hSW => ?_⟩, ?_⟩; rotate_left; (focus (go_simp; first | done | with_reducible rfl)); try simp only [Act.put, List.setIfInBounds_toArray, List.set_cons_zero, List.set_cons_succ])
            refine wpTree_fork ?_ ?_
            · skip
              (refine fixW_of rfl ?_; intro o ho; simp only [List.getElem?_toArray, List.getElem?_cons_zero, List.getElem?_cons_succ, Option.some.injEq] at ho; subst ho; intro K hK)
              go_simp
              (refine hK.out _ _ (fun h => by simp at h) (fun _ _ => trivial) ?_; clear hK K; try simp only [Act.put, List.setIfInBounds_toArray, List.set_cons_zero, List.set_cons_succ])
              (refine wpTree_fix rfl rfl rfl ?_; intro o ho; simp only [List.getElem?_toArray, List.getElem?_cons_zero, List.getElem?_cons_succ, Option.some.injEq] at ho; subst ho; intro K hK)
              go_simp
              (refine hK.out _ _ (fun h => by simp at h) (fun _ _ => trivial) ?_; clear hK K; try simp only [Act.put, List.setIfInBounds_toArray, List.set_cons_zero, List.set_cons_succ])
              refine wpTree_done ?_
              clear e9 z9 q0 q1 q2 q3 f0 f1 f2 f3
              go_wp2_with fail
              have HWH := Lib.hid (HFA.out)
              have HBW := Lib.hid ((((((HB9.out.setCell (p := ⟨r, h.kids.length * 4, none⟩) hrs (.int .i64 g.kind)).setCell (p := ⟨r, h.kids.length * 4 + 1, none⟩) hrs (.string ⟨g.name.toArray⟩)).setCell (p := ⟨r, h.kids.length * 4 + 2, none⟩) hrs (.int .i64 g.lit)).setCell (p := ⟨r, h.kids.length * 4 + 3, none⟩) hrs (.slice A2 g.kids.length c2)).setCell (p := ⟨b, o + 3, none⟩) HSD.out.bs (.slice (some ⟨r, 0, none⟩) (h.kids.length + 1) c9)))
              have hxW := (show x < (((((w9.setCell ⟨r, h.kids.length * 4, none⟩ (.int .i64 g.kind)).setCell ⟨r, h.kids.length * 4 + 1, none⟩ (.string ⟨g.name.toArray⟩)).setCell ⟨r, h.kids.length * 4 + 2, none⟩ (.int .i64 g.lit)).setCell ⟨r, h.kids.length * 4 + 3, none⟩ (.slice A2 g.kids.length c2)).setCell ⟨b, o + 3, none⟩ (.slice (some ⟨r, 0, none⟩) (h.kids.length + 1) c9)).heap.size from (by simp only [World.setCell, Array.size_modify]; exact hx9))
              refine (awake8_any _).mono ?_
              rintro e v7 ⟨rfl, hb⟩
              have hwh := HWH.out.after hb hxW
              have HB7 := Lib.hid (step2 HBW.out hb)
              clear hb
              obtain ⟨ff, Af, cf, ⟨y0, y1, y2, y3⟩, hvf⟩ := hwh
              simp only [Nat.zero_add] at y1 y2 y3
              have CLS := Lib.hid (lsame_any ff Af cf v7 hvf)
              clear hvf
              unfold fmA at CLS
              go_wp2_with fail
              refine CLS.out.mono ?_
              rintro e v8 ⟨rfl, hb⟩
              have HB8 := Lib.hid (step2 HB7.out hb)
              clear hb
              go_wp2_with fail
              go_ret
              exact ⟨rfl, HB8.out⟩
            · skip
              (refine fixW_of rfl ?_; intro o ho; simp only [List.getElem?_toArray, List.getElem?_cons_zero, List.getElem?_cons_succ, Option.some.injEq] at ho; subst ho; intro K hK)
              go_simp
              (refine hK.out _ _ (fun h => by simp at h) (fun _ _ => trivial) ?_; clear hK K; try simp only [Act.put, List.setIfInBounds_toArray, List.set_cons_zero, List.set_cons_succ])
              (refine wpTree_fix rfl rfl rfl ?_; intro o ho; simp only [List.getElem?_toArray, List.getElem?_cons_zero, List.getElem?_cons_succ, Option.some.injEq] at ho; subst ho; intro K hK)
              go_simp
              (refine hK.out _ _ (fun h => by simp at h) (fun _ _ => trivial) ?_; clear hK K; try simp only [Act.put, List.setIfInBounds_toArray, List.set_cons_zero, List.set_cons_succ])
              refine wpTree_done ?_
              clear e9 z9 q0 q1 q2 q3 f0 f1 f2 f3
              go_wp2_with fail
              have HWH := Lib.hid (HFB.out)
              have HBW := Lib.hid ((((((HB9.out.setCell (p := ⟨b, o + 3, none⟩) HSD.out.bs (.slice (some ⟨r, 0, none⟩) (h.kids.length + 1) c9)).setCell (p := ⟨r, h.kids.length * 4, none⟩) hrs (.int .i64 g.kind)).setCell (p := ⟨r, h.kids.length * 4 + 1, none⟩) hrs (.string ⟨g.name.toArray⟩)).setCell (p := ⟨r, h.kids.length * 4 + 2, none⟩) hrs (.int .i64 g.lit)).setCell (p := ⟨r, h.kids.length * 4 + 3, none⟩) hrs (.slice A2 g.kids.length c2)))
              have hxW := (show x < (((((w9.setCell ⟨b, o + 3, none⟩ (.slice (some ⟨r, 0, none⟩) (h.kids.length + 1) c9)).setCell ⟨r, h.kids.length * 4, none⟩ (.int .i64 g.kind)).setCell ⟨r, h.kids.length * 4 + 1, none⟩ (.string ⟨g.name.toArray⟩)).setCell ⟨r, h.kids.length * 4 + 2, none⟩ (.int .i64 g.lit)).setCell ⟨r, h.kids.length * 4 + 3, none⟩ (.slice A2 g.kids.length c2)).heap.size from (by simp only [World.setCell, Array.size_modify]; exact hx9))
              refine (awake8_any _).mono ?_
              rintro e v7 ⟨rfl, hb⟩
              have hwh := HWH.out.after hb hxW
              have HB7 := Lib.hid (step2 HBW.out hb)
              clear hb
              obtain ⟨ff, Af, cf, ⟨y0, y1, y2, y3⟩, hvf⟩ := hwh
              simp only [Nat.zero_add] at y1 y2 y3
              have CLS := Lib.hid (lsame_any ff Af cf v7 hvf)
              clear hvf
              unfold fmA at CLS
              go_wp2_with fail
              refine CLS.out.mono ?_
              rintro e v8 ⟨rfl, hb⟩
              have HB8 := Lib.hid (step2 HB7.out hb)
              clear hb
              go_wp2_with fail
              go_ret
              exact ⟨rfl, HB8.out⟩
          · have HAT : Hid (Calls Tryd.prog 26 #[.string s] wr (Ret wr (.agg #[.int .i64 3, .string s, .int .i64 0, .slice none 0 0]))) := Lib.hid (latom_any s wr)
            go_wp2_with fail
            refine HAT.out.mono ?_
            rintro e v5 ⟨rfl, hb⟩
            have HS5 := Lib.hid (HS.out.after hb)
            have HB5 := Lib.hid (step2 HB.out hb)
            have hx5 := Nat.lt_of_lt_of_le hxr hb.size
            clear hb e0 e1 e2 e3 z0 z1 z2 z3
            have e0 := HS5.out.a.k
            have e1 := HS5.out.a.n
            have e2 := HS5.out.a.l
            have e3 := HS5.out.a.s
            have z0 := HS5.out.fz o
            have z1 := HS5.out.fz (o + 1)
            have z2 := HS5.out.fz (o + 2)
            have z3 := HS5.out.fz (o + 3)
            go_wp2_with fail
            have HWH := Lib.hid (HS5.out.atom s HSS.out)
            have HBW := Lib.hid ((((HB5.out.setCell (p := ⟨b, o, none⟩) HS5.out.bs (.int .i64 3)).setCell (p := ⟨b, o + 1, none⟩) HS5.out.bs (.string s)).setCell (p := ⟨b, o + 2, none⟩) HS5.out.bs (.int .i64 0)).setCell (p := ⟨b, o + 3, none⟩) HS5.out.bs (.slice none 0 0))
            have hxW := (show x < ((((v5.setCell ⟨b, o, none⟩ (.int .i64 3)).setCell ⟨b, o + 1, none⟩ (.string s)).setCell ⟨b, o + 2, none⟩ (.int .i64 0)).setCell ⟨b, o + 3, none⟩ (.slice none 0 0)).heap.size from (by simp only [World.setCell, Array.size_modify]; exact hx5))
            refine (awake8_any _).mono ?_
            rintro e v7 ⟨rfl, hb⟩
            have hwh := HWH.out.after hb hxW
            have HB7 := Lib.hid (step2 HBW.out hb)
            clear hb
            obtain ⟨ff, Af, cf, ⟨y0, y1, y2, y3⟩, hvf⟩ := hwh
            simp only [Nat.zero_add] at y1 y2 y3
            have CLS := Lib.hid (lsame_any ff Af cf v7 hvf)
            clear hvf
            unfold fmA at CLS
            go_wp2_with fail
            refine CLS.out.mono ?_
            rintro e v8 ⟨rfl, hb⟩
            have HB8 := Lib.hid (step2 HB7.out hb)
            clear hb
            go_wp2_with fail
            go_ret
            exact ⟨rfl, HB8.out⟩

      · skip
        have e0 := HS.out.a.k
        have e1 := HS.out.a.n
        have e2 := HS.out.a.l
        have z0 := HS.out.fz o
        have z1 := HS.out.fz (o + 1)
        have z2 := HS.out.fz (o + 2)
        have hm5 : k % 5 = 0 ∨ k % 5 = 1 ∨ k % 5 = 2 ∨ k % 5 = 3 ∨ k % 5 = 4 := by omega
        rcases hm5 with h5 | h5 | h5 | h5 | h5
        · go_wp2_with fail
          have HWH := Lib.hid (HS.out.kind n HN.out)
          have HBW := Lib.hid (HB.out.setCell (p := ⟨b, o, none⟩) HS.out.bs (.int .i64 n))
          have hxW := (show x < (wr.setCell ⟨b, o, none⟩ (.int .i64 n)).heap.size from (by simp only [World.setCell, Array.size_modify]; exact hxr))
          refine (awake8_any _).mono ?_
          rintro e v7 ⟨rfl, hb⟩
          have hwh := HWH.out.after hb hxW
          have HB7 := Lib.hid (step2 HBW.out hb)
          clear hb
          obtain ⟨ff, Af, cf, ⟨y0, y1, y2, y3⟩, hvf⟩ := hwh
          simp only [Nat.zero_add] at y1 y2 y3
          have CLS := Lib.hid (lsame_any ff Af cf v7 hvf)
          clear hvf
          unfold fmA at CLS
          go_wp2_with fail
          refine CLS.out.mono ?_
          rintro e v8 ⟨rfl, hb⟩
          have HB8 := Lib.hid (step2 HB7.out hb)
          clear hb
          go_wp2_with fail
          go_ret
          exact ⟨rfl, HB8.out⟩
        · go_wp2_with fail
          have HWH := Lib.hid (HS.out.name s HSS.out)
          have HBW := Lib.hid (HB.out.setCell (p := ⟨b, o + 1, none⟩) HS.out.bs (.string s))
          have hxW := (show x < (wr.setCell ⟨b, o + 1, none⟩ (.string s)).heap.size from (by simp only [World.setCell, Array.size_modify]; exact hxr))
          refine (awake8_any _).mono ?_
          rintro e v7 ⟨rfl, hb⟩
          have hwh := HWH.out.after hb hxW
          have HB7 := Lib.hid (step2 HBW.out hb)
          clear hb
          obtain ⟨ff, Af, cf, ⟨y0, y1, y2, y3⟩, hvf⟩ := hwh
          simp only [Nat.zero_add] at y1 y2 y3
          have CLS := Lib.hid (lsame_any ff Af cf v7 hvf)
          clear hvf
          unfold fmA at CLS
          go_wp2_with fail
          refine CLS.out.mono ?_
          rintro e v8 ⟨rfl, hb⟩
          have HB8 := Lib.hid (step2 HB7.out hb)
          clear hb
          go_wp2_with fail
          go_ret
          exact ⟨rfl, HB8.out⟩
        · go_wp2_with fail
          have HWH := Lib.hid (HS.out.lit n)
          have HBW := Lib.hid (HB.out.setCell (p := ⟨b, o + 2, none⟩) HS.out.bs (.int .i64 n))
          have hxW := (show x < (wr.setCell ⟨b, o + 2, none⟩ (.int .i64 n)).heap.size from (by simp only [World.setCell, Array.size_modify]; exact hxr))
          refine (awake8_any _).mono ?_
          rintro e v7 ⟨rfl, hb⟩
          have hwh := HWH.out.after hb hxW
          have HB7 := Lib.hid (step2 HBW.out hb)
          clear hb
          obtain ⟨ff, Af, cf, ⟨y0, y1, y2, y3⟩, hvf⟩ := hwh
          simp only [Nat.zero_add] at y1 y2 y3
          have CLS := Lib.hid (lsame_any ff Af cf v7 hvf)
          clear hvf
          unfold fmA at CLS
          go_wp2_with fail
          refine CLS.out.mono ?_
          rintro e v8 ⟨rfl, hb⟩
          have HB8 := Lib.hid (step2 HB7.out hb)
          clear hb
          go_wp2_with fail
          go_ret
          exact ⟨rfl, HB8.out⟩
        · have HGX := Lib.hid HS.out.gx
          have hg0 := HGX.out.cell 0
          have hg1 := HGX.out.cell 1
          have hg2 := HGX.out.cell 2
          have hg3 := HGX.out.cell 3
          clear e0 e1 e2 z0 z1 z2
          go_wp2_with fail
          try clear hpos'
          refine wp_region_noPanic ?_
          refine wp_region_tree (fun W => W.cell? ⟨b, o + 3, none⟩ = some (.slice A' h.kids.length c') ∧ W.cell? ⟨x + 1, 0, none⟩ = some (.int .i64 g.kind) ∧ W.cell? ⟨x + 1, 1, none⟩ = some (.string ⟨g.name.toArray⟩) ∧ W.cell? ⟨x + 1, 2, none⟩ = some (.int .i64 g.lit) ∧ W.cell? ⟨x + 1, 3, none⟩ = some (.slice A2 g.kids.length c2)) (fun _ => True) (Ord.ofList [0, 4, 1, 2, 3, 5, 6, 7, 8, 10, 11] (.fork 9 (.step 12 .done) 12 (.step 9 .done))) [0, 1, 2, 3, 4, 5] [8, 10, 11] [7, 9, 12] [] (by kernel_rfl) (by kernel_rfl) rfl (by kernel_rfl) (by kernel_rfl) (by kernel_rfl) (fun _ _ _ _ _ h => h) ?_ (fun hSS hRR => ?_)
          · exact ⟨⟨e3, hg0, hg1, hg2, hg3⟩, trivial⟩
          clear hSS hRR HGX e3 z3 hg0 hg1 hg2 hg3
          have HSD := Lib.hid (HS.out.after (stepD1 wr))
          have HBD := Lib.hid (step2 HB.out (stepD1 wr))
          have hxD : x < wr.drew.heap.size := hxr
          clear HB HS hxr
          generalize wr.drew = wq at HSD HBD hxD ⊢
          obtain ⟨L, hLl, hown, hL1, hLb, hpush⟩ := HSD.out.push
          have HOW := Lib.hid hown
          have HPU := Lib.hid hpush
          have HLB := Lib.hid hLb
          clear hown hpush hLb
          have HSA := Lib.hid (HSD.out.after (stepA wq (.cells #[.int .i64 0, .string ⟨#[]⟩, .int .i64 0, .slice none 0 0] 37)))
          (refine wpTree_mov rfl rfl ?_; intro o ho; simp only [List.getElem?_toArray, List.getElem?_cons_zero, List.getElem?_cons_succ, Option.some.injEq] at ho; subst ho; refine ⟨?_, Or.inl ⟨by rfl, fun W hSW => ?_⟩, ?_⟩; rotate_left; (focus (go_simp; first | done | with_reducible rfl)); try simp only [Act.put, List.setIfInBounds_toArray, List.set_cons_zero, List.set_cons_succ])
          (refine wpTree_mov rfl rfl ?_; intro o ho; simp only [List.getElem?_toArray, List.getElem?_cons_zero, List.getElem?_cons_succ, Option.some.injEq] at ho; subst ho; refine ⟨?_, Or.inl ⟨by rfl, fun W hSW => ?_⟩, ?_⟩; rotate_left; (focus (go_simp; first | done | with_reducible rfl)); try simp only [Act.put, List.setIfInBounds_toArray, List.set_cons_zero, List.set_cons_succ])
          (refine wpTree_mov rfl rfl ?_; intro o ho; simp only [List.getElem?_toArray, List.getElem?_cons_zero, List.getElem?_cons_succ, Option.some.injEq] at ho; subst ho; refine ⟨?_, Or.inl ⟨by rfl, fun W hSW => ?_⟩, ?_⟩; rotate_left; (focus (go_simp; first | done | with_reducible rfl)); try simp only [Act.put, List.setIfInBounds_toArray, List.set_cons_zero, List.set_cons_succ])
          (refine wpTree_mov rfl rfl ?_; intro o ho; simp only [List.getElem?_toArray, List.getElem?_cons_zero, List.getElem?_cons_succ, Option.some.injEq] at ho; subst ho; refine ⟨?_, Or.inl ⟨by rfl, fun W hSW => ?_⟩, ?_⟩; rotate_left; (focus (go_simp; first | done | with_reducible rfl)); try simp only [Act.put, List.setIfInBounds_toArray, List.set_cons_zero, List.set_cons_succ])
          (refine wpTree_mov rfl rfl ?_; intro o ho; simp only [List.getElem?_toArray, List.getElem?_cons_zero, List.getElem?_cons_succ, Option.some.injEq] at ho; subst ho; refine ⟨?_, Or.inl ⟨by rfl, fun W hSW => ?_⟩, ?_⟩; rotate_left; (focus (go_simp; first | done | with_reducible rfl)); try simp only [Act.put, List.setIfInBounds_toArray, List.set_cons_zero, List.set_cons_succ])
          (refine wpTree_mov rfl rfl ?_; intro o ho; simp only [List.getElem?_toArray, List.getElem?_cons_zero, List.getElem?_cons_succ, Option.some.injEq] at ho; subst ho; refine ⟨?_, Or.inl ⟨by rfl, fun W hSW => ?_⟩, ?_⟩; rotate_left; (focus (go_simp; first | done | with_reducible rfl)); try simp only [Act.put, List.setIfInBounds_toArray, List.set_cons_zero, List.set_cons_succ])
          (refine wpTree_fix rfl rfl rfl ?_; intro o ho; simp only [List.getElem?_toArray, List.getElem?_cons_zero, List.getElem?_cons_succ, Option.some.injEq] at ho; subst ho; intro K hK)
          go_simp
          (refine hK.out _ _ (fun _ _ => ⟨HSA.out.a.s, HSA.out.gx.cell 0, HSA.out.gx.cell 1, HSA.out.gx.cell 2, HSA.out.gx.cell 3⟩) (fun _ _ => trivial) ?_; clear hK K; try simp only [Act.put, List.setIfInBounds_toArray, List.set_cons_zero, List.set_cons_succ])
          (refine wpTree_fix rfl rfl rfl ?_; intro o ho; simp only [List.getElem?_toArray, List.getElem?_cons_zero, List.getElem?_cons_succ, Option.some.injEq] at ho; subst ho; intro K hK)
          have hbl : w.heap.size ≤ (wq.alloc (.cells #[.int .i64 0, .string ⟨#[]⟩, .int .i64 0, .slice none 0 0] 37)).heap.size := by
            have := HSD.out.bs
            have := HSD.out.lt
            simp
            omega
          refine step_append_fm rfl (.tmp 106) (.tmp 109) rfl w.heap.size L (.slice A' h.kids.length c') rfl (own_below HOW.out (stepA wq (.cells #[.int .i64 0, .string ⟨#[]⟩, .int .i64 0, .slice none 0 0] 37))) wq.heap.size (.mk 0 [] 0 []) none 0 rfl (Blk.new _ _ _) hL1 hbl ?_
          intro A9 c9 w9 ho9 hc9 hg9 hat9
          obtain ⟨r, rfl, hrb, hrs, hrl, hrf, hat, hold, hfin⟩ := HPU.out (wq.alloc (.cells #[.int .i64 0, .string ⟨#[]⟩, .int .i64 0, .slice none 0 0] 37)) w9 A9 c9 (by simp) (fun k hk => Lib.alloc_old wq _ k hk) ho9 hg9 hat9
          rw [hLl] at hat hfin ⊢
          have hbb := hold b HSD.out.lt HSD.out.out
          have e9 : w9.cell? ⟨b, o + 3, none⟩ = some (.slice A' h.kids.length c') := by
            have := HSD.out.a.s
            simp only [World.cell?, hbb] at this ⊢
            exact this
          have z9 : w9.frozen? ⟨b, o + 3, none⟩ = false := by
            have := HSD.out.fz (o + 3)
            simp only [World.frozen?, hbb] at this ⊢
            exact this
          have HB9 := Lib.hid ((step2 HBD.out (stepA wq (.cells #[.int .i64 0, .string ⟨#[]⟩, .int .i64 0, .slice none 0 0] 37))).grown hg9 (by have := HBD.out.size; simp; omega) (fun k hk => Nat.le_trans HSD.out.low (HLB.out k hk).1))
          have hx9 : x < w9.heap.size := by
            have := hg9.size
            rw [World.size_alloc] at this
            omega
          have HFA := Lib.hid (fill_a (v := (.slice (some ⟨r, 0, none⟩) (h.kids.length + 1) c9)) hrb hat e9 hfin)
          have HFB := Lib.hid (fill_b (v := (.slice (some ⟨r, 0, none⟩) (h.kids.length + 1) c9)) hrb hat e9 hfin)
          have q0 := hat.k
          have q1 := hat.n
          have q2 := hat.l
          have q3 := hat.s
          have f0 := hrf (h.kids.length * 4)
          have f1 := hrf (h.kids.length * 4 + 1)
          have f2 := hrf (h.kids.length * 4 + 2)
          have f3 := hrf (h.kids.length * 4 + 3)
          have hrb' : ¬ b = r := fun e => hrb e.symm
          have hkl : (h.kids.length : Int) < (h.kids.length : Int) + 1 := by omega
          clear hfin hat hold ho9 hg9 hat9 hbb hrf HPU HOW HLB HSA hbl hc9
          (refine hK.out _ _ (fun h => by simp at h) (fun _ _ => trivial) ?_; clear hK K; try simp only [Act.put, List.setIfInBounds_toArray, List.set_cons_zero, List.set_cons_succ])
          (refine wpTree_movR rfl rfl rfl ?_; intro o ho; simp only [List.getElem?_toArray, List.getElem?_cons_zero, List.getElem?_cons_succ, Option.some.injEq] at ho; subst ho; refine ⟨?_, Or.inl ⟨by rfl, fun W hSW => ?_⟩, ?_⟩; rotate_left; (focus (go_simp; first | done | with_reducible rfl)); try simp only [Act.put, List.setIfInBounds_toArray, List.set_cons_zero, List.set_cons_succ])
          (refine wpTree_movR rfl rfl rfl ?_; intro o ho; simp only [List.getElem?_toArray, List.getElem?_cons_zero, List.getElem?_cons_succ, Option.some.injEq] at ho; subst ho; refine ⟨?_, Or.inl ⟨by rfl, fun W hSW => ?_⟩, ?_⟩; rotate_left; (focus (go_simp; first | done | with_reducible rfl)); try simp only [Act.put, List.setIfInBounds_toArray, List.set_cons_zero, List.set_cons_succ])
          (refine wpTree_movR rfl rfl rfl ?_; intro o ho; simp only [List.getElem?_toArray, List.getElem?_cons_zero, List.getElem?_cons_succ, Option.some.injEq] at ho; subst ho; refine ⟨?_, Or.inl ⟨by rfl, fun W hSW => ?_⟩, ?_⟩; rotate_left; (focus (go_simp; first | done | with_reducible rfl)); try simp only [Act.put, List.setIfInBounds_toArray, List.set_cons_zero, List.set_cons_succ])
          refine wpTree_fork ?_ ?_
          · skip
            (refine fixW_of rfl ?_; intro o ho; simp only [List.getElem?_toArray, List.getElem?_cons_zero, List.getElem?_cons_succ, Option.some.injEq] at ho; subst ho; intro K hK)
            go_simp
            (refine hK.out _ _ (fun h => by simp at h) (fun _ _ => trivial) ?_; clear hK K; try simp only [Act.put, List.setIfInBounds_toArray, List.set_cons_zero, List.set_cons_succ])
            (refine wpTree_fix rfl rfl rfl ?_; intro o ho; simp only [List.getElem?_toArray, List.getElem?_cons_zero, List.getElem?_cons_succ, Option.some.injEq] at ho; subst ho; intro K hK)
            go_simp
            (refine hK.out _ _ (fun h => by simp at h) (fun _ _ => trivial) ?_; clear hK K; try simp only [Act.put, List.setIfInBounds_toArray, List.set_cons_zero, List.set_cons_succ])
            refine wpTree_done ?_
            clear e9 z9 q0 q1 q2 q3 f0 f1 f2 f3
            go_wp2_with fail
            have HWH := Lib.hid (HFA.out)
            have HBW := Lib.hid ((((((HB9.out.setCell (p := ⟨r, h.kids.length * 4, none⟩) hrs (.int .i64 g.kind)).setCell (p := ⟨r, h.kids.length * 4 + 1, none⟩) hrs (.string ⟨g.name.toArray⟩)).setCell (p := ⟨r, h.kids.length * 4 + 2, none⟩) hrs (.int .i64 g.lit)).setCell (p := ⟨r, h.kids.length * 4 + 3, none⟩) hrs (.slice A2 g.kids.length c2)).setCell (p := ⟨b, o + 3, none⟩) HSD.out.bs (.slice (some ⟨r, 0, none⟩) (h.kids.length + 1) c9)))
            have hxW := (show x < (((((w9.setCell ⟨r, h.kids.length * 4, none⟩ (.int .i64 g.kind)).setCell ⟨r, h.kids.length * 4 + 1, none⟩ (.string ⟨g.name.toArray⟩)).setCell ⟨r, h.kids.length * 4 + 2, none⟩ (.int .i64 g.lit)).setCell ⟨r, h.kids.length * 4 + 3, none⟩ (.slice A2 g.kids.length c2)).setCell ⟨b, o + 3, none⟩ (.slice (some ⟨r, 0, none⟩) (h.kids.length + 1) c9)).heap.size from (by simp only [World.setCell, Array.size_modify]; exact hx9))
            refine (awake8_any _).mono ?_
            rintro e v7 ⟨rfl, hb⟩
            have hwh := HWH.out.after hb hxW
            have HB7 := Lib.hid (step2 HBW.out hb)
            clear hb
            obtain ⟨ff, Af, cf, ⟨y0, y1, y2, y3⟩, hvf⟩ := hwh
            simp only [Nat.zero_add] at y1 y2 y3
            have CLS := Lib.hid (lsame_any ff Af cf v7 hvf)
            clear hvf
            unfold fmA at CLS
            go_wp2_with fail
            refine CLS.out.mono ?_
            rintro e v8 ⟨rfl, hb⟩
            have HB8 := Lib.hid (step2 HB7.out hb)
            clear hb
            go_wp2_with fail
            go_ret
            exact ⟨rfl, HB8.out⟩
          · skip
            (refine fixW_of rfl ?_; intro o ho; simp only [List.getElem?_toArray, List.getElem?_cons_zero, List.getElem?_cons_succ, Option.some.injEq] at ho; subst ho; intro K hK)
            go_simp
            (refine hK.out _ _ (fun h => by simp at h) (fun _ _ => trivial) ?_; clear hK K; try simp only [Act.put, List.setIfInBounds_toArray, List.set_cons_zero, List.set_cons_succ])
            (refine wpTree_fix rfl rfl rfl ?_; intro o ho; simp only [List.getElem?_toArray, List.getElem?_cons_zero, List.getElem?_cons_succ, Option.some.injEq] at ho; subst ho; intro K hK)
            go_simp
            (refine hK.out _ _ (fun h => by simp at h) (fun _ _ => trivial) ?_; clear hK K; try simp only [Act.put, List.setIfInBounds_toArray, List.set_cons_zero, List.set_cons_succ])
            refine wpTree_done ?_
            clear e9 z9 q0 q1 q2 q3 f0 f1 f2 f3
            go_wp2_with fail
            have HWH := Lib.hid (HFB.out)
            have HBW := Lib.hid ((((((HB9.out.setCell (p := ⟨b, o + 3, none⟩) HSD.out.bs (.slice (some ⟨r, 0, none⟩) (h.kids.length + 1) c9)).setCell (p := ⟨r, h.kids.length * 4, none⟩) hrs (.int .i64 g.kind)).setCell (p := ⟨r, h.kids.length * 4 + 1, none⟩) hrs (.string ⟨g.name.toArray⟩)).setCell (p := ⟨r, h.kids.length * 4 + 2, none⟩) hrs (.int .i64 g.lit)).setCell (p := ⟨r, h.kids.length * 4 + 3, none⟩) hrs (.slice A2 g.kids.length c2)))
            have hxW := (show x < (((((w9.setCell ⟨b, o + 3, none⟩ (.slice (some ⟨r, 0, none⟩) (h.kids.length + 1) c9)).setCell ⟨r, h.kids.length * 4, none⟩ (.int .i64 g.kind)).setCell ⟨r, h.kids.length * 4 + 1, none⟩ (.string ⟨g.name.toArray⟩)).setCell ⟨r, h.kids.length * 4 + 2, none⟩ (.int .i64 g.lit)).setCell ⟨r, h.kids.length * 4 + 3, none⟩ (.slice A2 g.kids.length c2)).heap.size from (by simp only [World.setCell, Array.size_modify]; exact hx9))
            refine (awake8_any _).mono ?_
            rintro e v7 ⟨rfl, hb⟩
            have hwh := HWH.out.after hb hxW
            have HB7 := Lib.hid (step2 HBW.out hb)
            clear hb
            obtain ⟨ff, Af, cf, ⟨y0, y1, y2, y3⟩, hvf⟩ := hwh
            simp only [Nat.zero_add] at y1 y2 y3
            have CLS := Lib.hid (lsame_any ff Af cf v7 hvf)
            clear hvf
            unfold fmA at CLS
            go_wp2_with fail
            refine CLS.out.mono ?_
            rintro e v8 ⟨rfl, hb⟩
            have HB8 := Lib.hid (step2 HB7.out hb)
            clear hb
            go_wp2_with fail
            go_ret
            exact ⟨rfl, HB8.out⟩
        · have HAT : Hid (Calls Tryd.prog 26 #[.string s] wr (Ret wr (.agg #[.int .i64 3, .string s, .int .i64 0, .slice none 0 0]))) := Lib.hid (latom_any s wr)
          go_wp2_with fail
          refine HAT.out.mono ?_
          rintro e v5 ⟨rfl, hb⟩
          have HS5 := Lib.hid (HS.out.after hb)
          have HB5 := Lib.hid (step2 HB.out hb)
          have hx5 := Nat.lt_of_lt_of_le hxr hb.size
          clear hb e0 e1 e2 e3 z0 z1 z2 z3
          have e0 := HS5.out.a.k
          have e1 := HS5.out.a.n
          have e2 := HS5.out.a.l
          have e3 := HS5.out.a.s
          have z0 := HS5.out.fz o
          have z1 := HS5.out.fz (o + 1)
          have z2 := HS5.out.fz (o + 2)
          have z3 := HS5.out.fz (o + 3)
          go_wp2_with fail
          have HWH := Lib.hid (HS5.out.atom s HSS.out)
          have HBW := Lib.hid ((((HB5.out.setCell (p := ⟨b, o, none⟩) HS5.out.bs (.int .i64 3)).setCell (p := ⟨b, o + 1, none⟩) HS5.out.bs (.string s)).setCell (p := ⟨b, o + 2, none⟩) HS5.out.bs (.int .i64 0)).setCell (p := ⟨b, o + 3, none⟩) HS5.out.bs (.slice none 0 0))
          have hxW := (show x < ((((v5.setCell ⟨b, o, none⟩ (.int .i64 3)).setCell ⟨b, o + 1, none⟩ (.string s)).setCell ⟨b, o + 2, none⟩ (.int .i64 0)).setCell ⟨b, o + 3, none⟩ (.slice none 0 0)).heap.size from (by simp only [World.setCell, Array.size_modify]; exact hx5))
          refine (awake8_any _).mono ?_
          rintro e v7 ⟨rfl, hb⟩
          have hwh := HWH.out.after hb hxW
          have HB7 := Lib.hid (step2 HBW.out hb)
          clear hb
          obtain ⟨ff, Af, cf, ⟨y0, y1, y2, y3⟩, hvf⟩ := hwh
          simp only [Nat.zero_add] at y1 y2 y3
          have CLS := Lib.hid (lsame_any ff Af cf v7 hvf)
          clear hvf
          unfold fmA at CLS
          go_wp2_with fail
          refine CLS.out.mono ?_
          rintro e v8 ⟨rfl, hb⟩
          have HB8 := Lib.hid (step2 HB7.out hb)
          clear hb
          go_wp2_with fail
          go_ret
          exact ⟨rfl, HB8.out⟩

end Go.Proofs.YtijecfmblddanaaDoor
