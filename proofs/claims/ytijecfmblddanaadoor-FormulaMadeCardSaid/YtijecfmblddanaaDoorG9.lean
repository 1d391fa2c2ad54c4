/- Parsing: the thin functions, part (printed by laws9c.py). Parsing: imply, whole (printed by laws9d.py). Parsing: Parse. -/
import Derived.Test.YtijecfmblddanaaDoorG8
import Derived.Defers
import Derived.Recover
import Derived.Test.YtijecfmblddanaaDoorG6
set_option linter.unusedVariables false
set_option linter.unusedSimpArgs false
namespace Go.Proofs.YtijecfmblddanaaDoor
open Go.RowKit Go.Maps
/-- What a call hands back, stored into the result's block. -/
theorem ps_finish {w w1 w' : World} {pb tb to c k k1 k2 cf xr : Nat} {l : List Tk} {f : Fm} {t : List KT} {A : Option Addr} (hg : w.grownBy w1 (some pb)) (hxr : w.heap.size ≤ xr) (hx : xr < w1.heap.size) (hP : PsOk w1 pb tb to c l k1 f t A cf k2 w') (hk : k ≤ k1) (hpb : pb < w.heap.size) (htb : tb < w.heap.size) :
    PPost w pb tb to c l k (.ok f t) (.returned (fmA f A cf)) ((((w'.setCell ⟨xr, 0, none⟩ (.int .i64 f.kind)).setCell ⟨xr, 1, none⟩ (.string ⟨f.name.toArray⟩)).setCell ⟨xr, 2, none⟩ (.int .i64 f.lit)).setCell ⟨xr, 3, none⟩ (.slice A f.kids.length cf)) := by
  have hkm := hP.km
  refine ⟨A, cf, k2, rfl, by omega, ?_, ?_, ?_, hP.t⟩
  · exact grown_new (grown_new (grown_new (grown_new (grown_trans hg hP.g) hxr _) hxr _) hxr _) hxr _
  · exact (((hP.s.far (by omega) (by omega) _).far (by omega) (by omega) _).far (by omega) (by omega) _).far (by omega) (by omega) _
  · have hq : ∀ b, (w1.heap.size ≤ b ∧ b < w'.heap.size) → b ≠ xr := fun b h => by omega
    refine ((((hP.v.far hq _).far hq _).far hq _).far hq _).keep (fun b hb => ⟨by omega, ?_⟩) fun b _ => rfl
    simp only [World.setCell, Array.size_modify]
    exact hb.2
theorem PsOk.after {w w' w'' : World} {pb tb to c k0 k cf : Nat} {l : List Tk} {f : Fm} {t : List KT} {A : Option Addr} (h : PsOk w pb tb to c l k0 f t A cf k w') (hb : Below w'.heap.size w' w'') : PsOk w pb tb to c l k0 f t A cf k w'' :=
  ⟨h.km, grown_trans h.g (grown_of hb _), h.s.after hb, h.v.low (B := w'.heap.size) (fun b hb' => ⟨hb'.2, hb'.1, Nat.lt_of_lt_of_le hb'.2 hb.size⟩) hb, h.t⟩
theorem PsOk.more {w w' w'' : World} {pb tb to c k0 k cf : Nat} {l : List Tk} {f : Fm} {t : List KT} {A : Option Addr} (h : PsOk w pb tb to c l k0 f t A cf k w') (hs : PsSt w'' pb tb to c l (k + 1)) (hg : w'.grownBy w'' (some pb)) (hpb : pb < w.heap.size) : PsOk w pb tb to c l k0 f (leftT l (k + 1)) A cf (k + 1) w'' :=
  ⟨Nat.le_succ_of_le h.km, grown_trans h.g hg, hs, h.v.keep (fun b hb => ⟨hb.1, Nat.lt_of_lt_of_le hb.2 hg.size⟩) (fun b hb => hg.block b hb.2 (by have := hb.1; simp; omega)), rfl⟩
/-- A formula of one part, whose row was just laid. -/
theorem ps_one {w1 w' W2 : World} {pb tb to c k1 k2 cf : Nat} {l : List Tk} {f : Fm} {t : List KT} {A : Option Addr} {kd : Int} (hP : PsOk w1 pb tb to c l k1 f t A cf k2 w') (hkd : 1 ≤ kd ∧ kd ≤ 18) (hb : Below (w'.alloc (.cells #[.int .i64 f.kind, .string ⟨f.name.toArray⟩, .int .i64 f.lit, .slice A f.kids.length cf] 37)).heap.size (w'.alloc (.cells #[.int .i64 f.kind, .string ⟨f.name.toArray⟩, .int .i64 f.lit, .slice A f.kids.length cf] 37)) W2) :
    PsOk w1 pb tb to c l k1 (.mk kd [] 0 [f]) t (some ⟨w'.heap.size, 0, none⟩) 1 k2 W2 := by
  have hbA := step2 (stepA w' (.cells #[.int .i64 f.kind, .string ⟨f.name.toArray⟩, .int .i64 f.lit, .slice A f.kids.length cf] 37)) hb
  have hrow := (Blk.new w' 37 #[.int .i64 f.kind, .string ⟨f.name.toArray⟩, .int .i64 f.lit, .slice A f.kids.length cf]).below hb (by simp)
  have hs := hP.g.size
  refine ⟨hP.km, grown_trans hP.g (grown_of hbA _), hP.s.after hbA, ⟨by simp [Fm.kids], by simp [Fm.kids], by simp [Fm.kind]; omega, by simp [Fm.name], FmQ.one ⟨hs, hrow.lt⟩ hrow ?_⟩, hP.t⟩
  exact hP.v.low (B := w'.heap.size) (fun b hb' => ⟨hb'.2, by have := hbA.size; omega⟩) hbA
/-- A formula without parts. -/
theorem ps_leaf {w1 w' : World} {pb tb to c k1 k2 : Nat} {l : List Tk} {kd : Int} (hg : w1.grownBy w' (some pb)) (hs : PsSt w' pb tb to c l k2) (hk : k1 ≤ k2) (hkd : 1 ≤ kd ∧ kd ≤ 18) : PsOk w1 pb tb to c l k1 (.mk kd [] 0 []) (leftT l k2) none 0 k2 w' :=
  ⟨hk, hg, hs, ⟨by simp [Fm.kids], by simp [Fm.kids], by simp [Fm.kind]; omega, by simp [Fm.name], .nil _⟩, rfl⟩
/-- Whatever a call panics with, the caller panics with. -/
theorem ps_bad {w w1 w' : World} {pb tb to c k : Nat} {l : List Tk} {er : Int} {m : Nat} (hg : w.grownBy w1 (some pb)) (h : w1.grownBy w' (some pb)) : PPost w pb tb to c l k (.bad er m) (.panicked [{ v := wrongV er (tokPlace l er m), recovered := false }]) w' := ⟨rfl, grown_trans hg h⟩

def PartC (n : Nat) : Prop := ∀ (w : World) (pb tb to c k : Nat) (l : List Tk) (d : Int), ToksOk l → PsSt w pb tb to c l k → 0 ≤ d → d + ((l.length - k : Nat) : Int) ≤ 30000 → 3 * (l.length - k) + 1 ≤ n → Calls Tryd.prog 90 #[.pointer (some ⟨pb, 0, none⟩), .int .i64 d] w (PPost w pb tb to c l k (partP n d (leftT l k)))
def ImplyC (n : Nat) : Prop := ∀ (w : World) (pb tb to c k : Nat) (l : List Tk) (d : Int), ToksOk l → PsSt w pb tb to c l k → 0 ≤ d → d + ((l.length - k : Nat) : Int) ≤ 30000 → 3 * (l.length - k) + 2 ≤ n → Calls Tryd.prog 67 #[.pointer (some ⟨pb, 0, none⟩), .int .i64 d] w (PPost w pb tb to c l k (implyP n d (leftT l k)))
def WholeC (n : Nat) : Prop := ∀ (w : World) (pb tb to c k : Nat) (l : List Tk) (d : Int), ToksOk l → PsSt w pb tb to c l k → 0 ≤ d → d + ((l.length - k : Nat) : Int) ≤ 30000 → 3 * (l.length - k) + 3 ≤ n → Calls Tryd.prog 49 #[.pointer (some ⟨pb, 0, none⟩), .int .i64 d] w (PPost w pb tb to c l k (wholeP n d (leftT l k)))
section
variable {w : World} {pb tb to c k : Nat} {l : List Tk}
set_option maxRecDepth 100000 in
set_option maxHeartbeats 8000000 in
theorem part_step (n : Nat) (hPC : PartC n) (hWC : WholeC n) : PartC (n + 1) := by
  intro w pb tb to c k l d hT hS hd0 hd1 hn
  have hb0 := stepA w (.cells #[.int .i64 0, .string ⟨#[]⟩, .int .i64 0, .slice none 0 0] 37)
  have HR0 := Lib.hid (Blk.new w 37 #[.int .i64 0, .string ⟨#[]⟩, .int .i64 0, .slice none 0 0])
  have HG0 := Lib.hid (grown_of hb0 (some pb))
  have HS0 := Lib.hid (hS.after hb0)
  have hpl := hS.p.lt
  have htl := hS.t.lt
  have hlk := hS.k
  obtain ⟨t, ht⟩ : ∃ t, l[k]? = some t := ⟨_, List.getElem?_eq_getElem hS.k⟩
  have htm : t ∈ l := List.mem_of_getElem? ht
  by_cases hd : 200 < d
  · have HE : Hid (partP (n + 1) d (leftT l k) = .bad 2 0) := Lib.hid (by rw [partP, if_pos hd])
    clear hb0 hS ht htm
    go_enter Tryd.func90, Tryd.ntmps90
    go_wp2_with fail
    refine (down_bad d _ hd).mono ?_
    rintro e w1 ⟨rfl, rfl⟩
    refine ⟨rfl, ?_⟩
    rw [HE.out]
    exact ⟨rfl, HG0.out⟩
  have hd' : d ≤ 200 := by omega
  have HU : Hid (∀ W, Calls Tryd.prog 105 #[] W fun e w' => e = .returned (.map (some W.heap.size)) ∧ SMap Tryd.prog 9 w' W.heap.size 7 unaryF ∧ Below W.heap.size W w') := Lib.hid unary_any
  have hhd : (hdT (leftT l k)).2 = t.text := by rw [leftT_at ht]; rfl
  have hlen := hT.len t htm
  have hlast : t.text ≠ [] → k + 1 < l.length := fun h => by
    rcases Nat.lt_or_ge (k + 1) l.length with h' | h'
    · exact h'
    · have e : k = l.length - 1 := by omega
      exact absurd (hT.last t (by rw [← e]; exact ht)).2 h
  have HTK : Hid (∀ W, Below (w.alloc (.cells #[.int .i64 0, .string ⟨#[]⟩, .int .i64 0, .slice none 0 0] 37)).heap.size (w.alloc (.cells #[.int .i64 0, .string ⟨#[]⟩, .int .i64 0, .slice none 0 0] 37)) W → W.cell? ⟨pb, 0, none⟩ = some (.slice (some ⟨tb, to + 3 * k, none⟩) (l.length - k) (c - k)) ∧ W.cell? ⟨tb, to + 3 * k + 1, none⟩ = some (.string ⟨t.text.toArray⟩)) := Lib.hid fun W hb => by
    have h := HS0.out.after hb
    exact ⟨h.p.cell 0, h.t.text k t ht⟩
  have HPE : Hid (partP (n + 1) d (leftT l k) = if unaryK t.text ≠ 0 then (partP n (d + 1) (leftT l (k + 1))).bind (fun f t' => .ok (.mk (unaryK t.text) [] 0 [f]) t')
    else if takes [40] (leftT l k) then (wholeP n (d + 1) (leftT l (k + 1))).bind fun f t' => needP [41] t' fun t'' => .ok f t''
    else if takes [69] (leftT l k) then untilP (wholeP n (d + 1)) 15 17 (leftT l (k + 1))
    else if takes [65] (leftT l k) then untilP (wholeP n (d + 1)) 16 18 (leftT l (k + 1))
    else if takes [116, 114, 117, 101] (leftT l k) then .ok (.mk 2 [] 0 []) (leftT l (k + 1))
    else if takes [102, 97, 108, 115, 101] (leftT l k) then .ok (.mk 1 [] 0 []) (leftT l (k + 1))
    else atomP (leftT l k)) := Lib.hid (by rw [partP, if_neg hd, hhd, leftT_tail])
  have hpos : 0 < l.length - k := by omega
  have hcl := hS.c
  have HLA := Lib.hid hlast
  have HPC := Lib.hid hPC
  have HWC := Lib.hid hWC
  have hC := Lib.hid hS
  clear hb0 hS ht htm hhd hlast hPC hWC
  go_enter Tryd.func90, Tryd.ntmps90
  go_wp2_with fail
  refine (down_ok d _ (by omega)).mono ?_
  rintro e w1 ⟨rfl, rfl⟩
  have hw1 : (w.alloc (.cells #[.int .i64 0, .string ⟨#[]⟩, .int .i64 0, .slice none 0 0] 37)).heap.size = w.heap.size + 1 := World.size_alloc _ _
  generalize w.alloc (.cells #[.int .i64 0, .string ⟨#[]⟩, .int .i64 0, .slice none 0 0] 37) = w1 at HR0 HG0 HS0 HTK hw1 ⊢
  go_wp2_with fail
  refine wp_region_noPanic ?_
  refine wp_region_seq (fun W => W.cell? ⟨pb, 0, none⟩ = some (.slice (some ⟨tb, to + 3 * k, none⟩) (l.length - k) (c - k)) ∧ W.cell? ⟨tb, to + 3 * k + 1, none⟩ = some (.string ⟨t.text.toArray⟩)) [1, 2, 3, 4, 5, 6, 7, 0, 8, 9, 10, 11, 12, 13] [1, 2, 3, 4, 5, 6, 7, 9, 10, 11, 12, 13] [] (by kernel_rfl) (by kernel_rfl) rfl (by kernel_rfl) (by kernel_rfl) (fun _ _ _ _ _ h => h) ?_ (fun hSS => ?_)
  · exact HTK.out _ (stepD1 _)
  clear hSS
  have HD1 := Lib.hid (stepD1 w1)
  generalize w1.drew = w2 at HD1 ⊢
  (refine wpSeq_mov rfl rfl ?_; intro o ho; simp only [List.getElem?_toArray, List.getElem?_cons_zero, List.getElem?_cons_succ, Option.some.injEq] at ho; subst ho; refine ⟨?_, Or.inl ⟨by rfl, fun W hSW => ?_⟩, ?_⟩; rotate_left; (focus (go_simp; first | done | with_reducible rfl)); try simp only [Act.put, List.setIfInBounds_toArray, List.set_cons_zero, List.set_cons_succ])
  (refine wpSeq_mov rfl rfl ?_; intro o ho; simp only [List.getElem?_toArray, List.getElem?_cons_zero, List.getElem?_cons_succ, Option.some.injEq] at ho; subst ho; refine ⟨?_, Or.inl ⟨by rfl, fun W hSW => ?_⟩, ?_⟩; rotate_left; (focus (go_simp; first | done | with_reducible rfl)); try simp only [Act.put, List.setIfInBounds_toArray, List.set_cons_zero, List.set_cons_succ])
  (refine wpSeq_mov rfl rfl ?_; intro o ho; simp only [List.getElem?_toArray, List.getElem?_cons_zero, List.getElem?_cons_succ, Option.some.injEq] at ho; subst ho; refine ⟨?_, Or.inl ⟨by rfl, fun W hSW => ?_⟩, ?_⟩; rotate_left; (focus (go_simp; first | done | with_reducible rfl)); try simp only [Act.put, List.setIfInBounds_toArray, List.set_cons_zero, List.set_cons_succ])
  (refine wpSeq_mov rfl rfl ?_; intro o ho; simp only [List.getElem?_toArray, List.getElem?_cons_zero, List.getElem?_cons_succ, Option.some.injEq] at ho; subst ho; refine ⟨?_, Or.inl ⟨by rfl, fun W hSW => ?_⟩, ?_⟩; rotate_left; (focus (go_simp; first | done | with_reducible rfl)); try simp only [Act.put, List.setIfInBounds_toArray, List.set_cons_zero, List.set_cons_succ])
  (refine wpSeq_mov rfl rfl ?_; intro o ho; simp only [List.getElem?_toArray, List.getElem?_cons_zero, List.getElem?_cons_succ, Option.some.injEq] at ho; subst ho; refine ⟨?_, Or.inl ⟨by rfl, fun W hSW => ?_⟩, ?_⟩; rotate_left; (focus (go_simp; first | done | with_reducible rfl)); try simp only [Act.put, List.setIfInBounds_toArray, List.set_cons_zero, List.set_cons_succ])
  (refine wpSeq_mov rfl rfl ?_; intro o ho; simp only [List.getElem?_toArray, List.getElem?_cons_zero, List.getElem?_cons_succ, Option.some.injEq] at ho; subst ho; refine ⟨?_, Or.inl ⟨by rfl, fun W hSW => ?_⟩, ?_⟩; rotate_left; (focus (go_simp; first | done | with_reducible rfl)); try simp only [Act.put, List.setIfInBounds_toArray, List.set_cons_zero, List.set_cons_succ])
  (refine wpSeq_mov rfl rfl ?_; intro o ho; simp only [List.getElem?_toArray, List.getElem?_cons_zero, List.getElem?_cons_succ, Option.some.injEq] at ho; subst ho; refine ⟨?_, Or.inl ⟨by rfl, fun W hSW => ?_⟩, ?_⟩; rotate_left; (focus (go_simp; first | done | with_reducible rfl)); try simp only [Act.put, List.setIfInBounds_toArray, List.set_cons_zero, List.set_cons_succ])
  (refine wpSeq_fix rfl rfl ?_; intro o ho; simp only [List.getElem?_toArray, List.getElem?_cons_zero, List.getElem?_cons_succ, Option.some.injEq] at ho; subst ho; intro K hK)
  go_simp
  refine (HU.out _).mono ?_
  rintro e w3 ⟨rfl, hM, hb3⟩
  have HD3 := Lib.hid (step2 HD1.out hb3)
  (refine hK.out _ _ (fun _ => HTK.out _ HD3.out) ?_; clear hK K; try simp only [Act.put, List.setIfInBounds_toArray, List.set_cons_zero, List.set_cons_succ])
  have hlk3 := hM.look_ok Tryd.underlying9 Tryd.underlying126 (z := .int .i64 0) (by kernel_rfl) (s := t.text) (by unfold maxLen; omega)
  clear hM hb3
  have HS3 := Lib.hid (HS0.out.after HD3.out)
  have HG3 := Lib.hid (grown_trans HG0.out (grown_of HD3.out (some pb)))
  have HR3 := Lib.hid (HR0.out.below HD3.out HR0.out.lt)
  have hs3 := HD3.out.size
  by_cases hu : unaryK t.text = 0
  · have e1 : unaryF t.text = none := by unfold unaryF; rw [if_pos hu]
    rw [e1] at hlk3
    replace HPE := Lib.hid (HPE.out.trans (by rw [if_neg (fun h => h hu)]))
    clear hu e1
    (refine wpSeq_fix rfl rfl ?_; intro o ho; simp only [List.getElem?_toArray, List.getElem?_cons_zero, List.getElem?_cons_succ, Option.some.injEq] at ho; subst ho; intro K hK)
    go_simp
    (refine hK.out _ _ (fun _ => HTK.out _ HD3.out) ?_; clear hK K; try simp only [Act.put, List.setIfInBounds_toArray, List.set_cons_zero, List.set_cons_succ])
    (refine wpSeq_mov rfl rfl ?_; intro o ho; simp only [List.getElem?_toArray, List.getElem?_cons_zero, List.getElem?_cons_succ, Option.some.injEq] at ho; subst ho; refine ⟨?_, Or.inl ⟨by rfl, fun W hSW => ?_⟩, ?_⟩; rotate_left; (focus (go_simp; first | done | with_reducible rfl)); try simp only [Act.put, List.setIfInBounds_toArray, List.set_cons_zero, List.set_cons_succ])
    (refine wpSeq_mov rfl rfl ?_; intro o ho; simp only [List.getElem?_toArray, List.getElem?_cons_zero, List.getElem?_cons_succ, Option.some.injEq] at ho; subst ho; refine ⟨?_, Or.inl ⟨by rfl, fun W hSW => ?_⟩, ?_⟩; rotate_left; (focus (go_simp; first | done | with_reducible rfl)); try simp only [Act.put, List.setIfInBounds_toArray, List.set_cons_zero, List.set_cons_succ])
    (refine wpSeq_mov rfl rfl ?_; intro o ho; simp only [List.getElem?_toArray, List.getElem?_cons_zero, List.getElem?_cons_succ, Option.some.injEq] at ho; subst ho; refine ⟨?_, Or.inl ⟨by rfl, fun W hSW => ?_⟩, ?_⟩; rotate_left; (focus (go_simp; first | done | with_reducible rfl)); try simp only [Act.put, List.setIfInBounds_toArray, List.set_cons_zero, List.set_cons_succ])
    (refine wpSeq_mov rfl rfl ?_; intro o ho; simp only [List.getElem?_toArray, List.getElem?_cons_zero, List.getElem?_cons_succ, Option.some.injEq] at ho; subst ho; refine ⟨?_, Or.inl ⟨by rfl, fun W hSW => ?_⟩, ?_⟩; rotate_left; (focus (go_simp; first | done | with_reducible rfl)); try simp only [Act.put, List.setIfInBounds_toArray, List.set_cons_zero, List.set_cons_succ])
    (refine wpSeq_mov rfl rfl ?_; intro o ho; simp only [List.getElem?_toArray, List.getElem?_cons_zero, List.getElem?_cons_succ, Option.some.injEq] at ho; subst ho; refine ⟨?_, Or.inl ⟨by rfl, fun W hSW => ?_⟩, ?_⟩; rotate_left; (focus (go_simp; first | done | with_reducible rfl)); try simp only [Act.put, List.setIfInBounds_toArray, List.set_cons_zero, List.set_cons_succ])
    refine wpSeq_done ?_
    go_wp2_with fail
    refine (take_any hT HS3.out [40] (by decide)).mono ?_
    rintro e w4 (⟨h1, rfl, rfl⟩ | ⟨h1, rfl, h2, h3⟩)
    rotate_left
    · have HS4 := Lib.hid h2
      have HG4 := Lib.hid (grown_trans HG3.out h3)
      have HR4 := Lib.hid (HR3.out.grown h3 (by simp; omega))
      have hs4 := h3.size
      have hk1 := h2.k
      have hw3 : w.heap.size < w4.heap.size := by omega
      replace HPE := Lib.hid (HPE.out.trans (by rw [h1, if_pos rfl]))
      clear h1 h2 h3
      have HC := Lib.hid (HWC.out w4 pb tb to c (k + 1) l (d + 1) hT HS4.out (by omega) (by omega) (by omega))
      go_wp2_with fail
      refine HC.out.mono ?_
      clear HC
      intro e w5 hP
      cases hr : wholeP n (d + 1) (leftT l (k + 1)) with
      | bad er m =>
        rw [hr] at hP
        obtain ⟨rfl, hg⟩ := hP
        refine ⟨rfl, ?_⟩
        rw [HPE.out, hr]
        exact ps_bad HG4.out hg
      | ok f tf =>
        rw [hr] at hP
        obtain ⟨A, cf, k2, rfl, hP⟩ := hP
        replace HPE := Lib.hid (HPE.out.trans (by rw [hr, PR.bind_ok, hP.t]))
        have hbA := stepA w5 (.cells #[.int .i64 f.kind, .string ⟨f.name.toArray⟩, .int .i64 f.lit, .slice A f.kids.length cf] 37)
        have HXF := Lib.hid (Blk.new w5 37 #[.int .i64 f.kind, .string ⟨f.name.toArray⟩, .int .i64 f.lit, .slice A f.kids.length cf])
        have HR5 := Lib.hid ((HR4.out.grown hP.g (by simp; omega)).alloc (.cells #[.int .i64 f.kind, .string ⟨f.name.toArray⟩, .int .i64 f.lit, .slice A f.kids.length cf] 37))
        have HP5 := Lib.hid (hP.after hbA)
        have hs5 := hP.g.size
        obtain ⟨xf, hxf⟩ : ∃ xf, xf = w5.heap.size := ⟨_, rfl⟩
        have hxw : w.heap.size < xf := by omega
        have hkm := hP.km
        rw [← hxf] at HXF
        clear hP hbA hr
        unfold fmA
        go_wp2_with fail
        rw [← hxf]
        generalize w5.alloc (.cells #[.int .i64 f.kind, .string ⟨f.name.toArray⟩, .int .i64 f.lit, .slice A f.kids.length cf] 37) = w6 at HXF HR5 HP5 ⊢
        clear hxf
        refine (need_any hT HP5.out.s [41] (by decide)).mono ?_
        rintro e w7 (⟨h1, rfl, rfl⟩ | ⟨h1, rfl, h2, h3⟩)
        · refine ⟨rfl, ?_⟩
          rw [HPE.out]
          unfold needP
          rw [h1, if_neg (by decide), leftT_len]
          exact ps_bad HG4.out HP5.out.g
        have hx6 := HXF.out.lt
        have hX7 := HXF.out.grown h3 (by simp; omega)
        have f0 := hX7.cell 0
        have f1 := hX7.cell 1
        have f2 := hX7.cell 2
        have f3 := hX7.cell 3
        have HR9 := Lib.hid (HR5.out.grown h3 (by simp; omega))
        have HP9 := Lib.hid (HP5.out.more h2 h3 (by omega))
        have HE := Lib.hid (HPE.out.trans (show _ = PR.ok f (leftT l (k2 + 1)) by unfold needP; rw [h1, if_pos rfl, leftT_tail]))
        clear h1 h2 h3 hX7 HR5 HP5 HXF HPE
        have y0 := HR9.out.cell 0
        have y1 := HR9.out.cell 1
        have y2 := HR9.out.cell 2
        have y3 := HR9.out.cell 3
        have x0 := HR9.out.frozen 0
        have x1 := HR9.out.frozen 1
        have x2 := HR9.out.frozen 2
        have x3 := HR9.out.frozen 3
        go_wp2_with fail
        clear x0 x1 x2 x3 y0 y1 y2 y3
        have hZ := (((HR9.out.set_ 0 (.int .i64 f.kind)).set_ 1 (.string ⟨f.name.toArray⟩)).set_ 2 (.int .i64 f.lit)).set_ 3 (.slice A f.kids.length cf)
        have z0 := hZ.cell 0
        have z1 := hZ.cell 1
        have z2 := hZ.cell 2
        have z3 := hZ.cell 3
        refine bodyPost_ret (v := fmA f A cf) (by simp [fmA, results, Tryd.results90, go_sem, z0, z1, z2, z3]) rfl ?_
        rw [HE.out]
        exact ps_finish (k := k) HG4.out (Nat.le_refl _) (by omega) HP9.out (by omega) (by omega) (by omega)
    replace HPE := Lib.hid (HPE.out.trans (by rw [h1, if_neg (by decide)]))
    clear h1
    go_wp2_with fail
    refine (take_any hT HS3.out [69] (by decide)).mono ?_
    rintro e w5 (⟨h1, rfl, rfl⟩ | ⟨h1, rfl, h2, h3⟩)
    rotate_left
    · have HS4 := Lib.hid h2
      have HG4 := Lib.hid (grown_trans HG3.out h3)
      have HR4 := Lib.hid (HR3.out.grown h3 (by simp; omega))
      have hs4 := h3.size
      have hk1 := h2.k
      have hw3 : w.heap.size < w5.heap.size := by omega
      replace HPE := Lib.hid (HPE.out.trans (by rw [h1, if_pos rfl]))
      clear h1 h2 h3
      go_wp2_with fail
      refine (until_any hT HS4.out 15 17 d (by omega) (by omega) (by omega) (wholeP n (d + 1)) (fun W k' hg hs hk => HWC.out W pb tb to c k' l (d + 1) hT hs (by omega) (by have := hs.k; omega) (by have := hs.k; omega))).mono ?_
      intro e w5 hP
      cases hr : untilP (wholeP n (d + 1)) 15 17 (leftT l (k + 1)) with
      | bad er m =>
        rw [hr] at hP
        obtain ⟨rfl, hg⟩ := hP
        refine ⟨rfl, ?_⟩
        rw [HPE.out, hr]
        exact ps_bad HG4.out hg
      | ok f tf =>
        rw [hr] at hP
        obtain ⟨A, cf, k2, rfl, hP⟩ := hP
        have HE := Lib.hid (HPE.out.trans hr)
        have HR9 := Lib.hid (HR4.out.grown hP.g (by simp; omega))
        have HP9 := Lib.hid hP
        clear hP hr HPE
        unfold fmA
        have y0 := HR9.out.cell 0
        have y1 := HR9.out.cell 1
        have y2 := HR9.out.cell 2
        have y3 := HR9.out.cell 3
        have x0 := HR9.out.frozen 0
        have x1 := HR9.out.frozen 1
        have x2 := HR9.out.frozen 2
        have x3 := HR9.out.frozen 3
        go_wp2_with fail
        clear x0 x1 x2 x3 y0 y1 y2 y3
        have hZ := (((HR9.out.set_ 0 (.int .i64 f.kind)).set_ 1 (.string ⟨f.name.toArray⟩)).set_ 2 (.int .i64 f.lit)).set_ 3 (.slice A f.kids.length cf)
        have z0 := hZ.cell 0
        have z1 := hZ.cell 1
        have z2 := hZ.cell 2
        have z3 := hZ.cell 3
        refine bodyPost_ret (v := fmA f A cf) (by simp [fmA, results, Tryd.results90, go_sem, z0, z1, z2, z3]) rfl ?_
        rw [HE.out]
        exact ps_finish (k := k) HG4.out (Nat.le_refl _) (by omega) HP9.out (by omega) (by omega) (by omega)
    replace HPE := Lib.hid (HPE.out.trans (by rw [h1, if_neg (by decide)]))
    clear h1
    go_wp2_with fail
    refine (take_any hT HS3.out [65] (by decide)).mono ?_
    rintro e w6 (⟨h1, rfl, rfl⟩ | ⟨h1, rfl, h2, h3⟩)
    rotate_left
    · have HS4 := Lib.hid h2
      have HG4 := Lib.hid (grown_trans HG3.out h3)
      have HR4 := Lib.hid (HR3.out.grown h3 (by simp; omega))
      have hs4 := h3.size
      have hk1 := h2.k
      have hw3 : w.heap.size < w6.heap.size := by omega
      replace HPE := Lib.hid (HPE.out.trans (by rw [h1, if_pos rfl]))
      clear h1 h2 h3
      go_wp2_with fail
      refine (until_any hT HS4.out 16 18 d (by omega) (by omega) (by omega) (wholeP n (d + 1)) (fun W k' hg hs hk => HWC.out W pb tb to c k' l (d + 1) hT hs (by omega) (by have := hs.k; omega) (by have := hs.k; omega))).mono ?_
      intro e w5 hP
      cases hr : untilP (wholeP n (d + 1)) 16 18 (leftT l (k + 1)) with
      | bad er m =>
        rw [hr] at hP
        obtain ⟨rfl, hg⟩ := hP
        refine ⟨rfl, ?_⟩
        rw [HPE.out, hr]
        exact ps_bad HG4.out hg
      | ok f tf =>
        rw [hr] at hP
        obtain ⟨A, cf, k2, rfl, hP⟩ := hP
        have HE := Lib.hid (HPE.out.trans hr)
        have HR9 := Lib.hid (HR4.out.grown hP.g (by simp; omega))
        have HP9 := Lib.hid hP
        clear hP hr HPE
        unfold fmA
        have y0 := HR9.out.cell 0
        have y1 := HR9.out.cell 1
        have y2 := HR9.out.cell 2
        have y3 := HR9.out.cell 3
        have x0 := HR9.out.frozen 0
        have x1 := HR9.out.frozen 1
        have x2 := HR9.out.frozen 2
        have x3 := HR9.out.frozen 3
        go_wp2_with fail
        clear x0 x1 x2 x3 y0 y1 y2 y3
        have hZ := (((HR9.out.set_ 0 (.int .i64 f.kind)).set_ 1 (.string ⟨f.name.toArray⟩)).set_ 2 (.int .i64 f.lit)).set_ 3 (.slice A f.kids.length cf)
        have z0 := hZ.cell 0
        have z1 := hZ.cell 1
        have z2 := hZ.cell 2
        have z3 := hZ.cell 3
        refine bodyPost_ret (v := fmA f A cf) (by simp [fmA, results, Tryd.results90, go_sem, z0, z1, z2, z3]) rfl ?_
        rw [HE.out]
        exact ps_finish (k := k) HG4.out (Nat.le_refl _) (by omega) HP9.out (by omega) (by omega) (by omega)
    replace HPE := Lib.hid (HPE.out.trans (by rw [h1, if_neg (by decide)]))
    clear h1
    go_wp2_with fail
    refine (take_any hT HS3.out [116, 114, 117, 101] (by decide)).mono ?_
    rintro e w7 (⟨h1, rfl, rfl⟩ | ⟨h1, rfl, h2, h3⟩)
    rotate_left
    · have HS4 := Lib.hid h2
      have HG4 := Lib.hid (grown_trans HG3.out h3)
      have HR4 := Lib.hid (HR3.out.grown h3 (by simp; omega))
      have hs4 := h3.size
      have hk1 := h2.k
      have hw3 : w.heap.size < w7.heap.size := by omega
      replace HPE := Lib.hid (HPE.out.trans (by rw [h1, if_pos rfl]))
      clear h1 h2 h3
      go_wp2_with fail
      refine (of_any _ _ _ _ _).mono ?_
      rintro e w5 ⟨rfl, hb5⟩
      have HR9 := Lib.hid (HR4.out.below hb5 HR4.out.lt)
      have HP9 := Lib.hid (ps_leaf (w1 := w7) (k1 := k + 1) (kd := 2) (grown_of hb5 (some pb)) (HS4.out.after hb5) (Nat.le_refl _) (by omega))
      have HE := HPE
      obtain ⟨f, hf⟩ : ∃ f : Fm, f = .mk 2 [] 0 [] := ⟨_, rfl⟩
      obtain ⟨A, hA⟩ : ∃ A : Option Addr, A = none := ⟨_, rfl⟩
      obtain ⟨cf, hcf⟩ : ∃ cf : Nat, cf = 0 := ⟨_, rfl⟩
      have hv : (Value.agg #[.int .i64 2, .string ⟨#[]⟩, .int .i64 0, .slice none 0 0]) = .agg #[.int .i64 f.kind, .string ⟨f.name.toArray⟩, .int .i64 f.lit, .slice A f.kids.length cf] := by rw [hf, hA, hcf]; rfl
      rw [hv]
      rw [← hf] at HP9 HE
      rw [← hA, ← hcf] at HP9
      clear hb5 HPE hf hA hcf hv
      have y0 := HR9.out.cell 0
      have y1 := HR9.out.cell 1
      have y2 := HR9.out.cell 2
      have y3 := HR9.out.cell 3
      have x0 := HR9.out.frozen 0
      have x1 := HR9.out.frozen 1
      have x2 := HR9.out.frozen 2
      have x3 := HR9.out.frozen 3
      go_wp2_with fail
      clear x0 x1 x2 x3 y0 y1 y2 y3
      have hZ := (((HR9.out.set_ 0 (.int .i64 f.kind)).set_ 1 (.string ⟨f.name.toArray⟩)).set_ 2 (.int .i64 f.lit)).set_ 3 (.slice A f.kids.length cf)
      have z0 := hZ.cell 0
      have z1 := hZ.cell 1
      have z2 := hZ.cell 2
      have z3 := hZ.cell 3
      refine bodyPost_ret (v := fmA f A cf) (by simp [fmA, results, Tryd.results90, go_sem, z0, z1, z2, z3]) rfl ?_
      rw [HE.out]
      exact ps_finish (k := k) HG4.out (Nat.le_refl _) (by omega) HP9.out (by omega) (by omega) (by omega)
    replace HPE := Lib.hid (HPE.out.trans (by rw [h1, if_neg (by decide)]))
    clear h1
    go_wp2_with fail
    refine (take_any hT HS3.out [102, 97, 108, 115, 101] (by decide)).mono ?_
    rintro e w8 (⟨h1, rfl, rfl⟩ | ⟨h1, rfl, h2, h3⟩)
    rotate_left
    · have HS4 := Lib.hid h2
      have HG4 := Lib.hid (grown_trans HG3.out h3)
      have HR4 := Lib.hid (HR3.out.grown h3 (by simp; omega))
      have hs4 := h3.size
      have hk1 := h2.k
      have hw3 : w.heap.size < w8.heap.size := by omega
      replace HPE := Lib.hid (HPE.out.trans (by rw [h1, if_pos rfl]))
      clear h1 h2 h3
      go_wp2_with fail
      refine (of_any _ _ _ _ _).mono ?_
      rintro e w5 ⟨rfl, hb5⟩
      have HR9 := Lib.hid (HR4.out.below hb5 HR4.out.lt)
      have HP9 := Lib.hid (ps_leaf (w1 := w8) (k1 := k + 1) (kd := 1) (grown_of hb5 (some pb)) (HS4.out.after hb5) (Nat.le_refl _) (by omega))
      have HE := HPE
      obtain ⟨f, hf⟩ : ∃ f : Fm, f = .mk 1 [] 0 [] := ⟨_, rfl⟩
      obtain ⟨A, hA⟩ : ∃ A : Option Addr, A = none := ⟨_, rfl⟩
      obtain ⟨cf, hcf⟩ : ∃ cf : Nat, cf = 0 := ⟨_, rfl⟩
      have hv : (Value.agg #[.int .i64 1, .string ⟨#[]⟩, .int .i64 0, .slice none 0 0]) = .agg #[.int .i64 f.kind, .string ⟨f.name.toArray⟩, .int .i64 f.lit, .slice A f.kids.length cf] := by rw [hf, hA, hcf]; rfl
      rw [hv]
      rw [← hf] at HP9 HE
      rw [← hA, ← hcf] at HP9
      clear hb5 HPE hf hA hcf hv
      have y0 := HR9.out.cell 0
      have y1 := HR9.out.cell 1
      have y2 := HR9.out.cell 2
      have y3 := HR9.out.cell 3
      have x0 := HR9.out.frozen 0
      have x1 := HR9.out.frozen 1
      have x2 := HR9.out.frozen 2
      have x3 := HR9.out.frozen 3
      go_wp2_with fail
      clear x0 x1 x2 x3 y0 y1 y2 y3
      have hZ := (((HR9.out.set_ 0 (.int .i64 f.kind)).set_ 1 (.string ⟨f.name.toArray⟩)).set_ 2 (.int .i64 f.lit)).set_ 3 (.slice A f.kids.length cf)
      have z0 := hZ.cell 0
      have z1 := hZ.cell 1
      have z2 := hZ.cell 2
      have z3 := hZ.cell 3
      refine bodyPost_ret (v := fmA f A cf) (by simp [fmA, results, Tryd.results90, go_sem, z0, z1, z2, z3]) rfl ?_
      rw [HE.out]
      exact ps_finish (k := k) HG4.out (Nat.le_refl _) (by omega) HP9.out (by omega) (by omega) (by omega)
    replace HPE := Lib.hid (HPE.out.trans (by rw [h1, if_neg (by decide)]))
    clear h1
    go_wp2_with fail
    refine (psatom_any hT HS3.out).mono ?_
    intro e w9 hP
    cases hr : atomP (leftT l k) with
    | bad er m =>
      rw [hr] at hP
      obtain ⟨rfl, hg⟩ := hP
      refine ⟨rfl, ?_⟩
      rw [HPE.out, hr]
      exact ps_bad HG3.out hg
    | ok f tf =>
      rw [hr] at hP
      obtain ⟨A, cf, k2, rfl, hP⟩ := hP
      have HE := Lib.hid (HPE.out.trans hr)
      have HR9 := Lib.hid (HR3.out.grown hP.g (by simp; omega))
      have HP9 := Lib.hid hP
      clear hP hr HPE
      unfold fmA
      have y0 := HR9.out.cell 0
      have y1 := HR9.out.cell 1
      have y2 := HR9.out.cell 2
      have y3 := HR9.out.cell 3
      have x0 := HR9.out.frozen 0
      have x1 := HR9.out.frozen 1
      have x2 := HR9.out.frozen 2
      have x3 := HR9.out.frozen 3
      go_wp2_with fail
      clear x0 x1 x2 x3 y0 y1 y2 y3
      have hZ := (((HR9.out.set_ 0 (.int .i64 f.kind)).set_ 1 (.string ⟨f.name.toArray⟩)).set_ 2 (.int .i64 f.lit)).set_ 3 (.slice A f.kids.length cf)
      have z0 := hZ.cell 0
      have z1 := hZ.cell 1
      have z2 := hZ.cell 2
      have z3 := hZ.cell 3
      refine bodyPost_ret (v := fmA f A cf) (by simp [fmA, results, Tryd.results90, go_sem, z0, z1, z2, z3]) rfl ?_
      rw [HE.out]
      exact ps_finish (k := k) HG3.out (Nat.le_refl _) (by omega) HP9.out (by omega) (by omega) (by omega)
  · have e1 : unaryF t.text = some (.int .i64 (unaryK t.text)) := by unfold unaryF; rw [if_neg hu]
    rw [e1] at hlk3
    have hne : t.text ≠ [] := fun e => by rw [e] at hu; exact hu rfl
    have hk1 := HLA.out hne
    have hkd : 1 ≤ unaryK t.text ∧ unaryK t.text ≤ 18 := by
      revert hu
      unfold unaryK
      repeat' split
      all_goals first | (intro; decide) | (intro h; exact absurd rfl h)
    replace HPE := Lib.hid (HPE.out.trans (by rw [if_pos hu]))
    have hsl := slice_tail tb (to + 3 * k) (l.length - k) (c - k) (by omega) (by omega)
    have q0 := HS3.out.p.cell 0
    have qf := HS3.out.p.frozen 0
    generalize unaryK t.text = kd at hlk3 hkd HPE
    clear hu e1 hne
    (refine wpSeq_fix rfl rfl ?_; intro o ho; simp only [List.getElem?_toArray, List.getElem?_cons_zero, List.getElem?_cons_succ, Option.some.injEq] at ho; subst ho; intro K hK)
    go_simp
    (refine hK.out _ _ (fun _ => HTK.out _ HD3.out) ?_; clear hK K; try simp only [Act.put, List.setIfInBounds_toArray, List.set_cons_zero, List.set_cons_succ])
    (refine wpSeq_mov rfl rfl ?_; intro o ho; simp only [List.getElem?_toArray, List.getElem?_cons_zero, List.getElem?_cons_succ, Option.some.injEq] at ho; subst ho; refine ⟨?_, Or.inl ⟨by rfl, fun W hSW => ?_⟩, ?_⟩; rotate_left; (focus (go_simp; first | done | with_reducible rfl)); try simp only [Act.put, List.setIfInBounds_toArray, List.set_cons_zero, List.set_cons_succ])
    (refine wpSeq_mov rfl rfl ?_; intro o ho; simp only [List.getElem?_toArray, List.getElem?_cons_zero, List.getElem?_cons_succ, Option.some.injEq] at ho; subst ho; refine ⟨?_, Or.inl ⟨by rfl, fun W hSW => ?_⟩, ?_⟩; rotate_left; (focus (go_simp; first | done | with_reducible rfl)); try simp only [Act.put, List.setIfInBounds_toArray, List.set_cons_zero, List.set_cons_succ])
    (refine wpSeq_mov rfl rfl ?_; intro o ho; simp only [List.getElem?_toArray, List.getElem?_cons_zero, List.getElem?_cons_succ, Option.some.injEq] at ho; subst ho; refine ⟨?_, Or.inl ⟨by rfl, fun W hSW => ?_⟩, ?_⟩; rotate_left; (focus (go_simp; first | done | with_reducible rfl)); try simp only [Act.put, List.setIfInBounds_toArray, List.set_cons_zero, List.set_cons_succ])
    (refine wpSeq_mov rfl rfl ?_; intro o ho; simp only [List.getElem?_toArray, List.getElem?_cons_zero, List.getElem?_cons_succ, Option.some.injEq] at ho; subst ho; refine ⟨?_, Or.inl ⟨by rfl, fun W hSW => ?_⟩, ?_⟩; rotate_left; (focus (go_simp; first | done | with_reducible rfl)); try simp only [Act.put, List.setIfInBounds_toArray, List.set_cons_zero, List.set_cons_succ])
    (refine wpSeq_mov rfl rfl ?_; intro o ho; simp only [List.getElem?_toArray, List.getElem?_cons_zero, List.getElem?_cons_succ, Option.some.injEq] at ho; subst ho; refine ⟨?_, Or.inl ⟨by rfl, fun W hSW => ?_⟩, ?_⟩; rotate_left; (focus (go_simp; first | done | with_reducible rfl)); try simp only [Act.put, List.setIfInBounds_toArray, List.set_cons_zero, List.set_cons_succ])
    refine wpSeq_done ?_
    have HS4 := Lib.hid (HS3.out.next hk1)
    have HG4 := Lib.hid (grown_set HG3.out 0 (.slice (some ⟨tb, to + 3 * k + 3, none⟩) (l.length - k - 1) (c - k - 1)))
    have HR4 := Lib.hid (HR3.out.far (p := ⟨pb, 0, none⟩) (by simp; omega) (.slice (some ⟨tb, to + 3 * k + 3, none⟩) (l.length - k - 1) (c - k - 1)))
    have HC := Lib.hid (HPC.out _ pb tb to c (k + 1) l (d + 1) hT HS4.out (by omega) (by omega) (by omega))
    have hw3 : w.heap.size < (w3.setCell ⟨pb, 0, none⟩ (.slice (some ⟨tb, to + 3 * k + 3, none⟩) (l.length - k - 1) (c - k - 1))).heap.size := by simp only [World.setCell, Array.size_modify]; omega
    go_wp2_with fail
    clear q0 qf hsl hlk3
    generalize w3.setCell ⟨pb, 0, none⟩ (.slice (some ⟨tb, to + 3 * k + 3, none⟩) (l.length - k - 1) (c - k - 1)) = w4 at HS4 HG4 HR4 HC hw3 ⊢
    refine HC.out.mono ?_
    clear HC
    intro e w5 hP
    cases hr : partP n (d + 1) (leftT l (k + 1)) with
    | bad er m =>
      rw [hr] at hP
      obtain ⟨rfl, hg⟩ := hP
      refine ⟨rfl, ?_⟩
      rw [HPE.out, hr]
      exact ps_bad HG4.out hg
    | ok f0 tf =>
      rw [hr] at hP
      obtain ⟨A0, cf0, k2, rfl, hP⟩ := hP
      have HE := Lib.hid (HPE.out.trans (by rw [hr, PR.bind_ok]))
      have HR5 := Lib.hid ((HR4.out.grown hP.g (by simp; omega)).alloc (.cells #[.int .i64 f0.kind, .string ⟨f0.name.toArray⟩, .int .i64 f0.lit, .slice A0 f0.kids.length cf0] 37))
      have HP5 := Lib.hid hP
      have hs5 := hP.g.size
      have hkm := hP.km
      clear hP hr HPE
      unfold fmA
      go_wp2_with fail
      refine (of_any _ _ _ _ _).mono ?_
      rintro e w7 ⟨rfl, hb7⟩
      have HR9 := Lib.hid (HR5.out.below hb7 (by simp; omega))
      have HP9 := Lib.hid (ps_one HP5.out hkd hb7)
      obtain ⟨f, hf⟩ : ∃ f : Fm, f = .mk kd [] 0 [f0] := ⟨_, rfl⟩
      obtain ⟨A, hA⟩ : ∃ A : Option Addr, A = some ⟨w5.heap.size, 0, none⟩ := ⟨_, rfl⟩
      obtain ⟨cf, hcf⟩ : ∃ cf : Nat, cf = 1 := ⟨_, rfl⟩
      have hv : (Value.agg #[.int .i64 kd, .string ⟨#[]⟩, .int .i64 0, .slice (some ⟨w5.heap.size, 0, none⟩) 1 1]) = .agg #[.int .i64 f.kind, .string ⟨f.name.toArray⟩, .int .i64 f.lit, .slice A f.kids.length cf] := by rw [hf, hA, hcf]; rfl
      rw [hv]
      rw [← hf] at HP9 HE
      rw [← hA, ← hcf] at HP9
      clear hb7 hf hA hcf hv
      have y0 := HR9.out.cell 0
      have y1 := HR9.out.cell 1
      have y2 := HR9.out.cell 2
      have y3 := HR9.out.cell 3
      have x0 := HR9.out.frozen 0
      have x1 := HR9.out.frozen 1
      have x2 := HR9.out.frozen 2
      have x3 := HR9.out.frozen 3
      go_wp2_with fail
      clear x0 x1 x2 x3 y0 y1 y2 y3
      have hZ := (((HR9.out.set_ 0 (.int .i64 f.kind)).set_ 1 (.string ⟨f.name.toArray⟩)).set_ 2 (.int .i64 f.lit)).set_ 3 (.slice A f.kids.length cf)
      have z0 := hZ.cell 0
      have z1 := hZ.cell 1
      have z2 := hZ.cell 2
      have z3 := hZ.cell 3
      refine bodyPost_ret (v := fmA f A cf) (by simp [fmA, results, Tryd.results90, go_sem, z0, z1, z2, z3]) rfl ?_
      rw [HE.out]
      exact ps_finish (k := k) HG4.out (Nat.le_refl _) (by omega) HP9.out (by omega) (by omega) (by omega)
end
end Go.Proofs.YtijecfmblddanaaDoor

set_option linter.unusedVariables false
set_option linter.unusedSimpArgs false
namespace Go.Proofs.YtijecfmblddanaaDoor
open Go.RowKit Go.Maps

section
variable {w : World} {pb tb to c k : Nat} {l : List Tk}
set_option maxRecDepth 100000 in
set_option maxHeartbeats 2000000 in
theorem imply11_any (hT : ToksOk l) (d : Int) (n xp xd : Nat) (hd0 : 0 ≤ d) (hd1 : d + ((l.length - k : Nat) : Int) ≤ 30000) (hp : Blk w xp 75 #[.pointer (some ⟨pb, 0, none⟩)]) (hd : Blk w xd 3 #[.int .i64 d]) (hpp : xp ≠ pb) (hdp : xd ≠ pb) (hPC : PartC n) (hn : 3 * (l.length - k) + 1 ≤ n) : PartsBy 89 #[.pointer (some ⟨xp, 0, none⟩), .pointer (some ⟨xd, 0, none⟩)] w pb tb to c l k (partP n d) := by
  intro W k' hg hS hk
  have hpW := hp.grown hg (by simpa using hpp)
  have hdW := hd.grown hg (by simpa using hdp)
  clear hp hd
  have hb0 := stepA W (.cells #[.int .i64 0, .string ⟨#[]⟩, .int .i64 0, .slice none 0 0] 37)
  have HR0 := Lib.hid (Blk.new W 37 #[.int .i64 0, .string ⟨#[]⟩, .int .i64 0, .slice none 0 0])
  have HG0 := Lib.hid (grown_of hb0 (some pb))
  have HS0 := Lib.hid (hS.after hb0)
  have hpl := hS.p.lt
  have htl := hS.t.lt
  have hlk := hS.k
  have hxp := hpW.lt
  have hxd := hdW.lt
  have p0 := hpW.cell 0
  have d0 := hdW.cell 0
  have hpA := hpW.alloc (.cells #[.int .i64 0, .string ⟨#[]⟩, .int .i64 0, .slice none 0 0] 37)
  have hdA := hdW.alloc (.cells #[.int .i64 0, .string ⟨#[]⟩, .int .i64 0, .slice none 0 0] 37)
  have HC := Lib.hid (hPC _ pb tb to c k' l d hT HS0.out hd0 (by omega) (by omega))
  clear hb0 hS hg hpW hdW hpA hdA hPC
  go_enter Tryd.func89, Tryd.ntmps89
  go_wp2_with fail
  have hw1 : (W.alloc (.cells #[.int .i64 0, .string ⟨#[]⟩, .int .i64 0, .slice none 0 0] 37)).heap.size = W.heap.size + 1 := World.size_alloc _ _
  clear p0 d0
  generalize W.alloc (.cells #[.int .i64 0, .string ⟨#[]⟩, .int .i64 0, .slice none 0 0] 37) = w1 at HR0 HG0 HS0 HC hw1 ⊢
  refine HC.out.mono ?_
  clear HC
  intro e w9 hP
  cases hr : (partP n d) (leftT l k') with
  | bad er m =>
    rw [hr] at hP
    obtain ⟨rfl, hg⟩ := hP
    exact ⟨rfl, ps_bad HG0.out hg⟩
  | ok f tf =>
    rw [hr] at hP
    obtain ⟨A, cf, k2, rfl, hP⟩ := hP
    have HR9 := Lib.hid (HR0.out.grown hP.g (by simp; omega))
    have HP9 := Lib.hid hP
    have HE := Lib.hid hr
    clear hP hr
    unfold fmA
    have y0 := HR9.out.cell 0
    have y1 := HR9.out.cell 1
    have y2 := HR9.out.cell 2
    have y3 := HR9.out.cell 3
    have x0 := HR9.out.frozen 0
    have x1 := HR9.out.frozen 1
    have x2 := HR9.out.frozen 2
    have x3 := HR9.out.frozen 3
    go_wp2_with fail
    clear x0 x1 x2 x3 y0 y1 y2 y3
    have hZ := (((HR9.out.set_ 0 (.int .i64 f.kind)).set_ 1 (.string ⟨f.name.toArray⟩)).set_ 2 (.int .i64 f.lit)).set_ 3 (.slice A f.kids.length cf)
    have z0 := hZ.cell 0
    have z1 := hZ.cell 1
    have z2 := hZ.cell 2
    have z3 := hZ.cell 3
    refine bodyPost_ret (v := fmA f A cf) (by simp [fmA, results, Tryd.results89, go_sem, z0, z1, z2, z3]) rfl ?_
    rw [HE.out]
    exact ps_finish (k := k') (xr := W.heap.size) HG0.out (Nat.le_refl _) (by omega) HP9.out (Nat.le_refl _) (by omega) (by omega)
set_option maxRecDepth 100000 in
set_option maxHeartbeats 2000000 in
theorem imply1_any (hT : ToksOk l) (d : Int) (n xp xd : Nat) (hd0 : 0 ≤ d) (hd1 : d + ((l.length - k : Nat) : Int) ≤ 30000) (hp : Blk w xp 75 #[.pointer (some ⟨pb, 0, none⟩)]) (hd : Blk w xd 3 #[.int .i64 d]) (hpp : xp ≠ pb) (hdp : xd ≠ pb) (hPC : PartC n) (hn : 3 * (l.length - k) + 1 ≤ n) : PartsBy 88 #[.pointer (some ⟨xp, 0, none⟩), .pointer (some ⟨xd, 0, none⟩)] w pb tb to c l k (chainP (partP n d) [38] 5) := by
  intro W k' hg hS hk
  have hpW := hp.grown hg (by simpa using hpp)
  have hdW := hd.grown hg (by simpa using hdp)
  clear hp hd
  have hb0 := stepA W (.cells #[.int .i64 0, .string ⟨#[]⟩, .int .i64 0, .slice none 0 0] 37)
  have HR0 := Lib.hid (Blk.new W 37 #[.int .i64 0, .string ⟨#[]⟩, .int .i64 0, .slice none 0 0])
  have HG0 := Lib.hid (grown_of hb0 (some pb))
  have HS0 := Lib.hid (hS.after hb0)
  have hpl := hS.p.lt
  have htl := hS.t.lt
  have hlk := hS.k
  have hxp := hpW.lt
  have hxd := hdW.lt
  have p0 := hpW.cell 0
  have d0 := hdW.cell 0
  have hpA := hpW.alloc (.cells #[.int .i64 0, .string ⟨#[]⟩, .int .i64 0, .slice none 0 0] 37)
  have hdA := hdW.alloc (.cells #[.int .i64 0, .string ⟨#[]⟩, .int .i64 0, .slice none 0 0] 37)
  have HC := Lib.hid (chain_any hT HS0.out [38] (by decide) 5 (by decide) 89 #[.pointer (some ⟨xp, 0, none⟩), .pointer (some ⟨xd, 0, none⟩)] (partP n d) (fun args w => by simp [callFunc, go_sem, Tryd.func89, Tryd.f89]) (imply11_any hT d n xp xd hd0 (by omega) hpA hdA hpp hdp hPC (by omega)))
  clear hb0 hS hg hpW hdW hpA hdA hPC
  go_enter Tryd.func88, Tryd.ntmps88
  go_wp2_with fail
  have hw1 : (W.alloc (.cells #[.int .i64 0, .string ⟨#[]⟩, .int .i64 0, .slice none 0 0] 37)).heap.size = W.heap.size + 1 := World.size_alloc _ _
  clear p0 d0
  generalize W.alloc (.cells #[.int .i64 0, .string ⟨#[]⟩, .int .i64 0, .slice none 0 0] 37) = w1 at HR0 HG0 HS0 HC hw1 ⊢
  refine HC.out.mono ?_
  clear HC
  intro e w9 hP
  cases hr : (chainP (partP n d) [38] 5) (leftT l k') with
  | bad er m =>
    rw [hr] at hP
    obtain ⟨rfl, hg⟩ := hP
    exact ⟨rfl, ps_bad HG0.out hg⟩
  | ok f tf =>
    rw [hr] at hP
    obtain ⟨A, cf, k2, rfl, hP⟩ := hP
    have HR9 := Lib.hid (HR0.out.grown hP.g (by simp; omega))
    have HP9 := Lib.hid hP
    have HE := Lib.hid hr
    clear hP hr
    unfold fmA
    have y0 := HR9.out.cell 0
    have y1 := HR9.out.cell 1
    have y2 := HR9.out.cell 2
    have y3 := HR9.out.cell 3
    have x0 := HR9.out.frozen 0
    have x1 := HR9.out.frozen 1
    have x2 := HR9.out.frozen 2
    have x3 := HR9.out.frozen 3
    go_wp2_with fail
    clear x0 x1 x2 x3 y0 y1 y2 y3
    have hZ := (((HR9.out.set_ 0 (.int .i64 f.kind)).set_ 1 (.string ⟨f.name.toArray⟩)).set_ 2 (.int .i64 f.lit)).set_ 3 (.slice A f.kids.length cf)
    have z0 := hZ.cell 0
    have z1 := hZ.cell 1
    have z2 := hZ.cell 2
    have z3 := hZ.cell 3
    refine bodyPost_ret (v := fmA f A cf) (by simp [fmA, results, Tryd.results88, go_sem, z0, z1, z2, z3]) rfl ?_
    rw [HE.out]
    exact ps_finish (k := k') (xr := W.heap.size) HG0.out (Nat.le_refl _) (by omega) HP9.out (Nat.le_refl _) (by omega) (by omega)
set_option maxRecDepth 100000 in
set_option maxHeartbeats 2000000 in
theorem whole1_any (hT : ToksOk l) (d : Int) (n xp xd : Nat) (hd0 : 0 ≤ d) (hd1 : d + ((l.length - k : Nat) : Int) ≤ 30000) (hp : Blk w xp 75 #[.pointer (some ⟨pb, 0, none⟩)]) (hd : Blk w xd 3 #[.int .i64 d]) (hpp : xp ≠ pb) (hdp : xd ≠ pb) (hIC : ImplyC n) (hn : 3 * (l.length - k) + 2 ≤ n) : PartsBy 66 #[.pointer (some ⟨xp, 0, none⟩), .pointer (some ⟨xd, 0, none⟩)] w pb tb to c l k (implyP n d) := by
  intro W k' hg hS hk
  have hpW := hp.grown hg (by simpa using hpp)
  have hdW := hd.grown hg (by simpa using hdp)
  clear hp hd
  have hb0 := stepA W (.cells #[.int .i64 0, .string ⟨#[]⟩, .int .i64 0, .slice none 0 0] 37)
  have HR0 := Lib.hid (Blk.new W 37 #[.int .i64 0, .string ⟨#[]⟩, .int .i64 0, .slice none 0 0])
  have HG0 := Lib.hid (grown_of hb0 (some pb))
  have HS0 := Lib.hid (hS.after hb0)
  have hpl := hS.p.lt
  have htl := hS.t.lt
  have hlk := hS.k
  have hxp := hpW.lt
  have hxd := hdW.lt
  have p0 := hpW.cell 0
  have d0 := hdW.cell 0
  have hpA := hpW.alloc (.cells #[.int .i64 0, .string ⟨#[]⟩, .int .i64 0, .slice none 0 0] 37)
  have hdA := hdW.alloc (.cells #[.int .i64 0, .string ⟨#[]⟩, .int .i64 0, .slice none 0 0] 37)
  have HC := Lib.hid (hIC _ pb tb to c k' l d hT HS0.out hd0 (by omega) (by omega))
  clear hb0 hS hg hpW hdW hpA hdA hIC
  go_enter Tryd.func66, Tryd.ntmps66
  go_wp2_with fail
  have hw1 : (W.alloc (.cells #[.int .i64 0, .string ⟨#[]⟩, .int .i64 0, .slice none 0 0] 37)).heap.size = W.heap.size + 1 := World.size_alloc _ _
  clear p0 d0
  generalize W.alloc (.cells #[.int .i64 0, .string ⟨#[]⟩, .int .i64 0, .slice none 0 0] 37) = w1 at HR0 HG0 HS0 HC hw1 ⊢
  refine HC.out.mono ?_
  clear HC
  intro e w9 hP
  cases hr : (implyP n d) (leftT l k') with
  | bad er m =>
    rw [hr] at hP
    obtain ⟨rfl, hg⟩ := hP
    exact ⟨rfl, ps_bad HG0.out hg⟩
  | ok f tf =>
    rw [hr] at hP
    obtain ⟨A, cf, k2, rfl, hP⟩ := hP
    have HR9 := Lib.hid (HR0.out.grown hP.g (by simp; omega))
    have HP9 := Lib.hid hP
    have HE := Lib.hid hr
    clear hP hr
    unfold fmA
    have y0 := HR9.out.cell 0
    have y1 := HR9.out.cell 1
    have y2 := HR9.out.cell 2
    have y3 := HR9.out.cell 3
    have x0 := HR9.out.frozen 0
    have x1 := HR9.out.frozen 1
    have x2 := HR9.out.frozen 2
    have x3 := HR9.out.frozen 3
    go_wp2_with fail
    clear x0 x1 x2 x3 y0 y1 y2 y3
    have hZ := (((HR9.out.set_ 0 (.int .i64 f.kind)).set_ 1 (.string ⟨f.name.toArray⟩)).set_ 2 (.int .i64 f.lit)).set_ 3 (.slice A f.kids.length cf)
    have z0 := hZ.cell 0
    have z1 := hZ.cell 1
    have z2 := hZ.cell 2
    have z3 := hZ.cell 3
    refine bodyPost_ret (v := fmA f A cf) (by simp [fmA, results, Tryd.results66, go_sem, z0, z1, z2, z3]) rfl ?_
    rw [HE.out]
    exact ps_finish (k := k') (xr := W.heap.size) HG0.out (Nat.le_refl _) (by omega) HP9.out (Nat.le_refl _) (by omega) (by omega)
set_option maxRecDepth 100000 in
set_option maxHeartbeats 4000000 in
theorem whole_step (n : Nat) (hIC : ImplyC n) : WholeC (n + 1) := by
  intro w pb tb to c k l d hT hS hd0 hd1 hn

  have hpl := hS.p.lt
  have htl := hS.t.lt
  have hlk := hS.k
  obtain ⟨w3, hw3⟩ : ∃ w3, w3 = ((w.alloc (.cells #[.pointer (some ⟨pb, 0, none⟩)] 75)).alloc (.cells #[.int .i64 d] 3)).alloc (.cells #[.int .i64 0, .string ⟨#[]⟩, .int .i64 0, .slice none 0 0] 37) := ⟨_, rfl⟩
  have hb3 : Below w.heap.size w w3 := by rw [hw3]; exact ((stepA w _).alloc (by simp) _).alloc (by simp; omega) _
  have hz3 : w3.heap.size = w.heap.size + 1 + 1 + 1 := by rw [hw3]; simp
  have hXP : Blk w3 w.heap.size 75 #[.pointer (some ⟨pb, 0, none⟩)] := by rw [hw3]; exact ((Blk.new w _ _).alloc _).alloc _
  have hXD : Blk w3 (w.heap.size + 1) 3 #[.int .i64 d] := by
    rw [hw3]
    have := Blk.new (w.alloc (.cells #[.pointer (some ⟨pb, 0, none⟩)] 75)) 3 #[.int .i64 d]
    rw [World.size_alloc] at this
    exact this.alloc _
  have HR3 : Hid (Blk w3 (w.heap.size + 1 + 1) 37 #[.int .i64 0, .string ⟨#[]⟩, .int .i64 0, .slice none 0 0]) := Lib.hid (by
    rw [hw3]
    have := Blk.new ((w.alloc (.cells #[.pointer (some ⟨pb, 0, none⟩)] 75)).alloc (.cells #[.int .i64 d] 3)) 37 #[.int .i64 0, .string ⟨#[]⟩, .int .i64 0, .slice none 0 0]
    rw [World.size_alloc, World.size_alloc] at this
    exact this)
  have HS3 := Lib.hid (hS.after hb3)
  have HG3 := Lib.hid (grown_of hb3 (some pb))

  have HC := Lib.hid (chain_any hT HS3.out [60, 45, 62] (by decide) 8 (by decide) 66 #[.pointer (some ⟨w.heap.size, 0, none⟩), .pointer (some ⟨w.heap.size + 1, 0, none⟩)] (implyP n d) (fun args w => by simp [callFunc, go_sem, Tryd.func66, Tryd.f66]) (whole1_any hT d n w.heap.size (w.heap.size + 1) hd0 (by omega) hXP hXD (by omega) (by omega) hIC (by omega)))
  have p0 := hXP.cell 0
  have d0 := hXD.cell 0
  clear hb3 hXP hXD hS hIC
  go_enter Tryd.func49, Tryd.ntmps49
  go_wp2_with fail
  rw [← hw3]
  clear hw3
  by_cases hd : 200 < d
  · have HE : Hid (wholeP (n + 1) d (leftT l k) = .bad 2 0) := Lib.hid (by rw [wholeP, if_pos hd])
    refine (down_bad d _ hd).mono ?_
    rintro e w4 ⟨rfl, rfl⟩
    refine ⟨rfl, ?_⟩
    rw [HE.out]
    exact ⟨rfl, HG3.out⟩
  have HE : Hid (wholeP (n + 1) d (leftT l k) = chainP (implyP n d) [60, 45, 62] 8 (leftT l k)) := Lib.hid (by rw [wholeP, if_neg hd])
  refine (down_ok d _ (by omega)).mono ?_
  rintro e w4 ⟨rfl, rfl⟩
  clear hd
  go_wp2_with fail
  clear p0 d0
  refine HC.out.mono ?_
  clear HC
  intro e w9 hP
  cases hr : chainP (implyP n d) [60, 45, 62] 8 (leftT l k) with
  | bad er m =>
    rw [hr] at hP
    obtain ⟨rfl, hg⟩ := hP
    refine ⟨rfl, ?_⟩
    rw [HE.out, hr]
    exact ps_bad HG3.out hg
  | ok f tf =>
    rw [hr] at hP
    obtain ⟨A, cf, k2, rfl, hP⟩ := hP
    replace HE := Lib.hid (HE.out.trans hr)
    have HR9 := Lib.hid (HR3.out.grown hP.g (by simp; omega))
    have HP9 := Lib.hid hP
    clear hP hr
    unfold fmA
    have y0 := HR9.out.cell 0
    have y1 := HR9.out.cell 1
    have y2 := HR9.out.cell 2
    have y3 := HR9.out.cell 3
    have x0 := HR9.out.frozen 0
    have x1 := HR9.out.frozen 1
    have x2 := HR9.out.frozen 2
    have x3 := HR9.out.frozen 3
    go_wp2_with fail
    clear x0 x1 x2 x3 y0 y1 y2 y3
    have hZ := (((HR9.out.set_ 0 (.int .i64 f.kind)).set_ 1 (.string ⟨f.name.toArray⟩)).set_ 2 (.int .i64 f.lit)).set_ 3 (.slice A f.kids.length cf)
    have z0 := hZ.cell 0
    have z1 := hZ.cell 1
    have z2 := hZ.cell 2
    have z3 := hZ.cell 3
    refine bodyPost_ret (v := fmA f A cf) (by simp [fmA, results, Tryd.results49, go_sem, z0, z1, z2, z3]) rfl ?_
    rw [HE.out]
    exact ps_finish (k := k) (xr := w.heap.size + 1 + 1) HG3.out (by omega) (by omega) HP9.out (Nat.le_refl _) (by omega) (by omega)
set_option maxRecDepth 100000 in
set_option maxHeartbeats 4000000 in
theorem imply_step (n : Nat) (hPC : PartC n) (hIC : ImplyC n) : ImplyC (n + 1) := by
  intro w pb tb to c k l d hT hS hd0 hd1 hn

  have hpl := hS.p.lt
  have htl := hS.t.lt
  have hlk := hS.k
  obtain ⟨w3, hw3⟩ : ∃ w3, w3 = ((w.alloc (.cells #[.pointer (some ⟨pb, 0, none⟩)] 75)).alloc (.cells #[.int .i64 d] 3)).alloc (.cells #[.int .i64 0, .string ⟨#[]⟩, .int .i64 0, .slice none 0 0] 37) := ⟨_, rfl⟩
  have hb3 : Below w.heap.size w w3 := by rw [hw3]; exact ((stepA w _).alloc (by simp) _).alloc (by simp; omega) _
  have hz3 : w3.heap.size = w.heap.size + 1 + 1 + 1 := by rw [hw3]; simp
  have hXP : Blk w3 w.heap.size 75 #[.pointer (some ⟨pb, 0, none⟩)] := by rw [hw3]; exact ((Blk.new w _ _).alloc _).alloc _
  have hXD : Blk w3 (w.heap.size + 1) 3 #[.int .i64 d] := by
    rw [hw3]
    have := Blk.new (w.alloc (.cells #[.pointer (some ⟨pb, 0, none⟩)] 75)) 3 #[.int .i64 d]
    rw [World.size_alloc] at this
    exact this.alloc _
  have HR3 : Hid (Blk w3 (w.heap.size + 1 + 1) 37 #[.int .i64 0, .string ⟨#[]⟩, .int .i64 0, .slice none 0 0]) := Lib.hid (by
    rw [hw3]
    have := Blk.new ((w.alloc (.cells #[.pointer (some ⟨pb, 0, none⟩)] 75)).alloc (.cells #[.int .i64 d] 3)) 37 #[.int .i64 0, .string ⟨#[]⟩, .int .i64 0, .slice none 0 0]
    rw [World.size_alloc, World.size_alloc] at this
    exact this)
  have HS3 := Lib.hid (hS.after hb3)
  have HG3 := Lib.hid (grown_of hb3 (some pb))

  have HC := Lib.hid (chain_any hT HS3.out [124] (by decide) 6 (by decide) 88 #[.pointer (some ⟨w.heap.size, 0, none⟩), .pointer (some ⟨w.heap.size + 1, 0, none⟩)] (chainP (partP n d) [38] 5) (fun args w => by simp [callFunc, go_sem, Tryd.func88, Tryd.f88]) (imply1_any hT d n w.heap.size (w.heap.size + 1) hd0 (by omega) hXP hXD (by omega) (by omega) hPC (by omega)))
  have p0 := hXP.cell 0
  have HXP := Lib.hid hXP
  have HXD := Lib.hid hXD
  have HIC := Lib.hid hIC
  have HE : Hid (implyP (n + 1) d (leftT l k) = (chainP (chainP (partP n d) [38] 5) [124] 6 (leftT l k)).bind fun f t' => if takes [45, 62] t' then (implyP n (d + 1) t'.tail).bind fun g t'' => .ok (.mk 7 [] 0 [f, g]) t'' else .ok f t') := Lib.hid (by rw [implyP])
  have hwr : IntKind.i64.wrap (d + 1) = d + 1 := IntWalk.i64_in _ (by omega)
  clear hb3 hXP hXD hS hIC hPC
  go_enter Tryd.func67, Tryd.ntmps67
  go_wp2_with fail
  rw [← hw3]
  clear hw3 p0
  refine HC.out.mono ?_
  clear HC
  intro e w4 hP
  cases hr : chainP (chainP (partP n d) [38] 5) [124] 6 (leftT l k) with
  | bad er m =>
    rw [hr] at hP
    obtain ⟨rfl, hg⟩ := hP
    refine ⟨rfl, ?_⟩
    rw [HE.out, hr]
    exact ps_bad HG3.out hg
  | ok f tf =>
    rw [hr] at hP
    obtain ⟨A, cf, k2, rfl, hP⟩ := hP
    replace HE := Lib.hid (HE.out.trans (by rw [hr, PR.bind_ok, hP.t]))
    have hs4 := hP.g.size
    have hbA := stepA w4 (.cells #[.int .i64 f.kind, .string ⟨f.name.toArray⟩, .int .i64 f.lit, .slice A f.kids.length cf] 37)
    have HXF := Lib.hid (Blk.new w4 37 #[.int .i64 f.kind, .string ⟨f.name.toArray⟩, .int .i64 f.lit, .slice A f.kids.length cf])
    have HR4 := Lib.hid ((HR3.out.grown hP.g (by simp; omega)).alloc (.cells #[.int .i64 f.kind, .string ⟨f.name.toArray⟩, .int .i64 f.lit, .slice A f.kids.length cf] 37))
    have HXP4 := Lib.hid ((HXP.out.grown hP.g (by simp; omega)).alloc (.cells #[.int .i64 f.kind, .string ⟨f.name.toArray⟩, .int .i64 f.lit, .slice A f.kids.length cf] 37))
    have HXD4 := Lib.hid ((HXD.out.grown hP.g (by simp; omega)).alloc (.cells #[.int .i64 f.kind, .string ⟨f.name.toArray⟩, .int .i64 f.lit, .slice A f.kids.length cf] 37))
    have HP4 := Lib.hid (hP.after hbA)
    have hkm := hP.km
    have hxp4 := HXP4.out.cell 0
    obtain ⟨xf, hxf⟩ : ∃ xf, xf = w4.heap.size := ⟨_, rfl⟩
    have hxfw : w.heap.size + 1 + 1 < xf := by omega
    have hzA : (w4.alloc (.cells #[.int .i64 f.kind, .string ⟨f.name.toArray⟩, .int .i64 f.lit, .slice A f.kids.length cf] 37)).heap.size = xf + 1 := by rw [hxf]; exact World.size_alloc _ _
    rw [← hxf] at HXF
    clear hP hbA hr HR3 HXP HXD
    unfold fmA
    go_wp2_with fail
    rw [← hxf]
    generalize w4.alloc (.cells #[.int .i64 f.kind, .string ⟨f.name.toArray⟩, .int .i64 f.lit, .slice A f.kids.length cf] 37) = w5 at HXF HR4 HXP4 HXD4 HP4 hzA hxp4 ⊢
    clear hxf
    refine (take_any hT HP4.out.s [45, 62] (by decide)).mono ?_
    rintro e w6 (⟨h1, rfl, rfl⟩ | ⟨h1, rfl, h2, h3⟩)
    · replace HE := Lib.hid (HE.out.trans (by rw [h1, if_neg (by decide)]))
      have f0 := HXF.out.cell 0
      have f1 := HXF.out.cell 1
      have f2 := HXF.out.cell 2
      have f3 := HXF.out.cell 3
      have HR9 := HR4
      have HP9 := HP4
      clear h1 HXP4 HXD4 HXF HR4 HP4 hxp4
      have y0 := HR9.out.cell 0
      have y1 := HR9.out.cell 1
      have y2 := HR9.out.cell 2
      have y3 := HR9.out.cell 3
      have x0 := HR9.out.frozen 0
      have x1 := HR9.out.frozen 1
      have x2 := HR9.out.frozen 2
      have x3 := HR9.out.frozen 3
      go_wp2_with fail
      clear x0 x1 x2 x3 y0 y1 y2 y3
      have hZ := (((HR9.out.set_ 0 (.int .i64 f.kind)).set_ 1 (.string ⟨f.name.toArray⟩)).set_ 2 (.int .i64 f.lit)).set_ 3 (.slice A f.kids.length cf)
      have z0 := hZ.cell 0
      have z1 := hZ.cell 1
      have z2 := hZ.cell 2
      have z3 := hZ.cell 3
      refine bodyPost_ret (v := fmA f A cf) (by simp [fmA, results, Tryd.results67, go_sem, z0, z1, z2, z3]) rfl ?_
      rw [HE.out, ← HP9.out.t]
      exact ps_finish (k := k) (xr := w.heap.size + 1 + 1) HG3.out (by omega) (by omega) HP9.out (Nat.le_refl _) (by omega) (by omega)
    · replace HE := Lib.hid (HE.out.trans (show _ = (implyP n (d + 1) (leftT l (k2 + 1))).bind (fun g t'' => .ok (.mk 7 [] 0 [f, g]) t'') by rw [h1, if_pos rfl, leftT_tail]))
      have hs6 := h3.size
      have HX6 := Lib.hid ((HXF.out.grown h3 (by simp; omega)).drew)
      have HXP6 := Lib.hid ((HXP4.out.grown h3 (by simp; omega)).drew)
      have HXD6 := Lib.hid ((HXD4.out.grown h3 (by simp; omega)).drew)
      have HR6 := Lib.hid ((HR4.out.grown h3 (by simp; omega)).drew)
      have HP6 := Lib.hid ((HP4.out.more h2 h3 (by omega)).after (stepD1 _))
      have hk2 := h2.k
      have HIM := Lib.hid (HIC.out w6.drew pb tb to c (k2 + 1) l (d + 1) hT HP6.out.s (by omega) (by omega) (by omega))
      clear h1 h2 h3 HXP4 HXD4 HXF HR4 HP4 hxp4
      go_wp2_with fail
      refine wp_region_seq (fun W => (W.cell? ⟨xf, 0, none⟩ = some (.int .i64 f.kind) ∧ W.cell? ⟨xf, 1, none⟩ = some (.string ⟨f.name.toArray⟩) ∧ W.cell? ⟨xf, 2, none⟩ = some (.int .i64 f.lit) ∧ W.cell? ⟨xf, 3, none⟩ = some (.slice A f.kids.length cf)) ∧ W.cell? ⟨w.heap.size, 0, none⟩ = some (.pointer (some ⟨pb, 0, none⟩)) ∧ W.cell? ⟨w.heap.size + 1, 0, none⟩ = some (.int .i64 d)) [0, 1, 2, 3, 4, 5, 6, 7] [0, 1, 2, 3] [7] (by kernel_rfl) (by kernel_rfl) rfl (by kernel_rfl) (by kernel_rfl) (fun _ _ d _ _ h => by cases d <;> exact h) ?_ (fun hSS => ?_)
      · exact ⟨⟨HX6.out.cell 0, HX6.out.cell 1, HX6.out.cell 2, HX6.out.cell 3⟩, HXP6.out.cell 0, HXD6.out.cell 0⟩
      clear hSS
      (refine wpSeq_mov rfl rfl ?_; intro o ho; simp only [List.getElem?_toArray, List.getElem?_cons_zero, List.getElem?_cons_succ, Option.some.injEq] at ho; subst ho; refine ⟨?_, Or.inl ⟨by rfl, fun W hSW => ?_⟩, ?_⟩; rotate_left; (focus (go_simp; first | done | with_reducible rfl)); try simp only [Act.put, List.setIfInBounds_toArray, List.set_cons_zero, List.set_cons_succ])
      (refine wpSeq_mov rfl rfl ?_; intro o ho; simp only [List.getElem?_toArray, List.getElem?_cons_zero, List.getElem?_cons_succ, Option.some.injEq] at ho; subst ho; refine ⟨?_, Or.inl ⟨by rfl, fun W hSW => ?_⟩, ?_⟩; rotate_left; (focus (go_simp; first | done | with_reducible rfl)); try simp only [Act.put, List.setIfInBounds_toArray, List.set_cons_zero, List.set_cons_succ])
      (refine wpSeq_mov rfl rfl ?_; intro o ho; simp only [List.getElem?_toArray, List.getElem?_cons_zero, List.getElem?_cons_succ, Option.some.injEq] at ho; subst ho; refine ⟨?_, Or.inl ⟨by rfl, fun W hSW => ?_⟩, ?_⟩; rotate_left; (focus (go_simp; first | done | with_reducible rfl)); try simp only [Act.put, List.setIfInBounds_toArray, List.set_cons_zero, List.set_cons_succ])
      (refine wpSeq_mov rfl rfl ?_; intro o ho; simp only [List.getElem?_toArray, List.getElem?_cons_zero, List.getElem?_cons_succ, Option.some.injEq] at ho; subst ho; refine ⟨?_, Or.inl ⟨by rfl, fun W hSW => ?_⟩, ?_⟩; rotate_left; (focus (go_simp; first | done | with_reducible rfl)); try simp only [Act.put, List.setIfInBounds_toArray, List.set_cons_zero, List.set_cons_succ])
      (refine wpSeq_fix rfl rfl ?_; intro o ho; simp only [List.getElem?_toArray, List.getElem?_cons_zero, List.getElem?_cons_succ, Option.some.injEq] at ho; subst ho; intro K hK)
      go_simp
      have hz6 : w6.heap.size = w6.drew.heap.size := rfl
      generalize w6.drew = w7 at HX6 HXP6 HXD6 HR6 HP6 HIM hz6 ⊢
      refine HIM.out.mono ?_
      clear HIM
      intro e w8 hP
      cases hr : implyP n (d + 1) (leftT l (k2 + 1)) with
      | bad er m =>
        rw [hr] at hP
        obtain ⟨rfl, hg⟩ := hP
        refine ⟨rfl, ?_⟩
        rw [HE.out, hr]
        exact ps_bad (grown_trans HG3.out HP6.out.g) hg
      | ok g tg =>
        rw [hr] at hP
        obtain ⟨B, cg, k4, rfl, hP⟩ := hP
        replace HE := Lib.hid (HE.out.trans (by rw [hr, PR.bind_ok]))
        have hs8 := hP.g.size
        have HX8 := Lib.hid (HX6.out.grown hP.g (by simp; omega))
        have HXP8 := Lib.hid (HXP6.out.grown hP.g (by simp; omega))
        have HXD8 := Lib.hid (HXD6.out.grown hP.g (by simp; omega))
        have HR8 := Lib.hid (HR6.out.grown hP.g (by simp; omega))
        have HP8 := Lib.hid hP
        have hx8l := HX8.out.lt
        clear hP hr
        unfold fmA
        (refine hK.out _ _ (fun _ => ⟨⟨HX8.out.cell 0, HX8.out.cell 1, HX8.out.cell 2, HX8.out.cell 3⟩, HXP8.out.cell 0, HXD8.out.cell 0⟩) ?_; clear hK K; try simp only [Act.put, List.setIfInBounds_toArray, List.set_cons_zero, List.set_cons_succ])
        (refine wpSeq_fix rfl rfl ?_; intro o ho; simp only [List.getElem?_toArray, List.getElem?_cons_zero, List.getElem?_cons_succ, Option.some.injEq] at ho; subst ho; intro K hK)
        go_simp
        (refine hK.out _ _ (fun _ => ⟨⟨(HX8.out.alloc _).cell 0, (HX8.out.alloc _).cell 1, (HX8.out.alloc _).cell 2, (HX8.out.alloc _).cell 3⟩, (HXP8.out.alloc _).cell 0, (HXD8.out.alloc _).cell 0⟩) ?_; clear hK K; try simp only [Act.put, List.setIfInBounds_toArray, List.set_cons_zero, List.set_cons_succ])
        (refine wpSeq_fix rfl rfl ?_; intro o ho; simp only [List.getElem?_toArray, List.getElem?_cons_zero, List.getElem?_cons_succ, Option.some.injEq] at ho; subst ho; intro K hK)
        go_simp
        refine (of_any _ _ _ _ _).mono ?_
        rintro e w9 ⟨rfl, hb9⟩
        have hbA := stepA w8 (.cells #[.int .i64 f.kind, .string ⟨f.name.toArray⟩, .int .i64 f.lit, .slice A f.kids.length cf, .int .i64 g.kind, .string ⟨g.name.toArray⟩, .int .i64 g.lit, .slice B g.kids.length cg] 37)
        have hX9 := (HX8.out.alloc (.cells #[.int .i64 f.kind, .string ⟨f.name.toArray⟩, .int .i64 f.lit, .slice A f.kids.length cf, .int .i64 g.kind, .string ⟨g.name.toArray⟩, .int .i64 g.lit, .slice B g.kids.length cg] 37)).below hb9 (by simp; omega)
        have hXP9 := (HXP8.out.alloc (.cells #[.int .i64 f.kind, .string ⟨f.name.toArray⟩, .int .i64 f.lit, .slice A f.kids.length cf, .int .i64 g.kind, .string ⟨g.name.toArray⟩, .int .i64 g.lit, .slice B g.kids.length cg] 37)).below hb9 (by simp; omega)
        have hXD9 := (HXD8.out.alloc (.cells #[.int .i64 f.kind, .string ⟨f.name.toArray⟩, .int .i64 f.lit, .slice A f.kids.length cf, .int .i64 g.kind, .string ⟨g.name.toArray⟩, .int .i64 g.lit, .slice B g.kids.length cg] 37)).below hb9 (by simp; omega)
        have HR9 := Lib.hid ((HR8.out.alloc (.cells #[.int .i64 f.kind, .string ⟨f.name.toArray⟩, .int .i64 f.lit, .slice A f.kids.length cf, .int .i64 g.kind, .string ⟨g.name.toArray⟩, .int .i64 g.lit, .slice B g.kids.length cg] 37)).below hb9 (by simp; omega))
        have HRW := Lib.hid ((Blk.new w8 37 #[.int .i64 f.kind, .string ⟨f.name.toArray⟩, .int .i64 f.lit, .slice A f.kids.length cf, .int .i64 g.kind, .string ⟨g.name.toArray⟩, .int .i64 g.lit, .slice B g.kids.length cg]).below hb9 (by simp))
        have HB9 := Lib.hid (step2 hbA hb9)
        (refine hK.out _ _ (fun _ => ⟨⟨hX9.cell 0, hX9.cell 1, hX9.cell 2, hX9.cell 3⟩, hXP9.cell 0, hXD9.cell 0⟩) ?_; clear hK K; try simp only [Act.put, List.setIfInBounds_toArray, List.set_cons_zero, List.set_cons_succ])
        clear hbA hb9 hX9 hXP9 hXD9
        have x0 := HR9.out.frozen 0
        have x1 := HR9.out.frozen 1
        have x2 := HR9.out.frozen 2
        have x3 := HR9.out.frozen 3
        have y0 := HR9.out.cell 0
        have y1 := HR9.out.cell 1
        have y2 := HR9.out.cell 2
        have y3 := HR9.out.cell 3
        (refine wpSeq_fix rfl rfl ?_; intro o ho; simp only [List.getElem?_toArray, List.getElem?_cons_zero, List.getElem?_cons_succ, Option.some.injEq] at ho; subst ho; intro K hK)
        go_simp
        (refine hK.out _ _ (fun h => by simp at h) ?_; clear hK K; try simp only [Act.put, List.setIfInBounds_toArray, List.set_cons_zero, List.set_cons_succ])
        refine wpSeq_doneP ?_
        clear x0 x1 x2 x3 y0 y1 y2 y3
        have hZ := (((HR9.out.set_ 0 (.int .i64 7)).set_ 1 (.string ⟨#[]⟩)).set_ 2 (.int .i64 0)).set_ 3 (.slice (some ⟨w8.heap.size, 0, none⟩) 2 2)
        have z0 := hZ.cell 0
        have z1 := hZ.cell 1
        have z2 := hZ.cell 2
        have z3 := hZ.cell 3
        go_wp2_with fail
        refine bodyPost_ret (v := .agg #[.int .i64 7, .string ⟨#[]⟩, .int .i64 0, .slice (some ⟨w8.heap.size, 0, none⟩) 2 2]) (by simp [results, Tryd.results67, go_sem, z0, z1, z2, z3]) rfl ?_
        rw [HE.out]
        have hkk := HP8.out.km
        have hs9 := HB9.out.size
        have HPN : Hid (PsOk w3 pb tb to c l k (.mk 7 [] 0 [f, g]) tg (some ⟨w8.heap.size, 0, none⟩) 2 k4 w9) := Lib.hid (by
          refine ⟨by omega, grown_trans (grown_trans HP6.out.g HP8.out.g) (grown_of HB9.out _), HP8.out.s.after HB9.out, ⟨by simp [Fm.kids], by simp [Fm.kids], by simp [Fm.kind], by simp [Fm.name], FmQ.two ⟨by omega, HRW.out.lt⟩ HRW.out ?_ ?_⟩, HP8.out.t⟩
          · exact (HP6.out.v.keep (w' := w8) (Q' := fun q => w3.heap.size ≤ q ∧ q < w8.heap.size) (fun q hq => ⟨hq.1, by omega⟩) (fun q hq => HP8.out.g.block q hq.2 (by have := hq.1; simp; omega))).low (B := w8.heap.size) (fun q hq => ⟨hq.2, hq.1, by omega⟩) HB9.out
          · exact HP8.out.v.low (B := w8.heap.size) (fun q hq => ⟨hq.2, by omega, by omega⟩) HB9.out)
        exact ps_finish (k := k) (xr := w.heap.size + 1 + 1) HG3.out (by omega) (by omega) HPN.out (Nat.le_refl _) (by omega) (by omega)
end
theorem parse_all : ∀ n, PartC n ∧ ImplyC n ∧ WholeC n
  | 0 => ⟨fun w pb tb to c k l d _ _ _ _ h => by omega, fun w pb tb to c k l d _ _ _ _ h => by omega, fun w pb tb to c k l d _ _ _ _ h => by omega⟩
  | n + 1 => by
    obtain ⟨h1, h2, h3⟩ := parse_all n
    exact ⟨part_step n h1 h3, imply_step n h1 h2, whole_step n h2⟩
end Go.Proofs.YtijecfmblddanaaDoor

set_option linter.unusedVariables false
set_option linter.unusedSimpArgs false
namespace Go.Proofs.YtijecfmblddanaaDoor
open Go.RowKit Go.Maps

theorem as_wrong (er at_ : Int) (w : World) : (Instr.typeAssert (wrongV er at_) 20 73 true).run Tryd.prog w = .ok (.tuple #[.agg #[.int .i64 er, .int .i64 at_], .bool true]) w := by
  kernel_rfl
theorem as_nil (w : World) : (Instr.typeAssert .nilIface 20 73 true).run Tryd.prog w = .ok (.tuple #[.agg #[.int .i64 0, .int .i64 0], .bool false]) w := by
  kernel_rfl

set_option maxRecDepth 100000 in
set_option maxHeartbeats 2000000 in
theorem catch_panicking (x : Nat) (er at_ : Int) (cs0 : Array Value) (e0 a0 : Int) (older : List PanicEntry) (w : World) (hf : Blk w x 37 cs0) (h4 : cs0.size = 4) (he : Blk w (x + 1) 28 #[.int .i64 e0]) (ha : Blk w (x + 1 + 1) 3 #[.int .i64 a0]) :
    CallsD Tryd.prog 48 #[.pointer (some ⟨x, 0, none⟩), .pointer (some ⟨x + 1, 0, none⟩), .pointer (some ⟨x + 1 + 1, 0, none⟩)] (.panicking ({ v := wrongV er at_, recovered := false } :: older)) w fun e u' w' =>
      e = .returned (.tuple #[]) ∧ u' = .panicking ({ v := wrongV er at_, recovered := true } :: older) ∧ Blk w' x 37 #[.int .i64 0, .string ⟨#[]⟩, .int .i64 0, .slice none 0 0] ∧ Blk w' (x + 1) 28 #[.int .i64 er] ∧ Blk w' (x + 1 + 1) 3 #[.int .i64 at_] ∧ Below x w w' := by
  refine callsD_of_wpS Tryd.func48 rfl fun c₀ cs hu => ?_
  simp only [Tryd.ntmps48, List.size_toArray, List.length_cons, List.length_nil, Nat.reduceAdd, Nat.reduceSub, Array.replicate_succ, Array.replicate_zero, List.push_toArray, List.append_toArray, List.nil_append, List.cons_append]
  apply wpS_seq
  apply wpS_region
  simp [wpOpsS, go_sem, recoverD, hu, Exit.thenS, as_wrong]
  refine wpS_of_wp ?_
  obtain ⟨f0, f1, f2, f3, rfl⟩ : ∃ f0 f1 f2 f3, cs0 = #[f0, f1, f2, f3] := by
    obtain ⟨l⟩ := cs0
    match l, h4 with
    | [f0, f1, f2, f3], _ => exact ⟨f0, f1, f2, f3, rfl⟩
  have hbA := stepA w (.cells #[.int .i64 er, .int .i64 at_] 73)
  have hX := (Blk.new w 73 #[.int .i64 er, .int .i64 at_])
  have HF := Lib.hid (hf.alloc (.cells #[.int .i64 er, .int .i64 at_] 73))
  have HE := Lib.hid (he.alloc (.cells #[.int .i64 er, .int .i64 at_] 73))
  have HA := Lib.hid (ha.alloc (.cells #[.int .i64 er, .int .i64 at_] 73))
  have HB := Lib.hid hbA
  have hxl := hf.lt
  have hel := he.lt
  have hal := ha.lt
  clear hf he ha hbA h4
  generalize hW : w.alloc (.cells #[.int .i64 er, .int .i64 at_] 73) = W at hX HF HE HA HB ⊢
  clear hW
  obtain ⟨xr, hxr⟩ : ∃ xr, xr = w.heap.size := ⟨_, rfl⟩
  rw [← hxr] at hX ⊢
  have hl1 : x + 1 + 1 < xr := by omega
  have HX := Lib.hid hX
  have HXR := Lib.hid hxr
  clear hX hxr
  go_wp2_with fail
  refine wp_region_seq (fun V => V.cell? ⟨xr, 0, none⟩ = some (.int .i64 er) ∧ V.cell? ⟨xr, 1, none⟩ = some (.int .i64 at_)) [0, 1, 2, 3, 4, 5, 6, 7] [0, 1, 2, 3, 4] [] (by kernel_rfl) (by kernel_rfl) rfl (by kernel_rfl) (by kernel_rfl) (fun _ _ d _ _ h => by cases d <;> exact h) ?_ (fun hSS => ?_)
  · exact ⟨HX.out.drew.cell 0, HX.out.drew.cell 1⟩
  clear hSS
  have HFd := Lib.hid HF.out.drew
  have HEd := Lib.hid HE.out.drew
  have HAd := Lib.hid HA.out.drew
  have HBd := Lib.hid (step2 HB.out (stepD1 W))
  have HXd := Lib.hid HX.out.drew
  clear HF HE HA HB HX
  generalize W.drew = V at HFd HEd HAd HBd HXd ⊢
  have y0 := HFd.out.cell 0
  have y1 := HFd.out.cell 1
  have y2 := HFd.out.cell 2
  have y3 := HFd.out.cell 3
  have x0 := HFd.out.frozen 0
  have x1 := HFd.out.frozen 1
  have x2 := HFd.out.frozen 2
  have x3 := HFd.out.frozen 3
  have z0 := HEd.out.cell 0
  have zf := HEd.out.frozen 0
  have v0 := HAd.out.cell 0
  have vf := HAd.out.frozen 0
  (refine wpSeq_mov rfl rfl ?_; intro o ho; simp only [List.getElem?_toArray, List.getElem?_cons_zero, List.getElem?_cons_succ, Option.some.injEq] at ho; subst ho; refine ⟨?_, Or.inl ⟨by rfl, fun W hSW => ?_⟩, ?_⟩; rotate_left; (focus (go_simp; first | done | with_reducible rfl)); try simp only [Act.put, List.setIfInBounds_toArray, List.set_cons_zero, List.set_cons_succ])
  (refine wpSeq_mov rfl rfl ?_; intro o ho; simp only [List.getElem?_toArray, List.getElem?_cons_zero, List.getElem?_cons_succ, Option.some.injEq] at ho; subst ho; refine ⟨?_, Or.inl ⟨by rfl, fun W hSW => ?_⟩, ?_⟩; rotate_left; (focus (go_simp; first | done | with_reducible rfl)); try simp only [Act.put, List.setIfInBounds_toArray, List.set_cons_zero, List.set_cons_succ])
  (refine wpSeq_mov rfl rfl ?_; intro o ho; simp only [List.getElem?_toArray, List.getElem?_cons_zero, List.getElem?_cons_succ, Option.some.injEq] at ho; subst ho; refine ⟨?_, Or.inl ⟨by rfl, fun W hSW => ?_⟩, ?_⟩; rotate_left; (focus (go_simp; first | done | with_reducible rfl)); try simp only [Act.put, List.setIfInBounds_toArray, List.set_cons_zero, List.set_cons_succ])
  (refine wpSeq_mov rfl rfl ?_; intro o ho; simp only [List.getElem?_toArray, List.getElem?_cons_zero, List.getElem?_cons_succ, Option.some.injEq] at ho; subst ho; refine ⟨?_, Or.inl ⟨by rfl, fun W hSW => ?_⟩, ?_⟩; rotate_left; (focus (go_simp; first | done | with_reducible rfl)); try simp only [Act.put, List.setIfInBounds_toArray, List.set_cons_zero, List.set_cons_succ])
  (refine wpSeq_mov rfl rfl ?_; intro o ho; simp only [List.getElem?_toArray, List.getElem?_cons_zero, List.getElem?_cons_succ, Option.some.injEq] at ho; subst ho; refine ⟨?_, Or.inl ⟨by rfl, fun W hSW => ?_⟩, ?_⟩; rotate_left; (focus (go_simp; first | done | with_reducible rfl)); try simp only [Act.put, List.setIfInBounds_toArray, List.set_cons_zero, List.set_cons_succ])
  have hn0 : xr ≠ x := by omega
  have hn1 : xr ≠ x + 1 := by omega
  have hn2 : xr ≠ x + 1 + 1 := by omega
  have HX1 := Lib.hid ((((HXd.out.far (p := ⟨x, 0, none⟩) hn0 (.int .i64 0)).far (p := ⟨x, 1, none⟩) hn0 (.string ⟨#[]⟩)).far (p := ⟨x, 2, none⟩) hn0 (.int .i64 0)).far (p := ⟨x, 3, none⟩) hn0 (.slice none 0 0))
  have HX2 := Lib.hid (HX1.out.far (p := ⟨x + 1, 0, none⟩) hn1 (.int .i64 er))
  have HX3 := Lib.hid (HX2.out.far (p := ⟨x + 1 + 1, 0, none⟩) hn2 (.int .i64 at_))
  (refine wpSeq_fix rfl rfl ?_; intro o ho; simp only [List.getElem?_toArray, List.getElem?_cons_zero, List.getElem?_cons_succ, Option.some.injEq] at ho; subst ho; intro K hK)
  go_simp
  (refine hK.out _ _ (fun _ => ⟨HX1.out.cell 0, HX1.out.cell 1⟩) ?_; clear hK K; try simp only [Act.put, List.setIfInBounds_toArray, List.set_cons_zero, List.set_cons_succ])
  (refine wpSeq_fix rfl rfl ?_; intro o ho; simp only [List.getElem?_toArray, List.getElem?_cons_zero, List.getElem?_cons_succ, Option.some.injEq] at ho; subst ho; intro K hK)
  go_simp
  (refine hK.out _ _ (fun _ => ⟨HX2.out.cell 0, HX2.out.cell 1⟩) ?_; clear hK K; try simp only [Act.put, List.setIfInBounds_toArray, List.set_cons_zero, List.set_cons_succ])
  (refine wpSeq_fix rfl rfl ?_; intro o ho; simp only [List.getElem?_toArray, List.getElem?_cons_zero, List.getElem?_cons_succ, Option.some.injEq] at ho; subst ho; intro K hK)
  go_simp
  (refine hK.out _ _ (fun _ => ⟨HX3.out.cell 0, HX3.out.cell 1⟩) ?_; clear hK K; try simp only [Act.put, List.setIfInBounds_toArray, List.set_cons_zero, List.set_cons_succ])
  refine wpSeq_doneP ?_
  refine ⟨rfl, _, rfl, .tuple #[], results_none rfl _ _ _, rfl, rfl, ?_, ?_, ?_, ?_⟩
  · exact (((((HFd.out.set_ 0 (.int .i64 0)).set_ 1 (.string ⟨#[]⟩)).set_ 2 (.int .i64 0)).set_ 3 (.slice none 0 0)).far (p := ⟨x + 1, 0, none⟩) (by dsimp only; omega) _).far (p := ⟨x + 1 + 1, 0, none⟩) (by dsimp only; omega) _
  · exact (((((HEd.out.far (p := ⟨x, 0, none⟩) (by dsimp only; omega) _).far (p := ⟨x, 1, none⟩) (by dsimp only; omega) _).far (p := ⟨x, 2, none⟩) (by dsimp only; omega) _).far (p := ⟨x, 3, none⟩) (by dsimp only; omega) _).set_ 0 (.int .i64 er)).far (p := ⟨x + 1 + 1, 0, none⟩) (by dsimp only; omega) _
  · exact (((((HAd.out.far (p := ⟨x, 0, none⟩) (by dsimp only; omega) _).far (p := ⟨x, 1, none⟩) (by dsimp only; omega) _).far (p := ⟨x, 2, none⟩) (by dsimp only; omega) _).far (p := ⟨x, 3, none⟩) (by dsimp only; omega) _).far (p := ⟨x + 1, 0, none⟩) (by dsimp only; omega) _).set_ 0 (.int .i64 at_)
  · have h0 : Below x w V := HBd.out.mono (by omega)
    exact (((((h0.setCell (p := ⟨x, 0, none⟩) (by dsimp only; omega) _).setCell (p := ⟨x, 1, none⟩) (by dsimp only; omega) _).setCell (p := ⟨x, 2, none⟩) (by dsimp only; omega) _).setCell (p := ⟨x, 3, none⟩) (by dsimp only; omega) _).setCell (p := ⟨x + 1, 0, none⟩) (by dsimp only; omega) _).setCell (p := ⟨x + 1 + 1, 0, none⟩) (by dsimp only; omega) _

set_option maxRecDepth 100000 in
set_option maxHeartbeats 2000000 in
theorem catch_idle (x y z : Addr) (w : World) :
    CallsD Tryd.prog 48 #[.pointer (some x), .pointer (some y), .pointer (some z)] .returning w fun e u' w' =>
      e = .returned (.tuple #[]) ∧ u' = .returning ∧ w' = w.alloc (.cells #[.int .i64 0, .int .i64 0] 73) := by
  refine callsD_of_wpS Tryd.func48 rfl fun c₀ cs hu => ?_
  simp only [Tryd.ntmps48, List.size_toArray, List.length_cons, List.length_nil, Nat.reduceAdd, Nat.reduceSub, Array.replicate_succ, Array.replicate_zero, List.push_toArray, List.append_toArray, List.nil_append, List.cons_append]
  apply wpS_seq
  apply wpS_region
  simp [wpOpsS, go_sem, recoverD, hu, Exit.thenS, as_nil]
  refine wpS_of_wp ?_
  go_wp2_with fail
  refine ⟨rfl, .returning, ?_, .tuple #[], results_none rfl _ _ _, rfl, rfl, rfl⟩
  cases c₀
  simp_all

/-- What Parse hands back. -/
def ParsePost (w : World) (r : Fm × Int × Nat) (e : Ending) (w' : World) : Prop := ∃ A c, e = .returned (.tuple #[fmA r.1 A c, .int .i64 r.2.1, .int .i64 (r.2.2 : Int)]) ∧ FmV w' w'.heap.size r.1 A c ∧ Below w.heap.size w w'

theorem fm0_v (w : World) (B : Nat) : FmV w B fm0 none 0 := ⟨by decide, by decide, by decide, by decide, .nil _⟩
theorem parseOf_bad {l : List UInt8} (h : 20000 < l.length ∨ lexBad l = true) : ∃ (E : Int) (p : Nat), lexOf l = ([], E, (p : Int)) ∧ E ≠ 0 ∧ parseOf l = (fm0, E, p) := by
  by_cases h1 : 20000 < l.length
  · exact ⟨2, 0, by unfold lexOf; rw [if_pos h1]; rfl, by decide, by unfold parseOf; rw [if_pos h1]⟩
  · have h2 : lexBad l = true := by rcases h with h | h; exact absurd h h1; exact h
    exact ⟨40, lexPlace l, by unfold lexOf; rw [if_neg h1, if_pos h2], by decide, by unfold parseOf; rw [if_neg h1, if_pos h2]⟩

/-- Six stores below leave a formula as it is. -/
theorem FmVQ.v6 {w : World} {x c : Nat} {f : Fm} {A : Option Addr} {v0 v1 v2 v3 v4 v5 : Value} {o : Obj} (h : FmVQ w (fun b => x + 1 + 1 < b ∧ b < w.heap.size) f A c) :
    FmV (((((((w.setCell ⟨x, 0, none⟩ v0).setCell ⟨x, 1, none⟩ v1).setCell ⟨x, 2, none⟩ v2).setCell ⟨x, 3, none⟩ v3).setCell ⟨x + 1, 0, none⟩ v4).setCell ⟨x + 1 + 1, 0, none⟩ v5).alloc o) (((((((w.setCell ⟨x, 0, none⟩ v0).setCell ⟨x, 1, none⟩ v1).setCell ⟨x, 2, none⟩ v2).setCell ⟨x, 3, none⟩ v3).setCell ⟨x + 1, 0, none⟩ v4).setCell ⟨x + 1 + 1, 0, none⟩ v5).alloc o).heap.size f A c := by
  have h1 := ((((((h.far (x := x) (i := 0) (fun b hb => by omega) v0).far (x := x) (i := 1) (fun b hb => by omega) v1).far (x := x) (i := 2) (fun b hb => by omega) v2).far (x := x) (i := 3) (fun b hb => by omega) v3).far (x := x + 1) (i := 0) (fun b hb => by omega) v4).far (x := x + 1 + 1) (i := 0) (fun b hb => by omega) v5)
  have hs : ((((((w.setCell ⟨x, 0, none⟩ v0).setCell ⟨x, 1, none⟩ v1).setCell ⟨x, 2, none⟩ v2).setCell ⟨x, 3, none⟩ v3).setCell ⟨x + 1, 0, none⟩ v4).setCell ⟨x + 1 + 1, 0, none⟩ v5).heap.size = w.heap.size := by simp [World.setCell]
  exact (h1.v (B := ((((((w.setCell ⟨x, 0, none⟩ v0).setCell ⟨x, 1, none⟩ v1).setCell ⟨x, 2, none⟩ v2).setCell ⟨x, 3, none⟩ v3).setCell ⟨x + 1, 0, none⟩ v4).setCell ⟨x + 1 + 1, 0, none⟩ v5).heap.size) (fun b hb => by rw [hs]; exact hb.2)).after (stepA _ _)
/-- The three results' blocks. -/
structure Res3 (w : World) (x : Nat) (f : Fm) (A : Option Addr) (c : Nat) (er at_ : Int) : Prop where
  f : Blk w x 37 #[.int .i64 f.kind, .string ⟨f.name.toArray⟩, .int .i64 f.lit, .slice A f.kids.length c]
  e : Blk w (x + 1) 28 #[.int .i64 er]
  a : Blk w (x + 1 + 1) 3 #[.int .i64 at_]
theorem Res3.after {w w' : World} {x c : Nat} {f : Fm} {A : Option Addr} {er at_ : Int} (h : Res3 w x f A c er at_) (hb : Below w.heap.size w w') : Res3 w' x f A c er at_ := ⟨h.f.below hb h.f.lt, h.e.below hb h.e.lt, h.a.below hb h.a.lt⟩
theorem Res3.grown {w w' : World} {x c : Nat} {f : Fm} {A : Option Addr} {er at_ : Int} {pb : Nat} (h : Res3 w x f A c er at_) (hg : w.grownBy w' (some pb)) (hp : x + 1 + 1 < pb) : Res3 w' x f A c er at_ := ⟨h.f.grown hg (by simp; omega), h.e.grown hg (by simp; omega), h.a.grown hg (by simp; omega)⟩
/-- The results are read. -/
theorem Res3.read {w : World} {x c : Nat} {f : Fm} {A : Option Addr} {er at_ : Int} (h : Res3 w x f A c er at_) (tmps : Array Value) (h2 : tmps[2]? = some (.pointer (some ⟨x, 0, none⟩))) (h3 : tmps[3]? = some (.pointer (some ⟨x + 1, 0, none⟩))) (h4 : tmps[4]? = some (.pointer (some ⟨x + 1 + 1, 0, none⟩))) :
    (results Tryd.f31 tmps).run Tryd.prog w = .ok (.tuple #[fmA f A c, .int .i64 er, .int .i64 at_]) w := by
  have z0 := h.f.cell 0
  have z1 := h.f.cell 1
  have z2 := h.f.cell 2
  have z3 := h.f.cell 3
  have e0 := h.e.cell 0
  have a0 := h.a.cell 0
  simp [fmA, results, Tryd.results31, go_sem, h2, h3, h4, z0, z1, z2, z3, e0, a0]

set_option maxRecDepth 100000 in
set_option maxHeartbeats 4000000 in
theorem parse_any (s : ByteArray) (hs : s.size ≤ 140737488355328) (w : World) : Calls Tryd.prog 31 #[.string s] w (ParsePost w (parseOf s.data.toList)) := by
  have hmf : ∀ (fn : Fn) (first cap : Array Value) (w : World), (Instr.makeFunc fn first cap).run Tryd.prog w = .ok (.func fn first cap) w := fun _ _ _ _ => rfl
  have HL := Lib.hid (fun W => lex_new s hs W)
  obtain ⟨w0, hw0⟩ : ∃ w0, w0 = ((w.alloc (.cells #[.int .i64 0, .string ⟨#[]⟩, .int .i64 0, .slice none 0 0] 37)).alloc (.cells #[.int .i64 0] 28)).alloc (.cells #[.int .i64 0] 3) := ⟨_, rfl⟩
  have hb0 : Below w.heap.size w w0 := by rw [hw0]; exact ((stepA w _).alloc (by simp) _).alloc (by simp; omega) _
  have hz0 : w0.heap.size = w.heap.size + 1 + 1 + 1 := by rw [hw0]; simp
  have HR0 : Hid (Res3 w0 w.heap.size fm0 none 0 0 0) := Lib.hid (by
    rw [hw0]
    refine ⟨((Blk.new w _ _).alloc _).alloc _, ?_, ?_⟩
    · have := Blk.new (w.alloc (.cells #[.int .i64 0, .string ⟨#[]⟩, .int .i64 0, .slice none 0 0] 37)) 28 #[.int .i64 0]
      rw [World.size_alloc] at this
      exact this.alloc _
    · have := Blk.new ((w.alloc (.cells #[.int .i64 0, .string ⟨#[]⟩, .int .i64 0, .slice none 0 0] 37)).alloc (.cells #[.int .i64 0] 28)) 3 #[.int .i64 0]
      rwa [World.size_alloc, World.size_alloc] at this)
  have HB0 := Lib.hid hb0
  clear hb0
  go_enter_defers Tryd.func31, Tryd.ntmps31
  go_wp2_with fail
  rw [← hw0]
  clear hw0
  refine (HL.out _).mono ?_
  clear HL
  rintro e w1 ⟨A, c, rfl, hc, hv, hb, hnew⟩
  have hR1 := HR0.out.after hb
  have e0 := hR1.e.cell 0
  have ef := hR1.e.frozen 0
  have a0 := hR1.a.cell 0
  have af := hR1.a.frozen 0
  have HR1 := Lib.hid hR1
  have HB1 := Lib.hid (HB0.out.trans (hb.mono (by omega)))
  have hz1 := hb.size
  by_cases hbad : 20000 < s.data.toList.length ∨ lexBad s.data.toList = true
  · obtain ⟨E, p, h1, h2, h3⟩ := parseOf_bad hbad
    have HPO := Lib.hid h3
    rw [h1]
    have hE : (E == 0) = false := by simp [h2]
    have hE2 : (E != 0) = true := by simp [h2]
    clear hR1 hb hbad h1 h2 h3 hc hv hnew
    go_wp2_with fail
    clear e0 ef a0 af
    have HR2 : Hid (Res3 ((w1.setCell ⟨w.heap.size + 1, 0, none⟩ (.int .i64 E)).setCell ⟨w.heap.size + 1 + 1, 0, none⟩ (.int .i64 (p : Int))).drew w.heap.size fm0 none 0 E (p : Int)) := Lib.hid ⟨(HR1.out.f.far (p := ⟨w.heap.size + 1, 0, none⟩) (by dsimp only; omega) _).far (p := ⟨w.heap.size + 1 + 1, 0, none⟩) (by dsimp only; omega) _, (HR1.out.e.set_ 0 (.int .i64 E)).far (p := ⟨w.heap.size + 1 + 1, 0, none⟩) (by dsimp only; omega) _, (HR1.out.a.far (p := ⟨w.heap.size + 1, 0, none⟩) (by dsimp only; omega) _).set_ 0 (.int .i64 (p : Int))⟩
    have HB2 : Hid (Below w.heap.size w ((w1.setCell ⟨w.heap.size + 1, 0, none⟩ (.int .i64 E)).setCell ⟨w.heap.size + 1 + 1, 0, none⟩ (.int .i64 (p : Int))).drew) := Lib.hid (((HB1.out.setCell (p := ⟨w.heap.size + 1, 0, none⟩) (by dsimp only; omega) _).setCell (p := ⟨w.heap.size + 1 + 1, 0, none⟩) (by dsimp only; omega) _).drew)
    refine wp_region_noPanic ?_
    refine wp_region_seq (fun W => (W.cell? ⟨w.heap.size, 0, none⟩ = some (.int .i64 0) ∧ W.cell? ⟨w.heap.size, 1, none⟩ = some (.string ⟨#[]⟩) ∧ W.cell? ⟨w.heap.size, 2, none⟩ = some (.int .i64 0) ∧ W.cell? ⟨w.heap.size, 3, none⟩ = some (.slice none 0 0)) ∧ W.cell? ⟨w.heap.size + 1, 0, none⟩ = some (.int .i64 E) ∧ W.cell? ⟨w.heap.size + 1 + 1, 0, none⟩ = some (.int .i64 (p : Int))) [0, 1, 2, 3, 4, 5] [0, 1, 2] [] (by kernel_rfl) (by kernel_rfl) rfl (by kernel_rfl) (by kernel_rfl) (fun _ _ _ _ _ h => h) ?_ (fun hSS => ?_)
    · exact ⟨⟨HR2.out.f.cell 0, HR2.out.f.cell 1, HR2.out.f.cell 2, HR2.out.f.cell 3⟩, HR2.out.e.cell 0, HR2.out.a.cell 0⟩
    clear hSS
    generalize ((w1.setCell ⟨w.heap.size + 1, 0, none⟩ (.int .i64 E)).setCell ⟨w.heap.size + 1 + 1, 0, none⟩ (.int .i64 (p : Int))).drew = w3 at HR2 HB2 ⊢
    have y0 := HR2.out.f.cell 0
    have y1 := HR2.out.f.cell 1
    have y2 := HR2.out.f.cell 2
    have y3 := HR2.out.f.cell 3
    have x0 := HR2.out.f.frozen 0
    have x1 := HR2.out.f.frozen 1
    have x2 := HR2.out.f.frozen 2
    have x3 := HR2.out.f.frozen 3
    have z0 := HR2.out.e.cell 0
    have zf := HR2.out.e.frozen 0
    have v0 := HR2.out.a.cell 0
    have vf := HR2.out.a.frozen 0
    have HR3 : Hid (Res3 ((((w3.setCell ⟨w.heap.size, 0, none⟩ (.int .i64 0)).setCell ⟨w.heap.size, 1, none⟩ (.string ⟨#[]⟩)).setCell ⟨w.heap.size, 2, none⟩ (.int .i64 0)).setCell ⟨w.heap.size, 3, none⟩ (.slice none 0 0)) w.heap.size fm0 none 0 E (p : Int)) := Lib.hid
      ⟨(((HR2.out.f.set_ 0 _).set_ 1 _).set_ 2 _).set_ 3 _, (((HR2.out.e.far (p := ⟨w.heap.size, 0, none⟩) (by dsimp only; omega) _).far (p := ⟨w.heap.size, 1, none⟩) (by dsimp only; omega) _).far (p := ⟨w.heap.size, 2, none⟩) (by dsimp only; omega) _).far (p := ⟨w.heap.size, 3, none⟩) (by dsimp only; omega) _, (((HR2.out.a.far (p := ⟨w.heap.size, 0, none⟩) (by dsimp only; omega) _).far (p := ⟨w.heap.size, 1, none⟩) (by dsimp only; omega) _).far (p := ⟨w.heap.size, 2, none⟩) (by dsimp only; omega) _).far (p := ⟨w.heap.size, 3, none⟩) (by dsimp only; omega) _⟩
    have HR4 := Lib.hid (show Res3 (((((w3.setCell ⟨w.heap.size, 0, none⟩ (.int .i64 0)).setCell ⟨w.heap.size, 1, none⟩ (.string ⟨#[]⟩)).setCell ⟨w.heap.size, 2, none⟩ (.int .i64 0)).setCell ⟨w.heap.size, 3, none⟩ (.slice none 0 0)).setCell ⟨w.heap.size + 1, 0, none⟩ (.int .i64 E)) w.heap.size fm0 none 0 E (p : Int) from ⟨HR3.out.f.far (p := ⟨w.heap.size + 1, 0, none⟩) (by dsimp only; omega) _, HR3.out.e.set_ 0 _, HR3.out.a.far (p := ⟨w.heap.size + 1, 0, none⟩) (by dsimp only; omega) _⟩)
    have HR5 := Lib.hid (show Res3 ((((((w3.setCell ⟨w.heap.size, 0, none⟩ (.int .i64 0)).setCell ⟨w.heap.size, 1, none⟩ (.string ⟨#[]⟩)).setCell ⟨w.heap.size, 2, none⟩ (.int .i64 0)).setCell ⟨w.heap.size, 3, none⟩ (.slice none 0 0)).setCell ⟨w.heap.size + 1, 0, none⟩ (.int .i64 E)).setCell ⟨w.heap.size + 1 + 1, 0, none⟩ (.int .i64 (p : Int))) w.heap.size fm0 none 0 E (p : Int) from ⟨HR4.out.f.far (p := ⟨w.heap.size + 1 + 1, 0, none⟩) (by dsimp only; omega) _, HR4.out.e.far (p := ⟨w.heap.size + 1 + 1, 0, none⟩) (by dsimp only; omega) _, HR4.out.a.set_ 0 _⟩)
    (refine wpSeq_mov rfl rfl ?_; intro o ho; simp only [List.getElem?_toArray, List.getElem?_cons_zero, List.getElem?_cons_succ, Option.some.injEq] at ho; subst ho; refine ⟨?_, Or.inl ⟨by rfl, fun W hSW => ?_⟩, ?_⟩; rotate_left; (focus (go_simp; first | done | with_reducible rfl)); try simp only [Act.put, List.setIfInBounds_toArray, List.set_cons_zero, List.set_cons_succ])
    (refine wpSeq_mov rfl rfl ?_; intro o ho; simp only [List.getElem?_toArray, List.getElem?_cons_zero, List.getElem?_cons_succ, Option.some.injEq] at ho; subst ho; refine ⟨?_, Or.inl ⟨by rfl, fun W hSW => ?_⟩, ?_⟩; rotate_left; (focus (go_simp; first | done | with_reducible rfl)); try simp only [Act.put, List.setIfInBounds_toArray, List.set_cons_zero, List.set_cons_succ])
    (refine wpSeq_mov rfl rfl ?_; intro o ho; simp only [List.getElem?_toArray, List.getElem?_cons_zero, List.getElem?_cons_succ, Option.some.injEq] at ho; subst ho; refine ⟨?_, Or.inl ⟨by rfl, fun W hSW => ?_⟩, ?_⟩; rotate_left; (focus (go_simp; first | done | with_reducible rfl)); try simp only [Act.put, List.setIfInBounds_toArray, List.set_cons_zero, List.set_cons_succ])
    (refine wpSeq_fix rfl rfl ?_; intro o ho; simp only [List.getElem?_toArray, List.getElem?_cons_zero, List.getElem?_cons_succ, Option.some.injEq] at ho; subst ho; intro K hK)
    go_simp
    (refine hK.out _ _ (fun _ => ⟨⟨HR3.out.f.cell 0, HR3.out.f.cell 1, HR3.out.f.cell 2, HR3.out.f.cell 3⟩, HR3.out.e.cell 0, HR3.out.a.cell 0⟩) ?_; clear hK K; try simp only [Act.put, List.setIfInBounds_toArray, List.set_cons_zero, List.set_cons_succ])
    (refine wpSeq_fix rfl rfl ?_; intro o ho; simp only [List.getElem?_toArray, List.getElem?_cons_zero, List.getElem?_cons_succ, Option.some.injEq] at ho; subst ho; intro K hK)
    go_simp
    (refine hK.out _ _ (fun _ => ⟨⟨HR4.out.f.cell 0, HR4.out.f.cell 1, HR4.out.f.cell 2, HR4.out.f.cell 3⟩, HR4.out.e.cell 0, HR4.out.a.cell 0⟩) ?_; clear hK K; try simp only [Act.put, List.setIfInBounds_toArray, List.set_cons_zero, List.set_cons_succ])
    (refine wpSeq_fix rfl rfl ?_; intro o ho; simp only [List.getElem?_toArray, List.getElem?_cons_zero, List.getElem?_cons_succ, Option.some.injEq] at ho; subst ho; intro K hK)
    go_simp
    (refine hK.out _ _ (fun _ => ⟨⟨HR5.out.f.cell 0, HR5.out.f.cell 1, HR5.out.f.cell 2, HR5.out.f.cell 3⟩, HR5.out.e.cell 0, HR5.out.a.cell 0⟩) ?_; clear hK K; try simp only [Act.put, List.setIfInBounds_toArray, List.set_cons_zero, List.set_cons_succ])
    refine wpSeq_done ?_
    go_wp2_with fail
    refine ⟨_, HR5.out.read _ rfl rfl rfl, ?_⟩
    rw [HPO.out]
    refine ⟨none, 0, rfl, fm0_v _ _, ?_⟩
    exact (((((HB2.out.setCell (p := ⟨w.heap.size, 0, none⟩) (by dsimp only; omega) _).setCell (p := ⟨w.heap.size, 1, none⟩) (by dsimp only; omega) _).setCell (p := ⟨w.heap.size, 2, none⟩) (by dsimp only; omega) _).setCell (p := ⟨w.heap.size, 3, none⟩) (by dsimp only; omega) _).setCell (p := ⟨w.heap.size + 1, 0, none⟩) (by dsimp only; omega) _).setCell (p := ⟨w.heap.size + 1 + 1, 0, none⟩) (by dsimp only; omega) _
  · have hl0 : ¬ 20000 < s.data.toList.length := fun h => hbad (.inl h)
    have hlb : lexBad s.data.toList = false := by
      cases h : lexBad s.data.toList with
      | false => rfl
      | true => exact absurd (.inr h) hbad
    obtain ⟨L, hL⟩ : ∃ L, L = lexToks s.data.toList := ⟨_, rfl⟩
    have hT : ToksOk L := by rw [hL]; exact toksOk (by omega) hlb
    have hlo : lexOf s.data.toList = (L, 0, 0) := by unfold lexOf; rw [if_neg hl0, if_neg (by rw [hlb]; decide), hL]
    have HPO : Hid (parseOf s.data.toList = ((parseT (leftT L 0)).1, (parseT (leftT L 0)).2.1, tokPlace L (parseT (leftT L 0)).2.1 (parseT (leftT L 0)).2.2)) := Lib.hid (by
      have e : (lexToks s.data.toList).map ktOf = leftT L 0 := by rw [hL]; rfl
      unfold parseOf
      rw [if_neg hl0, if_neg (by rw [hlb]; decide), e, ← hL])
    rw [hlo] at hc hv ⊢
    obtain ⟨tb, to, rfl, hrow⟩ := TkRow.of hv hT.pos
    have htb : w0.heap.size ≤ tb := hnew tb to rfl
    have hpos := hT.pos
    have hmany := hT.many
    obtain ⟨w2, hw2⟩ : ∃ w2, w2 = ((w1.setCell ⟨w.heap.size + 1, 0, none⟩ (.int .i64 0)).setCell ⟨w.heap.size + 1 + 1, 0, none⟩ (.int .i64 0)).alloc (.cells #[.slice (some ⟨tb, to, none⟩) L.length c] 77) := ⟨_, rfl⟩
    have hsz : ((w1.setCell ⟨w.heap.size + 1, 0, none⟩ (.int .i64 0)).setCell ⟨w.heap.size + 1 + 1, 0, none⟩ (.int .i64 0)).heap.size = w1.heap.size := by simp [World.setCell]
    have hz2 : w2.heap.size = w1.heap.size + 1 := by rw [hw2, World.size_alloc, hsz]
    have hS2 : PsSt w2 w1.heap.size tb to c L 0 := by
      refine ⟨?_, ?_, by have := hrow.lt; omega, hpos, hc⟩
      · rw [hw2]
        have := Blk.new ((w1.setCell ⟨w.heap.size + 1, 0, none⟩ (.int .i64 0)).setCell ⟨w.heap.size + 1 + 1, 0, none⟩ (.int .i64 0)) 77 #[.slice (some ⟨tb, to, none⟩) L.length c]
        rw [hsz] at this
        exact this
      · refine hrow.keep ?_ (by omega)
        have h1 := Below.heap_setCell w1 ⟨w.heap.size + 1, 0, none⟩ (.int .i64 0) tb (by simp; omega)
        have h2 := Below.heap_setCell (w1.setCell ⟨w.heap.size + 1, 0, none⟩ (.int .i64 0)) ⟨w.heap.size + 1 + 1, 0, none⟩ (.int .i64 0) tb (by simp; omega)
        rw [hw2, Lib.alloc_old _ _ tb (by rw [hsz]; exact hrow.lt), h2, h1]
    have HR2 : Hid (Res3 w2 w.heap.size fm0 none 0 0 0) := Lib.hid (by
      rw [hw2]
      exact ⟨((HR1.out.f.far (p := ⟨w.heap.size + 1, 0, none⟩) (by dsimp only; omega) _).far (p := ⟨w.heap.size + 1 + 1, 0, none⟩) (by dsimp only; omega) _).alloc _, ((HR1.out.e.set_ 0 (.int .i64 0)).far (p := ⟨w.heap.size + 1 + 1, 0, none⟩) (by dsimp only; omega) _).alloc _, ((HR1.out.a.far (p := ⟨w.heap.size + 1, 0, none⟩) (by dsimp only; omega) _).set_ 0 (.int .i64 0)).alloc _⟩)
    have HB2 : Hid (Below w.heap.size w w2) := Lib.hid (by
      rw [hw2]
      exact ((HB1.out.setCell (p := ⟨w.heap.size + 1, 0, none⟩) (by dsimp only; omega) _).setCell (p := ⟨w.heap.size + 1 + 1, 0, none⟩) (by dsimp only; omega) _).alloc (by rw [hsz]; omega) _)
    have HC := Lib.hid ((parse_all (3 * L.length + 3)).2.2 w2 w1.heap.size tb to c 0 L 0 hT hS2 (by decide) (by omega) (by omega))
    have hpt : parseT (leftT L 0) = finT (wholeP (3 * L.length + 3) 0 (leftT L 0)) := by
      unfold parseT
      rw [leftT_len, Nat.sub_zero]
    rw [hpt] at HPO
    have htl := hrow.lt
    clear hR1 hb hbad hl0 hlb hL hlo hc hv hnew hrow hS2 hpt
    go_wp2_with fail
    rw [← hw2]
    clear hw2 hsz e0 ef a0 af
    refine HC.out.mono ?_
    clear HC
    intro e w3 hP
    cases hr : wholeP (3 * L.length + 3) 0 (leftT L 0) with
    | bad er m =>
      rw [hr] at hP HPO
      rw [finT_bad] at HPO
      obtain ⟨rfl, hg⟩ := hP
      have HR3 := Lib.hid (HR2.out.grown hg (by omega))
      have HB3 : Hid (Below w.heap.size w w3) := Lib.hid (HB2.out.grown hg (by omega) (fun k hk => by cases hk; omega))
      refine leaves_cons (f := 48) (args := #[.pointer (some ⟨w.heap.size, 0, none⟩), .pointer (some ⟨w.heap.size + 1, 0, none⟩), .pointer (some ⟨w.heap.size + 1 + 1, 0, none⟩)]) (by simp) (by simp [go_sem]) ?_
      refine (catch_panicking w.heap.size er _ _ _ _ [] _ HR3.out.f rfl HR3.out.e HR3.out.a).mono ?_
      rintro e u' w9 ⟨rfl, rfl, h1, h2, h3, h4⟩
      refine ⟨_, Res3.read (f := fm0) (A := none) (c := 0) ⟨h1, h2, h3⟩ _ rfl rfl rfl, ?_⟩
      rw [HPO.out]
      exact ⟨none, 0, rfl, fm0_v _ _, HB3.out.trans h4⟩
    | ok f t =>
      rw [hr] at hP HPO
      rw [finT_ok] at HPO
      obtain ⟨Af, cf, k, rfl, hP⟩ := hP
      have hR3 := HR2.out.grown hP.g (by omega)
      have hs3 := hP.g.size
      have HB3 : Hid (Below w.heap.size w w3) := Lib.hid (HB2.out.grown hP.g (by omega) (fun k hk => by cases hk; omega))
      obtain ⟨tk, htk⟩ : ∃ tk, L[k]? = some tk := ⟨_, List.getElem?_eq_getElem hP.s.k⟩
      have hhd : (hdT t).1 = tk.kind := by rw [hP.t, leftT_at htk]; rfl
      have htn : t.length = L.length - k := by rw [hP.t, leftT_len]
      rw [hhd, htn] at HPO
      have p0 := hP.s.p.cell 0
      have t0 := hP.s.t.kind k tk htk
      have hkl := hP.s.k
      have hkl2 : 0 < L.length - k := by omega
      have y0 := hR3.f.cell 0
      have y1 := hR3.f.cell 1
      have y2 := hR3.f.cell 2
      have y3 := hR3.f.cell 3
      have x0 := hR3.f.frozen 0
      have x1 := hR3.f.frozen 1
      have x2 := hR3.f.frozen 2
      have x3 := hR3.f.frozen 3
      have hpx : w1.heap.size ≠ w.heap.size := by omega
      have htx : tb ≠ w.heap.size := by omega
      have HS4 : Hid (PsSt (((((w3.setCell ⟨w.heap.size, 0, none⟩ (.int .i64 f.kind)).setCell ⟨w.heap.size, 1, none⟩ (.string ⟨f.name.toArray⟩)).setCell ⟨w.heap.size, 2, none⟩ (.int .i64 f.lit)).setCell ⟨w.heap.size, 3, none⟩ (.slice Af f.kids.length cf))) w1.heap.size tb to c L k) := Lib.hid ((((hP.s.far (by omega) (by omega) _).far (by omega) (by omega) _).far (by omega) (by omega) _).far (by omega) (by omega) _)
      have HR4 : Hid (Res3 (((((w3.setCell ⟨w.heap.size, 0, none⟩ (.int .i64 f.kind)).setCell ⟨w.heap.size, 1, none⟩ (.string ⟨f.name.toArray⟩)).setCell ⟨w.heap.size, 2, none⟩ (.int .i64 f.lit)).setCell ⟨w.heap.size, 3, none⟩ (.slice Af f.kids.length cf))) w.heap.size f Af cf 0 0) := Lib.hid ⟨(((hR3.f.set_ 0 _).set_ 1 _).set_ 2 _).set_ 3 _, (((hR3.e.far (p := ⟨w.heap.size, 0, none⟩) (by dsimp only; omega) _).far (p := ⟨w.heap.size, 1, none⟩) (by dsimp only; omega) _).far (p := ⟨w.heap.size, 2, none⟩) (by dsimp only; omega) _).far (p := ⟨w.heap.size, 3, none⟩) (by dsimp only; omega) _, (((hR3.a.far (p := ⟨w.heap.size, 0, none⟩) (by dsimp only; omega) _).far (p := ⟨w.heap.size, 1, none⟩) (by dsimp only; omega) _).far (p := ⟨w.heap.size, 2, none⟩) (by dsimp only; omega) _).far (p := ⟨w.heap.size, 3, none⟩) (by dsimp only; omega) _⟩
      have HB4 : Hid (Below w.heap.size w (((((w3.setCell ⟨w.heap.size, 0, none⟩ (.int .i64 f.kind)).setCell ⟨w.heap.size, 1, none⟩ (.string ⟨f.name.toArray⟩)).setCell ⟨w.heap.size, 2, none⟩ (.int .i64 f.lit)).setCell ⟨w.heap.size, 3, none⟩ (.slice Af f.kids.length cf)))) := Lib.hid ((((HB3.out.setCell (p := ⟨w.heap.size, 0, none⟩) (by dsimp only; omega) _).setCell (p := ⟨w.heap.size, 1, none⟩) (by dsimp only; omega) _).setCell (p := ⟨w.heap.size, 2, none⟩) (by dsimp only; omega) _).setCell (p := ⟨w.heap.size, 3, none⟩) (by dsimp only; omega) _)
      have hq : ∀ b, (w2.heap.size ≤ b ∧ b < w3.heap.size) → b ≠ w.heap.size := fun b h => by omega
      have hs4 : (((((w3.setCell ⟨w.heap.size, 0, none⟩ (.int .i64 f.kind)).setCell ⟨w.heap.size, 1, none⟩ (.string ⟨f.name.toArray⟩)).setCell ⟨w.heap.size, 2, none⟩ (.int .i64 f.lit)).setCell ⟨w.heap.size, 3, none⟩ (.slice Af f.kids.length cf))).heap.size = w3.heap.size := by simp [World.setCell]
      have HV4 : Hid (FmV (((((w3.setCell ⟨w.heap.size, 0, none⟩ (.int .i64 f.kind)).setCell ⟨w.heap.size, 1, none⟩ (.string ⟨f.name.toArray⟩)).setCell ⟨w.heap.size, 2, none⟩ (.int .i64 f.lit)).setCell ⟨w.heap.size, 3, none⟩ (.slice Af f.kids.length cf))) (((((w3.setCell ⟨w.heap.size, 0, none⟩ (.int .i64 f.kind)).setCell ⟨w.heap.size, 1, none⟩ (.string ⟨f.name.toArray⟩)).setCell ⟨w.heap.size, 2, none⟩ (.int .i64 f.lit)).setCell ⟨w.heap.size, 3, none⟩ (.slice Af f.kids.length cf))).heap.size f Af cf) := Lib.hid (((((hP.v.far hq (i := 0) (.int .i64 f.kind)).far hq (i := 1) (.string ⟨f.name.toArray⟩)).far hq (i := 2) (.int .i64 f.lit)).far hq (i := 3) (.slice Af f.kids.length cf)).v (fun b h => by rw [hs4]; exact h.2))
      have HQ4 : Hid (FmVQ (((((w3.setCell ⟨w.heap.size, 0, none⟩ (.int .i64 f.kind)).setCell ⟨w.heap.size, 1, none⟩ (.string ⟨f.name.toArray⟩)).setCell ⟨w.heap.size, 2, none⟩ (.int .i64 f.lit)).setCell ⟨w.heap.size, 3, none⟩ (.slice Af f.kids.length cf))) (fun b => w.heap.size + 1 + 1 < b ∧ b < w3.heap.size) f Af cf) := Lib.hid ((((((hP.v.far hq (i := 0) (.int .i64 f.kind)).far hq (i := 1) (.string ⟨f.name.toArray⟩)).far hq (i := 2) (.int .i64 f.lit)).far hq (i := 3) (.slice Af f.kids.length cf))).keep (fun b h => by omega) (fun _ _ => rfl))
      have hw34 : (((((w3.setCell ⟨w.heap.size, 0, none⟩ (.int .i64 f.kind)).setCell ⟨w.heap.size, 1, none⟩ (.string ⟨f.name.toArray⟩)).setCell ⟨w.heap.size, 2, none⟩ (.int .i64 f.lit)).setCell ⟨w.heap.size, 3, none⟩ (.slice Af f.kids.length cf))).heap.size = w3.heap.size := hs4
      have HF := Lib.hid (fright_any f Af cf _ HV4.out)
      unfold fmA at HF
      have u0 := HR4.out.f.cell 0
      have u1 := HR4.out.f.cell 1
      have u2 := HR4.out.f.cell 2
      have u3 := HR4.out.f.cell 3
      clear hP hr hR3 hhd htn htk hq hs4
      unfold fmA
      by_cases hk : tk.kind = 0
      · have hk0 : (tk.kind == 0) = true := by simp [hk]
        have hk1 : (tk.kind != 0) = false := by simp [hk]
        rw [if_neg (by simp [hk])] at HPO
        clear hk
        go_wp2_with fail
        clear y0 y1 y2 y3 x0 x1 x2 x3 p0 t0
        generalize (((((w3.setCell ⟨w.heap.size, 0, none⟩ (.int .i64 f.kind)).setCell ⟨w.heap.size, 1, none⟩ (.string ⟨f.name.toArray⟩)).setCell ⟨w.heap.size, 2, none⟩ (.int .i64 f.lit)).setCell ⟨w.heap.size, 3, none⟩ (.slice Af f.kids.length cf))) = w4 at HS4 HR4 HB4 HV4 HF HQ4 hw34 u0 u1 u2 u3 ⊢
        refine HF.out.mono ?_
        clear HF u0 u1 u2 u3
        rintro e w5 ⟨rfl, hb5⟩
        have hR5 := HR4.out.after hb5
        have HR5 := Lib.hid hR5
        have HVQ : Hid (FmVQ w5 (fun b => w.heap.size + 1 + 1 < b ∧ b < w5.heap.size) f Af cf) := Lib.hid (HQ4.out.low (B := w4.heap.size) (fun b h => ⟨by rw [hw34]; exact h.2, h.1, by have := hb5.size; omega⟩) hb5)
        have HB5 : Hid (Below w.heap.size w w5) := Lib.hid (HB4.out.trans (hb5.mono HB4.out.size))
        have y0 := hR5.f.cell 0
        have y1 := hR5.f.cell 1
        have y2 := hR5.f.cell 2
        have y3 := hR5.f.cell 3
        have x0 := hR5.f.frozen 0
        have x1 := hR5.f.frozen 1
        have x2 := hR5.f.frozen 2
        have x3 := hR5.f.frozen 3
        have z0 := hR5.e.cell 0
        have zf := hR5.e.frozen 0
        have v0 := hR5.a.cell 0
        have vf := hR5.a.frozen 0
        clear hR5 hb5
        cases hok : f.ok with
        | false =>
          rw [hok] at HPO
          clear hok
          go_wp2_with fail
          have hxl5 := HR5.out.f.lt
          refine leaves_cons (f := 48) (args := #[.pointer (some ⟨w.heap.size, 0, none⟩), .pointer (some ⟨w.heap.size + 1, 0, none⟩), .pointer (some ⟨w.heap.size + 1 + 1, 0, none⟩)]) (by simp) (by simp [go_sem]) ?_
          refine (catch_idle ⟨w.heap.size, 0, none⟩ ⟨w.heap.size + 1, 0, none⟩ ⟨w.heap.size + 1 + 1, 0, none⟩ _).mono ?_
          rintro e u' w9 ⟨rfl, rfl, rfl⟩
          have hR6 : Res3 ((((((w5.setCell ⟨w.heap.size, 0, none⟩ (.int .i64 0)).setCell ⟨w.heap.size, 1, none⟩ (.string ⟨#[]⟩)).setCell ⟨w.heap.size, 2, none⟩ (.int .i64 0)).setCell ⟨w.heap.size, 3, none⟩ (.slice none 0 0)).setCell ⟨w.heap.size + 1, 0, none⟩ (.int .i64 2)).setCell ⟨w.heap.size + 1 + 1, 0, none⟩ (.int .i64 0)) w.heap.size fm0 none 0 2 0 := ⟨(((((HR5.out.f.set_ 0 _).set_ 1 _).set_ 2 _).set_ 3 _).far (p := ⟨w.heap.size + 1, 0, none⟩) (by dsimp only; omega) _).far (p := ⟨w.heap.size + 1 + 1, 0, none⟩) (by dsimp only; omega) _, (((((HR5.out.e.far (p := ⟨w.heap.size, 0, none⟩) (by dsimp only; omega) _).far (p := ⟨w.heap.size, 1, none⟩) (by dsimp only; omega) _).far (p := ⟨w.heap.size, 2, none⟩) (by dsimp only; omega) _).far (p := ⟨w.heap.size, 3, none⟩) (by dsimp only; omega) _).set_ 0 _).far (p := ⟨w.heap.size + 1 + 1, 0, none⟩) (by dsimp only; omega) _, (((((HR5.out.a.far (p := ⟨w.heap.size, 0, none⟩) (by dsimp only; omega) _).far (p := ⟨w.heap.size, 1, none⟩) (by dsimp only; omega) _).far (p := ⟨w.heap.size, 2, none⟩) (by dsimp only; omega) _).far (p := ⟨w.heap.size, 3, none⟩) (by dsimp only; omega) _).far (p := ⟨w.heap.size + 1, 0, none⟩) (by dsimp only; omega) _).set_ 0 _⟩
          refine ⟨_, Res3.read (hR6.after (stepA _ _)) _ rfl rfl rfl, ?_⟩
          rw [HPO.out]
          refine ⟨none, 0, rfl, fm0_v _ _, ?_⟩
          exact ((((((HB5.out.setCell (p := ⟨w.heap.size, 0, none⟩) (by dsimp only; omega) _).setCell (p := ⟨w.heap.size, 1, none⟩) (by dsimp only; omega) _).setCell (p := ⟨w.heap.size, 2, none⟩) (by dsimp only; omega) _).setCell (p := ⟨w.heap.size, 3, none⟩) (by dsimp only; omega) _).setCell (p := ⟨w.heap.size + 1, 0, none⟩) (by dsimp only; omega) _).setCell (p := ⟨w.heap.size + 1 + 1, 0, none⟩) (by dsimp only; omega) _).alloc (by simp [World.setCell]; omega) _
        | true =>
          rw [hok] at HPO
          clear hok
          go_wp2_with fail
          have hxl5 := HR5.out.f.lt
          refine leaves_cons (f := 48) (args := #[.pointer (some ⟨w.heap.size, 0, none⟩), .pointer (some ⟨w.heap.size + 1, 0, none⟩), .pointer (some ⟨w.heap.size + 1 + 1, 0, none⟩)]) (by simp) (by simp [go_sem]) ?_
          refine (catch_idle ⟨w.heap.size, 0, none⟩ ⟨w.heap.size + 1, 0, none⟩ ⟨w.heap.size + 1 + 1, 0, none⟩ _).mono ?_
          rintro e u' w9 ⟨rfl, rfl, rfl⟩
          have hR6 : Res3 ((((((w5.setCell ⟨w.heap.size, 0, none⟩ (.int .i64 f.kind)).setCell ⟨w.heap.size, 1, none⟩ (.string ⟨f.name.toArray⟩)).setCell ⟨w.heap.size, 2, none⟩ (.int .i64 f.lit)).setCell ⟨w.heap.size, 3, none⟩ (.slice Af f.kids.length cf)).setCell ⟨w.heap.size + 1, 0, none⟩ (.int .i64 0)).setCell ⟨w.heap.size + 1 + 1, 0, none⟩ (.int .i64 0)) w.heap.size f Af cf 0 0 := ⟨(((((HR5.out.f.set_ 0 _).set_ 1 _).set_ 2 _).set_ 3 _).far (p := ⟨w.heap.size + 1, 0, none⟩) (by dsimp only; omega) _).far (p := ⟨w.heap.size + 1 + 1, 0, none⟩) (by dsimp only; omega) _, (((((HR5.out.e.far (p := ⟨w.heap.size, 0, none⟩) (by dsimp only; omega) _).far (p := ⟨w.heap.size, 1, none⟩) (by dsimp only; omega) _).far (p := ⟨w.heap.size, 2, none⟩) (by dsimp only; omega) _).far (p := ⟨w.heap.size, 3, none⟩) (by dsimp only; omega) _).set_ 0 _).far (p := ⟨w.heap.size + 1 + 1, 0, none⟩) (by dsimp only; omega) _, (((((HR5.out.a.far (p := ⟨w.heap.size, 0, none⟩) (by dsimp only; omega) _).far (p := ⟨w.heap.size, 1, none⟩) (by dsimp only; omega) _).far (p := ⟨w.heap.size, 2, none⟩) (by dsimp only; omega) _).far (p := ⟨w.heap.size, 3, none⟩) (by dsimp only; omega) _).far (p := ⟨w.heap.size + 1, 0, none⟩) (by dsimp only; omega) _).set_ 0 _⟩
          refine ⟨_, Res3.read (hR6.after (stepA _ _)) _ rfl rfl rfl, ?_⟩
          rw [HPO.out]
          refine ⟨Af, cf, rfl, ?_, ?_⟩
          · exact HVQ.out.v6
          exact ((((((HB5.out.setCell (p := ⟨w.heap.size, 0, none⟩) (by dsimp only; omega) _).setCell (p := ⟨w.heap.size, 1, none⟩) (by dsimp only; omega) _).setCell (p := ⟨w.heap.size, 2, none⟩) (by dsimp only; omega) _).setCell (p := ⟨w.heap.size, 3, none⟩) (by dsimp only; omega) _).setCell (p := ⟨w.heap.size + 1, 0, none⟩) (by dsimp only; omega) _).setCell (p := ⟨w.heap.size + 1 + 1, 0, none⟩) (by dsimp only; omega) _).alloc (by simp [World.setCell]; omega) _
      · have hk0 : (tk.kind == 0) = false := by simp [hk]
        have hk1 : (tk.kind != 0) = true := by simp [hk]
        rw [if_pos (by simp [hk])] at HPO
        clear hk
        go_wp2_with fail
        clear y0 y1 y2 y3 x0 x1 x2 x3 p0 t0 u0 u1 u2 u3 HF HV4
        generalize (((((w3.setCell ⟨w.heap.size, 0, none⟩ (.int .i64 f.kind)).setCell ⟨w.heap.size, 1, none⟩ (.string ⟨f.name.toArray⟩)).setCell ⟨w.heap.size, 2, none⟩ (.int .i64 f.lit)).setCell ⟨w.heap.size, 3, none⟩ (.slice Af f.kids.length cf))) = w4 at HS4 HR4 HB4 ⊢
        refine (fail_any HS4.out).mono ?_
        rintro e w5 ⟨rfl, rfl⟩
        refine leaves_cons (f := 48) (args := #[.pointer (some ⟨w.heap.size, 0, none⟩), .pointer (some ⟨w.heap.size + 1, 0, none⟩), .pointer (some ⟨w.heap.size + 1 + 1, 0, none⟩)]) (by simp) (by simp [go_sem]) ?_
        refine (catch_panicking w.heap.size 41 _ _ _ _ [] _ HR4.out.f rfl HR4.out.e HR4.out.a).mono ?_
        rintro e u' w9 ⟨rfl, rfl, h1, h2, h3, h4⟩
        refine ⟨_, Res3.read (f := fm0) (A := none) (c := 0) ⟨h1, h2, h3⟩ _ rfl rfl rfl, ?_⟩
        rw [HPO.out]
        exact ⟨none, 0, rfl, fm0_v _ _, HB4.out.trans h4⟩
end Go.Proofs.YtijecfmblddanaaDoor
