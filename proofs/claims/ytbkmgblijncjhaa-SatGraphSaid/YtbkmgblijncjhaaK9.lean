/- slices.Backward over a graph's gates: the iterator's contract. Layer 14 and 3: which variables stand below a literal. Clauses in memory. Layer 14, the document's: Lit, clause, Right, So, Same. Layer 14, the document's: Right, So, Same. Layers 14 and 3, the document's: which variables stand below a literal. slices.IndexFunc and slices.ContainsFunc with a closure that turns nothing. Layer 14: Right and So. Layer 14: clauses that are written one by one; put. Layer 14: what holds within cnf.Of and the document's Of. Layer 14, the document's Of. -/
import Derived.RangeFuncNested
import Derived.RangeFuncBound
import Derived.RangeFuncCalls
import Derived.RangeFuncLeaves
import Derived.Shelf.Abstract
import Derived.Shelf.RegionOpen
import Derived.OwnWalkIn
import Derived.TacticsInMore
import Derived.LoopNIn
import Derived.LoopIn
import Derived.Test.YtbkmgblijncjhaaK8
import Derived.Test.YtbkmgblijncjhaaG1
import Derived.Test.YtbkmgblijncjhaaSeqIn
import Derived.Test.YtbkmgblijncjhaaK3
import Derived.Test.YtbkmgblijncjhaaG3
import Derived.Test.YtbkmgblijncjhaaK6
import Derived.Laws.EntriesVeiled
set_option linter.unusedVariables false
set_option linter.unusedSimpArgs false
namespace Go.Proofs.Ytbkmgblijncjhaa
open Go.RowKit Go.Maps Go.Shelf
attribute [local go_sem] Oper.semAt_some

/-- Certain blocks are as they were. -/
def KeepQ (q : Nat → Prop) (A B : World) : Prop := ∀ i, q i → B.heap[i]? = A.heap[i]?
theorem KeepQ.refl (q : Nat → Prop) (A : World) : KeepQ q A A := fun _ _ => rfl
theorem KeepQ.trans {q : Nat → Prop} {A B C : World} (h : KeepQ q A B) (k : KeepQ q B C) : KeepQ q A C := fun i hi => (k i hi).trans (h i hi)
theorem KeepQ.cell {q : Nat → Prop} {A B : World} (h : KeepQ q A B) {b o : Nat} (hb : q b) : B.cell? ⟨b, o, none⟩ = A.cell? ⟨b, o, none⟩ := World.cell?_of_block (w := A) (h b hb)
theorem keepQ_b {q : Nat → Prop} {w : World} (hq : ∀ i, q i → i < w.heap.size) (W : World) (l : Nat) (o o' : Obj) (hl : w.heap.size ≤ l) (_h : W.heap[l]? = some o) (_ : o.isCells = false) (_ : o.isWalk = false) : KeepQ q W (W.putObj l o') :=
  fun i hi => World.putObj_heap_other (by have := hq i hi; omega)

end Go.Proofs.Ytbkmgblijncjhaa

set_option linter.unusedVariables false
set_option linter.unusedSimpArgs false
namespace Go.Proofs.Ytbkmgblijncjhaa
open Go.RowKit Go.Maps Go.Shelf
attribute [local go_sem] Oper.semAt_some

/-- A row of truth values, all false. -/
theorem make_falses (C : Int) (h1 : 0 ≤ C) (h2 : C ≤ 4001) : ∃ (V : Nat) (cs : Array Value), (V : Int) = C ∧ cs = (bools (List.replicate V false)).toArray ∧
    ∀ w : World, (Instr.makeSlice 27 (.int .i64 C) (.int .i64 C)).run Try.prog w = .ok (.slice (some ⟨w.heap.size, 0, none⟩) V V) (w.alloc (.cells cs 4)) := by
  refine ⟨C.toNat, _, by omega, rfl, fun w => ?_⟩
  obtain ⟨i, hi, hz, hs, hb⟩ := info_parts boolInfo
  have hr := run_make (P := Try.prog) w 27 4 i (.bool false) Try.underlying27 hi hz .i64 .i64 C C h1 (Int.le_refl _) (by rw [hb]; omega) (by omega)
  rw [hs, Nat.mul_one] at hr
  have e : madeCells (Value.bool false).cells C.toNat = (bools (List.replicate C.toNat false)).toArray := by
    apply Array.ext'
    apply List.ext_getElem?
    intro i
    simp [madeCells, bools, Value.cells, List.getElem?_replicate, List.getElem?_range]
    split <;> simp_all [Nat.mod_one]
  rw [e] at hr
  exact hr

theorem bools_set (m : List Bool) (i : Nat) : ((bools m).toArray).setIfInBounds i (.bool true) = (bools (m.set i true)).toArray := by
  simp [bools, List.map_set]

/-- A block of cells speaks of cells alone. -/
theorem blk_own {β : Type} (B : Nat) (t : TypeId) (f : β → Array Value) : Own (fun s W => Blk W B t (f s)) := fun s X Y row hs hg hrow => by
  refine Blk.grown (w := X) (w' := Y) hs hg fun e' => ?_
  obtain ⟨o, ho, hc⟩ := hrow B e'.symm
  rw [show X.heap[B]? = _ from hs] at ho
  cases ho
  cases hc
theorem KeepQ.alloc {q : Nat → Prop} {W : World} (hq : ∀ i, q i → i < W.heap.size) (o : Obj) : KeepQ q W (W.alloc o) := fun i hi => Below.heap_alloc W o i (hq i hi)
theorem KeepQ.setCell {q : Nat → Prop} {W : World} {p : Addr} (hq : ¬ q p.block) (u : Value) : KeepQ q W (W.setCell p u) := fun i hi => Below.heap_setCell W p u i (fun e => hq (e ▸ hi))
theorem KeepQ.drew {q : Nat → Prop} {A B : World} (h : KeepQ q A B) : KeepQ q A B.drew := h

end Go.Proofs.Ytbkmgblijncjhaa



set_option linter.unusedVariables false
set_option linter.unusedSimpArgs false
namespace Go.Proofs.Ytbkmgblijncjhaa
open Go.RowKit Go.Maps

theorem rlitc_any (l : Int) (w : World) (h0 : 0 ≤ l) (h2 : l ≤ 9223372036854775807) :
    Calls Try.prog 19 #[.int .i64 l] w (fun e w' => e = .returned (.int .i64 (litC l)) ∧ w' = w) := by
  have hd : 0 ≤ l / 2 := by omega
  by_cases hm : l % 2 = 1
  · have hm' : (l % 2 == 1) = true := by simpa using hm
    have HE : Hid (litC l = -(l / 2 + 1)) := if_pos hm
    clear hm
    go_enter Try.func19, Try.ntmps19
    go_wp2_with fail
    go_ret
    exact ⟨by rw [HE.out]; rfl, rfl⟩
  · have hm' : (l % 2 == 1) = false := by simpa using hm
    have HE : Hid (litC l = l / 2 + 1) := if_neg hm
    clear hm
    go_enter Try.func19, Try.ntmps19
    go_wp2_with fail
    go_ret
    exact ⟨by rw [HE.out]; rfl, rfl⟩

end Go.Proofs.Ytbkmgblijncjhaa

set_option linter.unusedVariables false
set_option linter.unusedSimpArgs false
namespace Go.Proofs.Ytbkmgblijncjhaa
open Go.RowKit Go.Maps

end Go.Proofs.Ytbkmgblijncjhaa

set_option linter.unusedVariables false
set_option linter.unusedSimpArgs false
namespace Go.Proofs.Ytbkmgblijncjhaa
open Go.RowKit Go.Maps

/-- A list of truth values is handed back, in a block of its own. -/
def RetK (w : World) (v : List Bool) (e : Ending) (w' : World) : Prop :=
  ∃ b, e = .returned (.slice (some ⟨b, 0, none⟩) v.length v.length) ∧ Blk w' b 4 (bools v).toArray ∧ Below w.heap.size w w'

set_option maxRecDepth 100000 in
set_option maxHeartbeats 2000000 in
theorem under_any (g : Gr) (l : Int) (A : Option Addr) (c : Nat) (w : World) (hr : rightB g = true) (hl : litB g l = true) (hp : Prs w w.heap.size A g.as) :
    Calls Try.prog 35 #[.agg #[.int .i64 g.n, .slice A g.as.length c], .int .i64 l] w (RetK w (belowG g l)) := by
  obtain ⟨g0, g1, g2, g3⟩ := (size_iff g).1 (right_size hr)
  obtain ⟨_, _, l0, l1⟩ := (litB_iff g l).1 hl
  obtain ⟨V, cs0, hV, hcs, hmk⟩ := make_falses (g.n + 1 + (g.as.length : Int)) (by omega) (by omega)
  have hl2 : 0 ≤ l / 2 := by omega
  have hln : l / 2 < (V : Int) := by omega
  have hc0 : cs0[(l / 2).toNat]? = some (.bool false) := by
    rw [hcs, List.getElem?_toArray]
    unfold bools
    rw [List.getElem?_map, List.getElem?_replicate, if_pos (by omega)]
    rfl
  have HCS := Lib.hid hcs
  have HVV : Hid (g.vars.toNat = V) := by show g.vars.toNat = V; unfold Gr.vars; omega
  have HV := Lib.hid hV
  have HB0 := Lib.hid (Boxed.begin_ (w := w) (g := g) (A := A) (c := c))
  have HP := Lib.hid hp
  have HR := Lib.hid hr
  clear hcs hp hV hr hl
  go_enter Try.func35, Try.ntmps35
  go_wp2_with fail
  refine (rvars_any _ _ _ _ _ g0 (by omega) (by omega)).mono ?_
  rintro e w1 ⟨rfl, hb1⟩
  have H1 := Lib.hid (HB0.out.step hb1)
  have hs1 := H1.out.size
  clear hb1
  have c1 := H1.out.c1
  have hset : cs0.setIfInBounds (l / 2).toNat (.bool true) = (bools (mark0 g l)).toArray := by
    rw [HCS.out, bools_set]
    unfold mark0
    rw [HVV.out]
  have f0 : (w1.alloc (.cells cs0 4)).frozen? ⟨w1.heap.size, (l / 2).toNat, none⟩ = false := (Blk.new w1 4 cs0).frozen _
  obtain ⟨cs1, hcs1⟩ : ∃ cs1, cs0.setIfInBounds (l / 2).toNat (.bool true) = cs1 := ⟨_, rfl⟩
  rw [hcs1] at hset
  have HB3 := Lib.hid (Blk.new w1 4 cs1)
  have HX2 := Lib.hid (H1.out.alloc (.cells cs1 4))
  have c2 : (w1.alloc (.cells cs1 4)).cell? ⟨w.heap.size, 1, none⟩ = some (.slice A g.as.length c) := HX2.out.c1
  rw [hset] at HB3
  have HST := Lib.hid hset
  clear hset
  go_wp2_with fail
  obtain ⟨W0, hW0⟩ : ∃ W0, w1.alloc (.cells cs1 4) = W0 := ⟨_, rfl⟩
  rw [← HST.out, hW0] at HB3
  rw [HST.out] at HB3
  rw [hW0] at HX2 ⊢
  clear hW0 c2 c1 hmk hc0 f0 hcs1
  go_loopw [6] (fun s wr => ∃ k : Nat, k ≤ g.as.length ∧ s = .int .i64 ((g.as.length : Int) - 1 - k) ∧ BlkF wr w1.heap.size 4 (bools (marksAt g (mark0 g l) k)).toArray ∧ Boxed w wr g A c) (fun s _ => (intOf s + 1).toNat)
  case atStart => exact ⟨0, Nat.zero_le _, by simp, ⟨HB3.out⟩, HX2.out⟩
  case round =>
    obtain ⟨k, hk, rfl, hbk, hbx⟩ := hrel
    have HK := Lib.hid hbk
    have HX := Lib.hid hbx
    have c0 := hbx.c0
    have c1 := hbx.c1
    have hml : (marksAt g (mark0 g l) k).length = V := by rw [marksAt_length, mark0_length, HVV.out]
    have hVV := HV.out
    clear hbk hbx
    by_cases hlt : k < g.as.length
    · obtain ⟨j, hj⟩ : ∃ j, g.as.length - 1 - k = j := ⟨_, rfl⟩
      have hjl : j < g.as.length := by omega
      obtain ⟨⟨p1, p2⟩, hpk⟩ : ∃ p, g.as[j]? = some p := ⟨_, List.getElem?_eq_getElem hjl⟩
      have hji : (g.as.length : Int) - 1 - k = (j : Int) := by omega
      rw [hji]
      obtain ⟨b', o', rfl, hbw, q1, q2⟩ := (HP.out.below HX.out.low) j _ hpk
      obtain ⟨_, hall, _⟩ := (right_iff g).1 HR.out
      obtain ⟨m1, m2, m3⟩ := (of_decide_eq_true (hall _ _ hpk) : 2 ≤ p2 ∧ p2 / 2 < p1 / 2 ∧ p1 / 2 < g.n + 1 + (j : Nat))
      have HSN : Hid (marksAt g (mark0 g l) (k + 1) = mark g.n (marksAt g (mark0 g l) k) j (p1, p2)) := marksAt_succ hj hpk
      have i1 : 0 ≤ g.n + 1 + ((j : Nat) : Int) := by omega
      have i2 : g.n + 1 + ((j : Nat) : Int) < (V : Int) := by omega
      obtain ⟨bit, hbit⟩ : ∃ y, (marksAt g (mark0 g l) k)[(g.n + 1 + ((j : Nat) : Int)).toNat]? = some y := ⟨_, List.getElem?_eq_getElem (by rw [hml]; omega)⟩
      obtain ⟨y1, hy1⟩ : ∃ y, (marksAt g (mark0 g l) k)[(p1 / 2).toNat]? = some y := ⟨_, List.getElem?_eq_getElem (by rw [hml]; omega)⟩
      have hy2l : (p2 / 2).toNat < (marksAt g (mark0 g l) k).length := by rw [hml]; omega
      have hl1 : p1 / 2 < (V : Int) := by omega
      have hl2' : p2 / 2 < (V : Int) := by omega
      have cmk : wr.cell? ⟨w1.heap.size, (g.n + 1 + ((j : Nat) : Int)).toNat, none⟩ = some (.bool bit) := by
        rw [HK.out.cell, List.getElem?_toArray]
        exact bools_get hbit
      have hjlt : (j : Int) < (g.as.length : Int) := by omega
      have HJ := Lib.hid hji
      clear hpk hall hVV hj hji
      generalize marksAt g (mark0 g l) k = m at hml hbit hy1 hy2l HK HSN
      cases bit
      · rw [mark_no hbit] at HSN
        clear hbit hy1
        go_wp2_with fail
        go_roundw
        case rel => exact ⟨k + 1, by omega, by have := HJ.out; first | go_num | (simp; omega) | (congr 1; omega), by rw [HSN.out]; exact HK.out, HX.out⟩
        case measure => simp [intOf] <;> omega
      · rw [mark_yes hbit] at HSN
        have hw1 : IntKind.i64.wrap (Int.tdiv p1 2) = p1 / 2 := by
          rw [Int.tdiv_eq_ediv_of_nonneg (by omega)]
          exact IntWalk.i64_in _ (by omega)
        have hw2 : IntKind.i64.wrap (Int.tdiv p2 2) = p2 / 2 := by
          rw [Int.tdiv_eq_ediv_of_nonneg (by omega)]
          exact IntWalk.i64_in _ (by omega)
        have j1 : 0 ≤ p1 / 2 := by omega
        have j3 : 0 ≤ p2 / 2 := by omega
        have e1 : wr.cell? ⟨w1.heap.size, (p1 / 2).toNat, none⟩ = some (.bool y1) := by
          rw [HK.out.cell, List.getElem?_toArray]
          exact bools_get hy1
        have f1 : wr.frozen? ⟨w1.heap.size, (p1 / 2).toNat, none⟩ = false := HK.out.p.frozen _
        have b2' := HK.out.p.set_ (p1 / 2).toNat (.bool true)
        rw [bools_set] at b2'
        have b2'' := b2'.set_ (p2 / 2).toNat (.bool true)
        rw [bools_set] at b2''
        have HB2 := Lib.hid b2''
        have f2 : (wr.setCell ⟨w1.heap.size, (p1 / 2).toNat, none⟩ (.bool true)).frozen? ⟨w1.heap.size, (p2 / 2).toNat, none⟩ = false := b2'.frozen _
        obtain ⟨y2, hy2⟩ : ∃ y, (m.set (p1 / 2).toNat true)[(p2 / 2).toNat]? = some y := ⟨_, List.getElem?_eq_getElem (by rw [List.length_set]; exact hy2l)⟩
        have e2 : (wr.setCell ⟨w1.heap.size, (p1 / 2).toNat, none⟩ (.bool true)).cell? ⟨w1.heap.size, (p2 / 2).toNat, none⟩ = some (.bool y2) := by
          rw [b2'.cell, List.getElem?_toArray]
          exact bools_get hy2
        have HSS : Hid (∀ p : Addr, p.block = w1.heap.size → ∀ (W' : World) (u : Value), (W'.cell? ⟨w.heap.size, 1, none⟩ = some (.slice (some ⟨b', o', none⟩) g.as.length c) ∧ W'.cell? ⟨b', o' + j * 2, none⟩ = some (.int .i64 p1) ∧ W'.cell? ⟨b', o' + j * 2 + 1, none⟩ = some (.int .i64 p2)) →
            ((W'.setCell p u).cell? ⟨w.heap.size, 1, none⟩ = some (.slice (some ⟨b', o', none⟩) g.as.length c) ∧ (W'.setCell p u).cell? ⟨b', o' + j * 2, none⟩ = some (.int .i64 p1) ∧ (W'.setCell p u).cell? ⟨b', o' + j * 2 + 1, none⟩ = some (.int .i64 p2))) := fun p hp W' u h => by
          refine ⟨?_, ?_, ?_⟩
          · rw [World.cell?_setCell_far _ _ _ _ (by rw [hp]; simp; omega)]; exact h.1
          · rw [World.cell?_setCell_far _ _ _ _ (by rw [hp]; simp; omega)]; exact h.2.1
          · rw [World.cell?_setCell_far _ _ _ _ (by rw [hp]; simp; omega)]; exact h.2.2
        clear b2' b2'' hy2 hy1 hbit
        go_wp2_with fail
        refine wp_region_noPanic ?_
        refine wp_region_seq (fun W => W.cell? ⟨w.heap.size, 1, none⟩ = some (.slice (some ⟨b', o', none⟩) g.as.length c) ∧ W.cell? ⟨b', o' + j * 2, none⟩ = some (.int .i64 p1) ∧ W.cell? ⟨b', o' + j * 2 + 1, none⟩ = some (.int .i64 p2)) [0, 1, 2, 3, 4, 5, 6, 7, 8, 9, 10, 11, 12, 13, 14, 15, 16, 17, 18, 19] [0, 1, 2, 3, 4, 5, 6, 7, 8, 9, 10, 11, 12, 13, 14, 15, 16, 18] [] (by kernel_rfl) (by kernel_rfl) rfl (by kernel_rfl) (by kernel_rfl) (fun _ _ _ _ _ h => h) ?_ (fun hSS => ?_)
        · exact ⟨c1, q1, q2⟩
        (refine wpSeq_mov rfl rfl ?_; intro o ho; simp only [List.getElem?_toArray, List.getElem?_cons_zero, List.getElem?_cons_succ, Option.some.injEq] at ho; subst ho; refine ⟨?_, Or.inl ⟨by rfl, fun W hSW => ?_⟩, ?_⟩; rotate_left; (focus (go_simp; first | done | with_reducible rfl)); try simp only [Act.put, List.setIfInBounds_toArray, List.set_cons_zero, List.set_cons_succ])
        (refine wpSeq_mov rfl rfl ?_; intro o ho; simp only [List.getElem?_toArray, List.getElem?_cons_zero, List.getElem?_cons_succ, Option.some.injEq] at ho; subst ho; refine ⟨?_, Or.inl ⟨by rfl, fun W hSW => ?_⟩, ?_⟩; rotate_left; (focus (go_simp; first | done | with_reducible rfl)); try simp only [Act.put, List.setIfInBounds_toArray, List.set_cons_zero, List.set_cons_succ])
        (refine wpSeq_mov rfl rfl ?_; intro o ho; simp only [List.getElem?_toArray, List.getElem?_cons_zero, List.getElem?_cons_succ, Option.some.injEq] at ho; subst ho; refine ⟨?_, Or.inl ⟨by rfl, fun W hSW => ?_⟩, ?_⟩; rotate_left; (focus (go_simp; first | done | with_reducible rfl)); try simp only [Act.put, List.setIfInBounds_toArray, List.set_cons_zero, List.set_cons_succ])
        (refine wpSeq_mov rfl rfl ?_; intro o ho; simp only [List.getElem?_toArray, List.getElem?_cons_zero, List.getElem?_cons_succ, Option.some.injEq] at ho; subst ho; refine ⟨?_, Or.inl ⟨by rfl, fun W hSW => ?_⟩, ?_⟩; rotate_left; (focus (go_simp; first | done | with_reducible rfl)); try simp only [Act.put, List.setIfInBounds_toArray, List.set_cons_zero, List.set_cons_succ])
        (refine wpSeq_mov rfl rfl ?_; intro o ho; simp only [List.getElem?_toArray, List.getElem?_cons_zero, List.getElem?_cons_succ, Option.some.injEq] at ho; subst ho; refine ⟨?_, Or.inl ⟨by rfl, fun W hSW => ?_⟩, ?_⟩; rotate_left; (focus (go_simp; first | done | with_reducible rfl)); try simp only [Act.put, List.setIfInBounds_toArray, List.set_cons_zero, List.set_cons_succ])
        (refine wpSeq_mov rfl rfl ?_; intro o ho; simp only [List.getElem?_toArray, List.getElem?_cons_zero, List.getElem?_cons_succ, Option.some.injEq] at ho; subst ho; refine ⟨?_, Or.inl ⟨by rfl, fun W hSW => ?_⟩, ?_⟩; rotate_left; (focus (go_simp; first | done | with_reducible rfl)); try simp only [Act.put, List.setIfInBounds_toArray, List.set_cons_zero, List.set_cons_succ])
        (refine wpSeq_mov rfl rfl ?_; intro o ho; simp only [List.getElem?_toArray, List.getElem?_cons_zero, List.getElem?_cons_succ, Option.some.injEq] at ho; subst ho; refine ⟨?_, Or.inl ⟨by rfl, fun W hSW => ?_⟩, ?_⟩; rotate_left; (focus (go_simp; first | done | with_reducible rfl)); try simp only [Act.put, List.setIfInBounds_toArray, List.set_cons_zero, List.set_cons_succ])
        (refine wpSeq_mov rfl rfl ?_; intro o ho; simp only [List.getElem?_toArray, List.getElem?_cons_zero, List.getElem?_cons_succ, Option.some.injEq] at ho; subst ho; refine ⟨?_, Or.inl ⟨by rfl, fun W hSW => ?_⟩, ?_⟩; rotate_left; (focus (go_simp; first | done | with_reducible rfl)); try simp only [Act.put, List.setIfInBounds_toArray, List.set_cons_zero, List.set_cons_succ])
        (refine wpSeq_mov rfl rfl ?_; intro o ho; simp only [List.getElem?_toArray, List.getElem?_cons_zero, List.getElem?_cons_succ, Option.some.injEq] at ho; subst ho; refine ⟨?_, Or.inl ⟨by rfl, fun W hSW => ?_⟩, ?_⟩; rotate_left; (focus (go_simp; first | done | with_reducible rfl)); try simp only [Act.put, List.setIfInBounds_toArray, List.set_cons_zero, List.set_cons_succ])
        (refine wpSeq_mov rfl rfl ?_; intro o ho; simp only [List.getElem?_toArray, List.getElem?_cons_zero, List.getElem?_cons_succ, Option.some.injEq] at ho; subst ho; refine ⟨?_, Or.inl ⟨by rfl, fun W hSW => ?_⟩, ?_⟩; rotate_left; (focus (go_simp; first | done | with_reducible rfl)); try simp only [Act.put, List.setIfInBounds_toArray, List.set_cons_zero, List.set_cons_succ])
        (refine wpSeq_mov rfl rfl ?_; intro o ho; simp only [List.getElem?_toArray, List.getElem?_cons_zero, List.getElem?_cons_succ, Option.some.injEq] at ho; subst ho; refine ⟨?_, Or.inl ⟨by rfl, fun W hSW => ?_⟩, ?_⟩; rotate_left; (focus (go_simp; first | done | with_reducible rfl)); try simp only [Act.put, List.setIfInBounds_toArray, List.set_cons_zero, List.set_cons_succ])
        (refine wpSeq_mov rfl rfl ?_; intro o ho; simp only [List.getElem?_toArray, List.getElem?_cons_zero, List.getElem?_cons_succ, Option.some.injEq] at ho; subst ho; refine ⟨?_, Or.inl ⟨by rfl, fun W hSW => ?_⟩, ?_⟩; rotate_left; (focus (go_simp; first | done | with_reducible rfl)); try simp only [Act.put, List.setIfInBounds_toArray, List.set_cons_zero, List.set_cons_succ])
        (refine wpSeq_mov rfl rfl ?_; intro o ho; simp only [List.getElem?_toArray, List.getElem?_cons_zero, List.getElem?_cons_succ, Option.some.injEq] at ho; subst ho; refine ⟨?_, Or.inl ⟨by rfl, fun W hSW => ?_⟩, ?_⟩; rotate_left; (focus (go_simp; first | done | with_reducible rfl)); try simp only [Act.put, List.setIfInBounds_toArray, List.set_cons_zero, List.set_cons_succ])
        (refine wpSeq_mov rfl rfl ?_; intro o ho; simp only [List.getElem?_toArray, List.getElem?_cons_zero, List.getElem?_cons_succ, Option.some.injEq] at ho; subst ho; refine ⟨?_, Or.inl ⟨by rfl, fun W hSW => ?_⟩, ?_⟩; rotate_left; (focus (go_simp; first | done | with_reducible rfl)); try simp only [Act.put, List.setIfInBounds_toArray, List.set_cons_zero, List.set_cons_succ])
        (refine wpSeq_mov rfl rfl ?_; intro o ho; simp only [List.getElem?_toArray, List.getElem?_cons_zero, List.getElem?_cons_succ, Option.some.injEq] at ho; subst ho; refine ⟨?_, Or.inl ⟨by rfl, fun W hSW => ?_⟩, ?_⟩; rotate_left; (focus (go_simp; first | done | with_reducible rfl)); try simp only [Act.put, List.setIfInBounds_toArray, List.set_cons_zero, List.set_cons_succ])
        (refine wpSeq_mov rfl rfl ?_; intro o ho; simp only [List.getElem?_toArray, List.getElem?_cons_zero, List.getElem?_cons_succ, Option.some.injEq] at ho; subst ho; refine ⟨?_, Or.inl ⟨by rfl, fun W hSW => ?_⟩, ?_⟩; rotate_left; (focus (go_simp; first | done | with_reducible rfl)); try simp only [Act.put, List.setIfInBounds_toArray, List.set_cons_zero, List.set_cons_succ])
        (refine wpSeq_mov rfl rfl ?_; intro o ho; simp only [List.getElem?_toArray, List.getElem?_cons_zero, List.getElem?_cons_succ, Option.some.injEq] at ho; subst ho; refine ⟨?_, Or.inl ⟨by rfl, fun W hSW => ?_⟩, ?_⟩; rotate_left; (focus (go_simp; first | done | with_reducible rfl)); try simp only [Act.put, List.setIfInBounds_toArray, List.set_cons_zero, List.set_cons_succ])
        (refine wpSeq_fix rfl rfl ?_; intro o ho; simp only [List.getElem?_toArray, List.getElem?_cons_zero, List.getElem?_cons_succ, Option.some.injEq] at ho; subst ho; intro K hK)
        go_simp
        (refine hK.out _ _ (fun _ => HSS.out _ rfl _ _ hSS) ?_; clear hK K; try simp only [Act.put, List.setIfInBounds_toArray, List.set_cons_zero, List.set_cons_succ])
        (refine wpSeq_mov rfl rfl ?_; intro o ho; simp only [List.getElem?_toArray, List.getElem?_cons_zero, List.getElem?_cons_succ, Option.some.injEq] at ho; subst ho; refine ⟨?_, Or.inl ⟨by rfl, fun W hSW => ?_⟩, ?_⟩; rotate_left; (focus (go_simp; first | done | with_reducible rfl)); try simp only [Act.put, List.setIfInBounds_toArray, List.set_cons_zero, List.set_cons_succ])
        (refine wpSeq_fix rfl rfl ?_; intro o ho; simp only [List.getElem?_toArray, List.getElem?_cons_zero, List.getElem?_cons_succ, Option.some.injEq] at ho; subst ho; intro K hK)
        go_simp
        (refine hK.out _ _ (fun _ => HSS.out _ rfl _ _ (HSS.out _ rfl _ _ hSS)) ?_; clear hK K; try simp only [Act.put, List.setIfInBounds_toArray, List.set_cons_zero, List.set_cons_succ])
        refine wpSeq_done ?_
        go_wp2_with fail
        go_roundw
        case rel => exact ⟨k + 1, by omega, by have := HJ.out; first | go_num | (simp; omega) | (congr 1; omega), ⟨by rw [HSN.out]; exact HB2.out⟩, ⟨(((HX.out.below.setCell (p := ⟨w1.heap.size, (p1 / 2).toNat, none⟩) (by simp; omega) _).setCell (p := ⟨w1.heap.size, (p2 / 2).toNat, none⟩) (by simp; omega) _)).drew⟩⟩
        case measure => simp [intOf] <;> omega
    · obtain rfl : k = g.as.length := by omega
      have hge : ¬ (0 ≤ (g.as.length : Int) - 1 - (g.as.length : Int)) := by omega
      go_wp2_with fail
      go_ret
      have hbl : (belowG g l).length = V := by rw [belowG_length, HVV.out]
      refine ⟨w1.heap.size, ?_, HK.out.p, HX.out.low⟩
      rw [hbl]
      rfl
end Go.Proofs.Ytbkmgblijncjhaa



set_option linter.unusedVariables false
set_option linter.unusedSimpArgs false
namespace Go.Proofs.Ytbkmgblijncjhaa
open Go.RowKit Go.Maps

end Go.Proofs.Ytbkmgblijncjhaa

set_option linter.unusedVariables false
set_option linter.unusedSimpArgs false
namespace Go.Proofs.Ytbkmgblijncjhaa
open Go.RowKit Go.Maps

/-- A row of clauses of the call's own. -/
structure CB (w : World) (base : Nat) (A : Option Addr) (c : Nat) (zs : Zs) : Prop where
  own : w.ownsRow base 25 1 (.slice A zs.length c) zs.length (zs.map slot)
  inner : ∀ z ∈ zs, Blk w z.1 3 (i64s z.2).toArray

section
variable {w w' : World} {base : Nat} {A : Option Addr} {c : Nat} {zs : Zs}
theorem CB.nil (w : World) (base : Nat) : CB w base none 0 [] := ⟨⟨by simp, .inl ⟨rfl, rfl⟩⟩, fun z hz => by cases hz⟩
theorem CB.below (h : CB w base A c zs) (hb : Below w.heap.size w w') : CB w' base A c zs := ⟨own_below h.own hb, fun z hz => (h.inner z hz).below hb (h.inner z hz).lt⟩
theorem CB.alloc (h : CB w base A c zs) (o : Obj) : CB (w.alloc o) base A c zs := h.below (stepA w o)
theorem CB.drew (h : CB w base A c zs) : CB w.drew base A c zs := h.below (stepD1 w)
theorem slot_one (zs : Zs) : ∀ u ∈ zs.map slot, u.oneCell' = true := by
  intro u hu
  obtain ⟨z, _, rfl⟩ := List.mem_map.1 hu
  rfl
/-- The row grows by clauses that lie there already. -/
theorem CB.grow (h : CB w base A c zs) {A' : Option Addr} {c' : Nat} {ys : Zs} (hg : w.grownBy w' (Value.slice A zs.length c).ownBlock)
    (ho : w'.ownsRow base 25 1 (.slice A' (zs ++ ys).length c') (zs ++ ys).length ((zs ++ ys).map slot)) (hy : ∀ y ∈ ys, Blk w y.1 3 (i64s y.2).toArray) : CB w' base A' c' (zs ++ ys) := by
  refine ⟨ho, fun z hz => ?_⟩
  have hb : Blk w z.1 3 (i64s z.2).toArray := by
    rcases List.mem_append.1 hz with h1 | h1
    · exact h.inner z h1
    · exact hy z h1
  exact hb.by_ hg (own_ne h.own hb (by decide))
theorem CB.set (h : CB w base A c zs) {b : Nat} {t : TypeId} {cs : Array Value} (hb : Blk w b t cs) (h1 : 25 ≠ t) (h2 : 3 ≠ t) (i : Nat) (u : Value) : CB (w.setCell ⟨b, i, none⟩ u) base A c zs :=
  ⟨own_set h.own hb h1 i u, fun z hz => (h.inner z hz).far (p := ⟨b, i, none⟩) (by
    have hz' := h.inner z hz
    intro e
    unfold Blk at hz' hb
    simp only at e
    rw [← e, hz'] at hb
    injection hb with hb
    injection hb with _ hb
    exact h2 hb) u⟩
theorem CB.cls (h : CB w base A c zs) : Cls w w.heap.size A (zs.map (·.2)) := fun i x hi => by
  rw [List.getElem?_map] at hi
  obtain ⟨z, hz, rfl⟩ := Option.map_eq_some_iff.1 hi
  have hv := Vals.of_own h.own
  obtain ⟨b, o, e, hb, hc⟩ := hv i (slot z) (by rw [List.getElem?_map, hz]; rfl)
  exact ⟨b, o, _, _, e, hb, hc, Nat.le_refl _, vals_of_blk (h.inner z (List.mem_of_getElem? hz))⟩
theorem CB.cap (h : CB w base A c zs) : zs.length ≤ c := own_cap h.own
end

theorem rowInfo : (Try.prog.info? 25).map (fun i => (i.zero, i.size, i.bytes)) = some (some (.slice none 0 0), 1, 24) := by kernel_rfl

end Go.Proofs.Ytbkmgblijncjhaa

set_option linter.unusedVariables false
set_option linter.unusedSimpArgs false
namespace Go.Proofs.Ytbkmgblijncjhaa
open Go.RowKit Go.Maps

/-- Clauses and an error are handed back. -/
def RetC (w : World) (r : Int × List (List Int) × Int) (e : Ending) (w' : World) : Prop :=
  ∃ A c, e = .returned (.tuple #[.agg #[.int .i64 r.1, .slice A r.2.1.length c], .int .i64 r.2.2]) ∧ r.2.1.length ≤ c ∧ Cls w' w'.heap.size A r.2.1 ∧ Below w.heap.size w w'

abbrev ofW (w : World) (g : Gr) (A : Option Addr) (c : Nat) : World :=
  (w.alloc (.cells #[.int .i64 g.n, .slice A g.as.length c] 41)).alloc (.cells #[.int .i64 0, .slice none 0 0] 24)

/-- The graph's box and the result's cell stand, and all that was there before. -/
structure OfSt (w wr : World) (g : Gr) (A : Option Addr) (c : Nat) : Prop where
  below : Below (w.heap.size + 2) (ofW w g A c) wr

section
variable {w wr wr' : World} {g : Gr} {A : Option Addr} {c : Nat}
theorem ofW_size : (ofW w g A c).heap.size = w.heap.size + 2 := by simp [ofW]
theorem OfSt.begin_ : OfSt w (ofW w g A c) g A c := ⟨Below.refl _ _⟩
theorem OfSt.size (h : OfSt w wr g A c) : w.heap.size + 2 ≤ wr.heap.size := by have := h.below.size; rw [ofW_size] at this; exact this
theorem OfSt.gb (h : OfSt w wr g A c) : Blk wr w.heap.size 41 #[.int .i64 g.n, .slice A g.as.length c] := ((Blk.new w _ _).alloc _).below h.below (by omega)
theorem OfSt.rb (h : OfSt w wr g A c) : Blk wr (w.heap.size + 1) 24 #[.int .i64 0, .slice none 0 0] := by
  have := Blk.new (w.alloc (.cells #[.int .i64 g.n, .slice A g.as.length c] 41)) 24 #[.int .i64 0, .slice none 0 0]
  rw [World.size_alloc] at this
  exact this.below h.below (by omega)
theorem OfSt.low (h : OfSt w wr g A c) : Below w.heap.size w wr := (((Below.refl _ _).alloc (Nat.le_refl _) _).alloc (by simp) _).trans (h.below.mono (by omega))
theorem OfSt.step (h : OfSt w wr g A c) {B : Nat} (hB : w.heap.size + 2 ≤ B) (hb : Below B wr wr') : OfSt w wr' g A c := ⟨h.below.trans (hb.mono hB)⟩
theorem OfSt.after (h : OfSt w wr g A c) (hb : Below wr.heap.size wr wr') : OfSt w wr' g A c := h.step h.size hb
theorem OfSt.prs (h : OfSt w wr g A c) (hp : Prs w w.heap.size A g.as) : Prs wr wr.heap.size A g.as := hp.after h.low
end

theorem litC_even (v : Int) : litC (2 * v) = v + 1 := by
  unfold litC
  rw [if_neg (by omega)]
  omega
theorem litC_bound {l : Int} (h0 : 0 ≤ l) (h1 : l ≤ 4001) : -2001 ≤ litC l ∧ litC l ≤ 2001 := by
  unfold litC
  split <;> omega
end Go.Proofs.Ytbkmgblijncjhaa

set_option linter.unusedVariables false
set_option linter.unusedSimpArgs false
namespace Go.Proofs.Ytbkmgblijncjhaa
open Go.RowKit Go.Maps

set_option maxRecDepth 100000 in
set_option maxHeartbeats 4000000 in
theorem rcof_any (g : Gr) (l : Int) (A : Option Addr) (c : Nat) (w : World) (hg : GOk g) (hl : l ≤ 9223372036854775807) (hp : Prs w w.heap.size A g.as) :
    Calls Try.prog 16 #[.agg #[.int .i64 g.n, .slice A g.as.length c], .int .i64 l] w (RetC w (cnfG g l)) := by
  have hnot := @not_run Try.prog
  have hgl : g.as.length ≤ 8796093022208 := hg.2.1
  have HP := Lib.hid hp
  have HG := Lib.hid hg
  have H0 := Lib.hid (OfSt.begin_ (w := w) (g := g) (A := A) (c := c))
  clear hp hg
  go_enter Try.func16, Try.ntmps16
  go_wp2_with fail
  refine (rright_any g A c _ HG.out (H0.out.prs HP.out)).mono ?_
  rintro e w1 ⟨rfl, hb1⟩
  have H1 := Lib.hid (H0.out.after hb1)
  clear hb1 H0
  have c0 := H1.out.gb.cell 0
  have c1 := H1.out.gb.cell 1
  have d0 := H1.out.rb.cell 0
  have d1 := H1.out.rb.cell 1
  have f0 := H1.out.rb.frozen 0
  have f1 := H1.out.rb.frozen 1
  cases hr : rightB g
  · have HE : Hid (cnfG g l = (0, [], 1)) := cnfG_no1 hr
    clear hr
    go_wp2_with fail
    refine bodyPost_ret (v := .tuple #[.agg #[.int .i64 0, .slice none 0 0], .int .i64 1]) (by simp [results, Try.results16, go_sem, d0, d1]) rfl ?_
    rw [HE.out]
    exact ⟨none, 0, rfl, Nat.le_refl _, Cls.nil, (H1.out.low.setCell (p := ⟨w.heap.size + 1, 0, none⟩) (by simp) _).setCell (p := ⟨w.heap.size + 1, 1, none⟩) (by simp) _⟩
  · have HR := Lib.hid hr
    clear hr
    go_wp2_with fail
    refine (rlit_any g l A c _ hgl hl).mono ?_
    rintro e w2 ⟨rfl, hb2⟩
    have H2 := Lib.hid (H1.out.after hb2)
    clear hb2 H1 c0 c1 d0 d1 f0 f1
    have c0 := H2.out.gb.cell 0
    have c1 := H2.out.gb.cell 1
    have d0 := H2.out.rb.cell 0
    have d1 := H2.out.rb.cell 1
    have f0 := H2.out.rb.frozen 0
    have f1 := H2.out.rb.frozen 1
    cases hlb : litB g l
    · have HE : Hid (cnfG g l = (0, [], 1)) := cnfG_no2 hlb
      clear hlb
      go_wp2_with fail
      refine bodyPost_ret (v := .tuple #[.agg #[.int .i64 0, .slice none 0 0], .int .i64 1]) (by simp [results, Try.results16, go_sem, d0, d1]) rfl ?_
      rw [HE.out]
      exact ⟨none, 0, rfl, Nat.le_refl _, Cls.nil, (H2.out.low.setCell (p := ⟨w.heap.size + 1, 0, none⟩) (by simp) _).setCell (p := ⟨w.heap.size + 1, 1, none⟩) (by simp) _⟩
    · have HE : Hid (cnfG g l = (g.vars, clausesAt g l g.as.length, 0)) := cnfG_yes HR.out hlb
      obtain ⟨g0, g1, g2, g3⟩ := (size_iff g).1 (right_size HR.out)
      have HL := Lib.hid hlb
      clear hlb d0 d1 f0 f1
      go_wp2_with fail
      refine (rvars_any _ _ _ _ _ g0 (by omega) (by omega)).mono ?_
      rintro e w3 ⟨rfl, hb3⟩
      have H3 := Lib.hid (H2.out.after hb3)
      have HBL : Hid (((belowG g l).length : Int) = g.n + 1 + g.as.length) := by show ((belowG g l).length : Int) = _; rw [belowG_length]; unfold Gr.vars; omega
      have hs3 := H3.out.size
      clear hb3 c0 c1 H2
      have c0 := H3.out.gb.cell 0
      have c1 := H3.out.gb.cell 1
      have i4 := ((Blk.new w3 3 #[.int .i64 (-1)]).alloc (.cells #[.slice (some ⟨w3.heap.size, 0, none⟩) 1 1] 25)).alloc (.cells #[.int .i64 (g.n + 1 + (g.as.length : Int)), .slice (some ⟨w3.heap.size + 1, 0, none⟩) 1 1] 24)
      have o4 := (World.ownsRow_lit (base := w3.heap.size) (e := 25) (size := 1) (w3.alloc (.cells #[.int .i64 (-1)] 3)) #[.slice (some ⟨w3.heap.size, 0, none⟩) 1 1] 1 (by simp) (by unfold maxLen; omega) rfl).alloc (.cells #[.int .i64 (g.n + 1 + (g.as.length : Int)), .slice (some ⟨w3.heap.size + 1, 0, none⟩) 1 1] 24)
      have p4 := Blk.new ((w3.alloc (.cells #[.int .i64 (-1)] 3)).alloc (.cells #[.slice (some ⟨w3.heap.size, 0, none⟩) 1 1] 25)) 24 #[.int .i64 (g.n + 1 + (g.as.length : Int)), .slice (some ⟨w3.heap.size + 1, 0, none⟩) 1 1]
      simp only [World.size_alloc] at o4 p4
      have HC3 : Hid (CB (((w3.alloc (.cells #[.int .i64 (-1)] 3)).alloc (.cells #[.slice (some ⟨w3.heap.size, 0, none⟩) 1 1] 25)).alloc (.cells #[.int .i64 (g.n + 1 + (g.as.length : Int)), .slice (some ⟨w3.heap.size + 1, 0, none⟩) 1 1] 24)) w3.heap.size (some ⟨w3.heap.size + 1, 0, none⟩) 1 [(w3.heap.size, [-1])]) := ⟨o4, fun z hz => by
        obtain rfl := List.mem_singleton.1 hz
        exact i4⟩
      have HW3 := Lib.hid p4
      have H3' := Lib.hid (((H3.out.after (stepA w3 (.cells #[.int .i64 (-1)] 3))).after (stepA _ (.cells #[.slice (some ⟨w3.heap.size, 0, none⟩) 1 1] 25))).after (stepA _ (.cells #[.int .i64 (g.n + 1 + (g.as.length : Int)), .slice (some ⟨w3.heap.size + 1, 0, none⟩) 1 1] 24)))
      have e0 : (((w3.alloc (.cells #[.int .i64 (-1)] 3)).alloc (.cells #[.slice (some ⟨w3.heap.size, 0, none⟩) 1 1] 25)).alloc (.cells #[.int .i64 (g.n + 1 + (g.as.length : Int)), .slice (some ⟨w3.heap.size + 1, 0, none⟩) 1 1] 24)).cell? ⟨w.heap.size, 0, none⟩ = some (.int .i64 g.n) := H3'.out.gb.cell 0
      have e1 : (((w3.alloc (.cells #[.int .i64 (-1)] 3)).alloc (.cells #[.slice (some ⟨w3.heap.size, 0, none⟩) 1 1] 25)).alloc (.cells #[.int .i64 (g.n + 1 + (g.as.length : Int)), .slice (some ⟨w3.heap.size + 1, 0, none⟩) 1 1] 24)).cell? ⟨w.heap.size, 1, none⟩ = some (.slice A g.as.length c) := H3'.out.gb.cell 1
      clear i4 o4 p4
      go_wp2_with fail
      refine (under_any g l A c _ HR.out HL.out (H3'.out.prs HP.out)).mono ?_
      rintro e w4 ⟨vb, rfl, hv, hb4⟩
      have HC4 := Lib.hid (HC3.out.below hb4)
      have HP4 := Lib.hid (HW3.out.below hb4 HW3.out.lt)
      have HV4 := Lib.hid hv
      have H4 := Lib.hid (H3'.out.after hb4)
      generalize hPd : w3.heap.size + 1 + 1 = P at HP4 ⊢
      have hsP : w3.heap.size ≤ P := by omega
      clear hb4 hv HC3 HW3 H3' e0 e1 c0 c1
      go_wp2_with fail
      go_loopw [8] (fun i wr => ∃ (k : Nat) (A' : Option Addr) (c' : Nat) (zs : Zs), k ≤ g.as.length ∧ i = .int .i64 k ∧ zs.map (·.2) = clausesAt g l k ∧ CB wr w3.heap.size A' c' zs ∧ BlkF wr P 24 #[.int .i64 (g.n + 1 + (g.as.length : Int)), .slice A' zs.length c'] ∧ BlkF wr vb 4 (bools (belowG g l)).toArray ∧ OfSt w wr g A c) (fun i _ => g.as.length - (intOf i).toNat)
      case atStart =>
        exact ⟨0, _, _, [(w3.heap.size, [-1])], Nat.zero_le _, rfl, rfl, HC4.out, ⟨HP4.out⟩, ⟨HV4.out⟩, H4.out⟩
      case round =>
        obtain ⟨k, A', c', zs, hk, rfl, hzs, hcb, hbw, hbv, hos⟩ := hrel
        have HC := Lib.hid hcb
        have HWB := Lib.hid hbw.p
        have HVB := Lib.hid hbv.p
        have HZ := Lib.hid hzs
        have HS := Lib.hid hos
        clear hcb hbw hbv hos hzs H4 HC4 HP4 HV4
        have c0 := HS.out.gb.cell 0
        have c1 := HS.out.gb.cell 1
        have hws : P < wr.heap.size := HWB.out.lt
        have hzl : zs.length ≤ 1 + 3 * k := by
          have := clausesAt_length g l k
          rw [← HZ.out, List.length_map] at this
          exact this
        by_cases hlt : k < g.as.length
        · have hlt' : (k : Int) < (g.as.length : Int) := by omega
          obtain ⟨⟨p1, p2⟩, hpk⟩ : ∃ p, g.as[k]? = some p := ⟨_, List.getElem?_eq_getElem hlt⟩
          obtain ⟨b', o', rfl, hbs, q1, q2⟩ := (HS.out.prs HP.out) k _ hpk
          obtain ⟨r1, r2, r3, r4, r5, r6⟩ := gate_lits HR.out hpk
          simp only at r1 r2 r3 r4 r5 r6
          have i0 : 0 ≤ 2 * (g.n + 1 + (k : Int)) := by omega
          have i1 : 0 ≤ 2 * (g.n + 1 + (k : Int)) / 2 := by omega
          have i2 : 2 * (g.n + 1 + (k : Int)) / 2 < ((belowG g l).length : Int) := by rw [HBL.out]; omega
          obtain ⟨bit, hbit⟩ : ∃ y, (belowG g l)[(g.n + 1 + (k : Int)).toNat]? = some y := ⟨_, List.getElem?_eq_getElem (by omega)⟩
          have qv : wr.cell? ⟨vb, (g.n + 1 + (k : Int)).toNat, none⟩ = some (.bool bit) := by
            rw [HVB.out.cell, List.getElem?_toArray]
            exact bools_get hbit
          have i3 : 0 ≤ g.n + 1 + (k : Int) := by omega
          have i4 : g.n + 1 + (k : Int) < ((belowG g l).length : Int) := by rw [HBL.out]; omega
          have HBT := Lib.hid hbit
          have HPK := Lib.hid hpk
          clear hbit hpk
          cases bit
          · have HSN : Hid (clausesAt g l (k + 1) = clausesAt g l k) := clausesAt_no HPK.out HBT.out
            go_wp2_with fail
            go_roundw
            case rel => exact ⟨k + 1, A', c', zs, by omega, by go_num, by rw [HSN.out]; exact HZ.out, HC.out, ⟨HWB.out⟩, ⟨HVB.out⟩, HS.out⟩
            case measure => simp [intOf]; omega
          · have HSN : Hid (clausesAt g l (k + 1) = clausesAt g l k ++ gateC g.n k (p1, p2)) := clausesAt_yes HPK.out HBT.out
            go_wp2_with fail
            have hwm : IntKind.i64.wrap (2 * (g.n + 1 + (k : Int))) = 2 * (g.n + 1 + (k : Int)) := IntWalk.i64_in _ (by omega)
            have HPX : Hid (wr.drew.cell? ⟨w.heap.size, 1, none⟩ = some (.slice (some ⟨b', o', none⟩) g.as.length c) ∧ wr.drew.cell? ⟨b', o' + k * 2, none⟩ = some (.int .i64 p1) ∧ wr.drew.cell? ⟨b', o' + k * 2 + 1, none⟩ = some (.int .i64 p2)) := ⟨HS.out.gb.cell 1, q1, q2⟩
            clear q1 q2 qv c0 c1 i0 i1 i2 i3 i4
            refine wp_region_noPanic ?_
            refine wp_region_seq (fun W => W.cell? ⟨w.heap.size, 1, none⟩ = some (.slice (some ⟨b', o', none⟩) g.as.length c) ∧ W.cell? ⟨b', o' + k * 2, none⟩ = some (.int .i64 p1) ∧ W.cell? ⟨b', o' + k * 2 + 1, none⟩ = some (.int .i64 p2)) [0, 2, 3, 4, 5, 6, 7, 9, 10, 11, 12, 13, 14, 1, 8, 15, 16, 17, 18] [0, 2, 3, 4, 5, 6, 7, 9, 10, 11, 12, 13, 14, 16, 17, 18] [] (by kernel_rfl) (by kernel_rfl) rfl (by kernel_rfl) (by kernel_rfl) (fun _ _ _ _ _ h => h) ?_ (fun hSS => ?_)
            · exact HPX.out
            (refine wpSeq_mov rfl rfl ?_; intro o ho; simp only [List.getElem?_toArray, List.getElem?_cons_zero, List.getElem?_cons_succ, Option.some.injEq] at ho; subst ho; refine ⟨?_, Or.inl ⟨by rfl, fun W hSW => ?_⟩, ?_⟩; rotate_left; (focus (go_simp; first | done | with_reducible rfl)); try simp only [Act.put, List.setIfInBounds_toArray, List.set_cons_zero, List.set_cons_succ])
            (refine wpSeq_mov rfl rfl ?_; intro o ho; simp only [List.getElem?_toArray, List.getElem?_cons_zero, List.getElem?_cons_succ, Option.some.injEq] at ho; subst ho; refine ⟨?_, Or.inl ⟨by rfl, fun W hSW => ?_⟩, ?_⟩; rotate_left; (focus (go_simp; first | done | with_reducible rfl)); try simp only [Act.put, List.setIfInBounds_toArray, List.set_cons_zero, List.set_cons_succ])
            (refine wpSeq_mov rfl rfl ?_; intro o ho; simp only [List.getElem?_toArray, List.getElem?_cons_zero, List.getElem?_cons_succ, Option.some.injEq] at ho; subst ho; refine ⟨?_, Or.inl ⟨by rfl, fun W hSW => ?_⟩, ?_⟩; rotate_left; (focus (go_simp; first | done | with_reducible rfl)); try simp only [Act.put, List.setIfInBounds_toArray, List.set_cons_zero, List.set_cons_succ])
            (refine wpSeq_mov rfl rfl ?_; intro o ho; simp only [List.getElem?_toArray, List.getElem?_cons_zero, List.getElem?_cons_succ, Option.some.injEq] at ho; subst ho; refine ⟨?_, Or.inl ⟨by rfl, fun W hSW => ?_⟩, ?_⟩; rotate_left; (focus (go_simp; first | done | with_reducible rfl)); try simp only [Act.put, List.setIfInBounds_toArray, List.set_cons_zero, List.set_cons_succ])
            (refine wpSeq_mov rfl rfl ?_; intro o ho; simp only [List.getElem?_toArray, List.getElem?_cons_zero, List.getElem?_cons_succ, Option.some.injEq] at ho; subst ho; refine ⟨?_, Or.inl ⟨by rfl, fun W hSW => ?_⟩, ?_⟩; rotate_left; (focus (go_simp; first | done | with_reducible rfl)); try simp only [Act.put, List.setIfInBounds_toArray, List.set_cons_zero, List.set_cons_succ])
            (refine wpSeq_mov rfl rfl ?_; intro o ho; simp only [List.getElem?_toArray, List.getElem?_cons_zero, List.getElem?_cons_succ, Option.some.injEq] at ho; subst ho; refine ⟨?_, Or.inl ⟨by rfl, fun W hSW => ?_⟩, ?_⟩; rotate_left; (focus (go_simp; first | done | with_reducible rfl)); try simp only [Act.put, List.setIfInBounds_toArray, List.set_cons_zero, List.set_cons_succ])
            (refine wpSeq_mov rfl rfl ?_; intro o ho; simp only [List.getElem?_toArray, List.getElem?_cons_zero, List.getElem?_cons_succ, Option.some.injEq] at ho; subst ho; refine ⟨?_, Or.inl ⟨by rfl, fun W hSW => ?_⟩, ?_⟩; rotate_left; (focus (go_simp; first | done | with_reducible rfl)); try simp only [Act.put, List.setIfInBounds_toArray, List.set_cons_zero, List.set_cons_succ])
            (refine wpSeq_mov rfl rfl ?_; intro o ho; simp only [List.getElem?_toArray, List.getElem?_cons_zero, List.getElem?_cons_succ, Option.some.injEq] at ho; subst ho; refine ⟨?_, Or.inl ⟨by rfl, fun W hSW => ?_⟩, ?_⟩; rotate_left; (focus (go_simp; first | done | with_reducible rfl)); try simp only [Act.put, List.setIfInBounds_toArray, List.set_cons_zero, List.set_cons_succ])
            (refine wpSeq_mov rfl rfl ?_; intro o ho; simp only [List.getElem?_toArray, List.getElem?_cons_zero, List.getElem?_cons_succ, Option.some.injEq] at ho; subst ho; refine ⟨?_, Or.inl ⟨by rfl, fun W hSW => ?_⟩, ?_⟩; rotate_left; (focus (go_simp; first | done | with_reducible rfl)); try simp only [Act.put, List.setIfInBounds_toArray, List.set_cons_zero, List.set_cons_succ])
            (refine wpSeq_mov rfl rfl ?_; intro o ho; simp only [List.getElem?_toArray, List.getElem?_cons_zero, List.getElem?_cons_succ, Option.some.injEq] at ho; subst ho; refine ⟨?_, Or.inl ⟨by rfl, fun W hSW => ?_⟩, ?_⟩; rotate_left; (focus (go_simp; first | done | with_reducible rfl)); try simp only [Act.put, List.setIfInBounds_toArray, List.set_cons_zero, List.set_cons_succ])
            (refine wpSeq_mov rfl rfl ?_; intro o ho; simp only [List.getElem?_toArray, List.getElem?_cons_zero, List.getElem?_cons_succ, Option.some.injEq] at ho; subst ho; refine ⟨?_, Or.inl ⟨by rfl, fun W hSW => ?_⟩, ?_⟩; rotate_left; (focus (go_simp; first | done | with_reducible rfl)); try simp only [Act.put, List.setIfInBounds_toArray, List.set_cons_zero, List.set_cons_succ])
            (refine wpSeq_mov rfl rfl ?_; intro o ho; simp only [List.getElem?_toArray, List.getElem?_cons_zero, List.getElem?_cons_succ, Option.some.injEq] at ho; subst ho; refine ⟨?_, Or.inl ⟨by rfl, fun W hSW => ?_⟩, ?_⟩; rotate_left; (focus (go_simp; first | done | with_reducible rfl)); try simp only [Act.put, List.setIfInBounds_toArray, List.set_cons_zero, List.set_cons_succ])
            (refine wpSeq_mov rfl rfl ?_; intro o ho; simp only [List.getElem?_toArray, List.getElem?_cons_zero, List.getElem?_cons_succ, Option.some.injEq] at ho; subst ho; refine ⟨?_, Or.inl ⟨by rfl, fun W hSW => ?_⟩, ?_⟩; rotate_left; (focus (go_simp; first | done | with_reducible rfl)); try simp only [Act.put, List.setIfInBounds_toArray, List.set_cons_zero, List.set_cons_succ])
            (refine wpSeq_fix rfl rfl ?_; intro o ho; simp only [List.getElem?_toArray, List.getElem?_cons_zero, List.getElem?_cons_succ, Option.some.injEq] at ho; subst ho; intro K hK)
            go_simp
            refine (rlitc_any (2 * (g.n + 1 + (k : Int))) _ (by omega) (by omega)).mono ?_
            rintro e w' ⟨rfl, rfl⟩
            (refine hK.out _ _ (fun _ => HPX.out) ?_; clear hK K; try simp only [Act.put, List.setIfInBounds_toArray, List.set_cons_zero, List.set_cons_succ])
            (refine wpSeq_fix rfl rfl ?_; intro o ho; simp only [List.getElem?_toArray, List.getElem?_cons_zero, List.getElem?_cons_succ, Option.some.injEq] at ho; subst ho; intro K hK)
            go_simp
            refine (rlitc_any p1 _ (by omega) (by omega)).mono ?_
            rintro e w' ⟨rfl, rfl⟩
            (refine hK.out _ _ (fun _ => HPX.out) ?_; clear hK K; try simp only [Act.put, List.setIfInBounds_toArray, List.set_cons_zero, List.set_cons_succ])
            (refine wpSeq_fix rfl rfl ?_; intro o ho; simp only [List.getElem?_toArray, List.getElem?_cons_zero, List.getElem?_cons_succ, Option.some.injEq] at ho; subst ho; intro K hK)
            go_simp
            refine (rlitc_any p2 _ (by omega) (by omega)).mono ?_
            rintro e w' ⟨rfl, rfl⟩
            (refine hK.out _ _ (fun _ => HPX.out) ?_; clear hK K; try simp only [Act.put, List.setIfInBounds_toArray, List.set_cons_zero, List.set_cons_succ])
            (refine wpSeq_mov rfl rfl ?_; intro o ho; simp only [List.getElem?_toArray, List.getElem?_cons_zero, List.getElem?_cons_succ, Option.some.injEq] at ho; subst ho; refine ⟨?_, Or.inl ⟨by rfl, fun W hSW => ?_⟩, ?_⟩; rotate_left; (focus (go_simp; first | done | with_reducible rfl)); try simp only [Act.put, List.setIfInBounds_toArray, List.set_cons_zero, List.set_cons_succ])
            (refine wpSeq_mov rfl rfl ?_; intro o ho; simp only [List.getElem?_toArray, List.getElem?_cons_zero, List.getElem?_cons_succ, Option.some.injEq] at ho; subst ho; refine ⟨?_, Or.inl ⟨by rfl, fun W hSW => ?_⟩, ?_⟩; rotate_left; (focus (go_simp; first | done | with_reducible rfl)); try simp only [Act.put, List.setIfInBounds_toArray, List.set_cons_zero, List.set_cons_succ])
            (refine wpSeq_mov rfl rfl ?_; intro o ho; simp only [List.getElem?_toArray, List.getElem?_cons_zero, List.getElem?_cons_succ, Option.some.injEq] at ho; subst ho; refine ⟨?_, Or.inl ⟨by rfl, fun W hSW => ?_⟩, ?_⟩; rotate_left; (focus (go_simp; first | done | with_reducible rfl)); try simp only [Act.put, List.setIfInBounds_toArray, List.set_cons_zero, List.set_cons_succ])
            refine wpSeq_done ?_
            rw [litC_even]
            obtain ⟨a1, a2⟩ := litC_bound r1 r5
            obtain ⟨b1, b2⟩ := litC_bound r3 r6
            have HGC : Hid (gateC g.n k (p1, p2) = [[-(g.n + 1 + k + 1), litC p1], [-(g.n + 1 + k + 1), litC p2], [g.n + 1 + k + 1, -litC p1, -litC p2]]) := rfl
            generalize litC p1 = x1 at a1 a2 HGC ⊢
            generalize litC p2 = x2 at b1 b2 HGC ⊢
            have HC0 := Lib.hid (HC.out.drew)
            have HW0 := Lib.hid (HWB.out.drew)
            have HV0 := Lib.hid (HVB.out.drew)
            have HS0 := Lib.hid (HS.out.after (stepD1 wr))
            have hwb : P < wr.drew.heap.size := hws
            generalize wr.drew = wb at HC0 HW0 HV0 HS0 hwb ⊢
            clear HPX HC HWB HVB HS hws hbs
            have HI1 := Lib.hid ((((Blk.new wb 3 #[.int .i64 (-(g.n + 1 + (k : Int) + 1)), .int .i64 x1]).alloc (.cells #[.int .i64 (-(g.n + 1 + (k : Int) + 1)), .int .i64 x2] 3)).alloc (.cells #[.int .i64 (g.n + 1 + (k : Int) + 1), .int .i64 (-x1), .int .i64 (-x2)] 3)).alloc (.cells #[slot (wb.heap.size, [-(g.n + 1 + (k : Int) + 1), x1]), slot (wb.heap.size + 1, [-(g.n + 1 + (k : Int) + 1), x2]), slot (wb.heap.size + 1 + 1, [g.n + 1 + (k : Int) + 1, -x1, -x2])] 25))
            have j2 := ((Blk.new (wb.alloc (.cells #[.int .i64 (-(g.n + 1 + (k : Int) + 1)), .int .i64 x1] 3)) 3 #[.int .i64 (-(g.n + 1 + (k : Int) + 1)), .int .i64 x2]).alloc (.cells #[.int .i64 (g.n + 1 + (k : Int) + 1), .int .i64 (-x1), .int .i64 (-x2)] 3)).alloc (.cells #[slot (wb.heap.size, [-(g.n + 1 + (k : Int) + 1), x1]), slot (wb.heap.size + 1, [-(g.n + 1 + (k : Int) + 1), x2]), slot (wb.heap.size + 1 + 1, [g.n + 1 + (k : Int) + 1, -x1, -x2])] 25)
            have j3 := (Blk.new ((wb.alloc (.cells #[.int .i64 (-(g.n + 1 + (k : Int) + 1)), .int .i64 x1] 3)).alloc (.cells #[.int .i64 (-(g.n + 1 + (k : Int) + 1)), .int .i64 x2] 3)) 3 #[.int .i64 (g.n + 1 + (k : Int) + 1), .int .i64 (-x1), .int .i64 (-x2)]).alloc (.cells #[slot (wb.heap.size, [-(g.n + 1 + (k : Int) + 1), x1]), slot (wb.heap.size + 1, [-(g.n + 1 + (k : Int) + 1), x2]), slot (wb.heap.size + 1 + 1, [g.n + 1 + (k : Int) + 1, -x1, -x2])] 25)
            simp only [World.size_alloc] at j2 j3
            have HI2 := Lib.hid j2
            have HI3 := Lib.hid j3
            have HC1 := Lib.hid ((((HC0.out.alloc (.cells #[.int .i64 (-(g.n + 1 + (k : Int) + 1)), .int .i64 x1] 3)).alloc (.cells #[.int .i64 (-(g.n + 1 + (k : Int) + 1)), .int .i64 x2] 3)).alloc (.cells #[.int .i64 (g.n + 1 + (k : Int) + 1), .int .i64 (-x1), .int .i64 (-x2)] 3)).alloc (.cells #[slot (wb.heap.size, [-(g.n + 1 + (k : Int) + 1), x1]), slot (wb.heap.size + 1, [-(g.n + 1 + (k : Int) + 1), x2]), slot (wb.heap.size + 1 + 1, [g.n + 1 + (k : Int) + 1, -x1, -x2])] 25))
            have HW1 := Lib.hid ((((HW0.out.alloc (.cells #[.int .i64 (-(g.n + 1 + (k : Int) + 1)), .int .i64 x1] 3)).alloc (.cells #[.int .i64 (-(g.n + 1 + (k : Int) + 1)), .int .i64 x2] 3)).alloc (.cells #[.int .i64 (g.n + 1 + (k : Int) + 1), .int .i64 (-x1), .int .i64 (-x2)] 3)).alloc (.cells #[slot (wb.heap.size, [-(g.n + 1 + (k : Int) + 1), x1]), slot (wb.heap.size + 1, [-(g.n + 1 + (k : Int) + 1), x2]), slot (wb.heap.size + 1 + 1, [g.n + 1 + (k : Int) + 1, -x1, -x2])] 25))
            have HV1 := Lib.hid ((((HV0.out.alloc (.cells #[.int .i64 (-(g.n + 1 + (k : Int) + 1)), .int .i64 x1] 3)).alloc (.cells #[.int .i64 (-(g.n + 1 + (k : Int) + 1)), .int .i64 x2] 3)).alloc (.cells #[.int .i64 (g.n + 1 + (k : Int) + 1), .int .i64 (-x1), .int .i64 (-x2)] 3)).alloc (.cells #[slot (wb.heap.size, [-(g.n + 1 + (k : Int) + 1), x1]), slot (wb.heap.size + 1, [-(g.n + 1 + (k : Int) + 1), x2]), slot (wb.heap.size + 1 + 1, [g.n + 1 + (k : Int) + 1, -x1, -x2])] 25))
            have HS1 := Lib.hid ((((HS0.out.after (stepA _ (.cells #[.int .i64 (-(g.n + 1 + (k : Int) + 1)), .int .i64 x1] 3))).after (stepA _ (.cells #[.int .i64 (-(g.n + 1 + (k : Int) + 1)), .int .i64 x2] 3))).after (stepA _ (.cells #[.int .i64 (g.n + 1 + (k : Int) + 1), .int .i64 (-x1), .int .i64 (-x2)] 3))).after (stepA _ (.cells #[slot (wb.heap.size, [-(g.n + 1 + (k : Int) + 1), x1]), slot (wb.heap.size + 1, [-(g.n + 1 + (k : Int) + 1), x2]), slot (wb.heap.size + 1 + 1, [g.n + 1 + (k : Int) + 1, -x1, -x2])] 25)))
            have hvn := vals_new (((wb.alloc (.cells #[.int .i64 (-(g.n + 1 + (k : Int) + 1)), .int .i64 x1] 3)).alloc (.cells #[.int .i64 (-(g.n + 1 + (k : Int) + 1)), .int .i64 x2] 3)).alloc (.cells #[.int .i64 (g.n + 1 + (k : Int) + 1), .int .i64 (-x1), .int .i64 (-x2)] 3)) [slot (wb.heap.size, [-(g.n + 1 + (k : Int) + 1), x1]), slot (wb.heap.size + 1, [-(g.n + 1 + (k : Int) + 1), x2]), slot (wb.heap.size + 1 + 1, [g.n + 1 + (k : Int) + 1, -x1, -x2])] 25
            simp only [World.size_alloc] at hvn
            have HVN := Lib.hid hvn
            clear hvn
            have k1 := HW0.out.cell 1
            clear j2 j3 HC0 HW0 HV0 HS0
            obtain ⟨i0, hi0, hz0, hz1, hz2⟩ := info_parts rowInfo
            go_wp2_with (first
              | (at_builtin; refine wpList_append_vals _ rfl (.tmp 67) (.tmp 82) _ rfl w3.heap.size 25 i0 _ 1 24 Try.underlying22 hi0 hz0 hz1 hz2 rfl (by omega) (.slice A' zs.length c') zs.length (zs.map slot) rfl HC1.out.own _ _ 3 3 [slot (wb.heap.size, [-(g.n + 1 + (k : Int) + 1), x1]), slot (wb.heap.size + 1, [-(g.n + 1 + (k : Int) + 1), x2]), slot (wb.heap.size + 1 + 1, [g.n + 1 + (k : Int) + 1, -x1, -x2])] rfl rfl HVN.out (slot_one [(wb.heap.size, [-(g.n + 1 + (k : Int) + 1), x1]), (wb.heap.size + 1, [-(g.n + 1 + (k : Int) + 1), x2]), (wb.heap.size + 1 + 1, [g.n + 1 + (k : Int) + 1, -x1, -x2])]) (by unfold maxLen; omega) (by omega) (by simp; omega) ?_; intro v5 w5 hown5 hg5; obtain ⟨A6, c6, rfl, hcap6⟩ := own_form hown5; have HG := Lib.hid hg5; have HO5 := Lib.hid hown5; have HP5 := Lib.hid (HW1.out.by_ hg5 (own_ne HC1.out.own HW1.out (by decide))); have HV5 := Lib.hid (HV1.out.by_ hg5 (own_ne HC1.out.own HV1.out (by decide))); clear hown5 hg5 k1; have k1 := HP5.out.cell 1; have f1 := HP5.out.frozen 1))
            have e1 : (zs ++ [(wb.heap.size, [-(g.n + 1 + (k : Int) + 1), x1]), (wb.heap.size + 1, [-(g.n + 1 + (k : Int) + 1), x2]), (wb.heap.size + 1 + 1, [g.n + 1 + (k : Int) + 1, -x1, -x2])]).length = zs.length + 3 := by simp
            have e2 : (zs ++ [(wb.heap.size, [-(g.n + 1 + (k : Int) + 1), x1]), (wb.heap.size + 1, [-(g.n + 1 + (k : Int) + 1), x2]), (wb.heap.size + 1 + 1, [g.n + 1 + (k : Int) + 1, -x1, -x2])]).map slot = zs.map slot ++ [slot (wb.heap.size, [-(g.n + 1 + (k : Int) + 1), x1]), slot (wb.heap.size + 1, [-(g.n + 1 + (k : Int) + 1), x2]), slot (wb.heap.size + 1 + 1, [g.n + 1 + (k : Int) + 1, -x1, -x2])] := by simp
            have hcb : CB w5 w3.heap.size A6 c6 (zs ++ [(wb.heap.size, [-(g.n + 1 + (k : Int) + 1), x1]), (wb.heap.size + 1, [-(g.n + 1 + (k : Int) + 1), x2]), (wb.heap.size + 1 + 1, [g.n + 1 + (k : Int) + 1, -x1, -x2])]) := HC1.out.grow HG.out (by rw [e1, e2]; exact HO5.out) (fun y hy => by
              simp only [List.mem_cons, List.not_mem_nil, or_false] at hy
              rcases hy with rfl | rfl | rfl
              · exact HI1.out
              · exact HI2.out
              · exact HI3.out)
            have HC6 := Lib.hid (hcb.set HP5.out (by decide) (by decide) 1 (.slice A6 (zs.length + 3) c6))
            have HW6 := Lib.hid (HP5.out.set_ 1 (.slice A6 (zs.length + 3) c6))
            have hvp : vb ≠ P := by
              intro e
              have h1 := HV5.out
              have h2 := HP5.out
              unfold Blk at h1 h2
              rw [e, h2] at h1
              injection h1 with h1
              injection h1 with _ h1
              exact absurd h1 (by decide)
            have HV6 := Lib.hid (HV5.out.far (p := ⟨P, 1, none⟩) hvp (.slice A6 (zs.length + 3) c6))
            have HS6 : Hid (OfSt w (w5.setCell ⟨P, 1, none⟩ (.slice A6 (zs.length + 3) c6)) g (some ⟨b', o', none⟩) c) := ⟨(HS1.out.below.grown HG.out HS1.out.size (fun q hq => by have := own_block HC1.out.own q hq; omega)).setCell (p := ⟨P, 1, none⟩) (by show w.heap.size + 2 ≤ P; omega) _⟩
            go_roundw
            case rel =>
              refine ⟨k + 1, A6, c6, zs ++ [(wb.heap.size, [-(g.n + 1 + (k : Int) + 1), x1]), (wb.heap.size + 1, [-(g.n + 1 + (k : Int) + 1), x2]), (wb.heap.size + 1 + 1, [g.n + 1 + (k : Int) + 1, -x1, -x2])], by omega, by go_num, by rw [HSN.out, HGC.out, ← HZ.out]; simp, HC6.out, ⟨?_⟩, ⟨HV6.out⟩, HS6.out⟩
              rw [e1]
              exact HW6.out
            case measure => simp [intOf]; omega
        · obtain rfl : k = g.as.length := by omega
          have hlt' : ¬ ((g.as.length : Int) < (g.as.length : Int)) := by omega
          have k0 := HWB.out.cell 0
          have k1 := HWB.out.cell 1
          have d0 := HS.out.rb.cell 0
          have d1 := HS.out.rb.cell 1
          have f0 := HS.out.rb.frozen 0
          have f1 := HS.out.rb.frozen 1
          go_wp2_with fail
          have t0 : ((wr.setCell ⟨w.heap.size + 1, 0, none⟩ (.int .i64 (g.n + 1 + (g.as.length : Int)))).setCell ⟨w.heap.size + 1, 1, none⟩ (.slice A' zs.length c')).cell? ⟨w.heap.size + 1, 0, none⟩ = some (.int .i64 (g.n + 1 + (g.as.length : Int))) := ((HS.out.rb.set_ 0 (.int .i64 (g.n + 1 + (g.as.length : Int)))).set_ 1 (.slice A' zs.length c')).cell 0
          have t1 : ((wr.setCell ⟨w.heap.size + 1, 0, none⟩ (.int .i64 (g.n + 1 + (g.as.length : Int)))).setCell ⟨w.heap.size + 1, 1, none⟩ (.slice A' zs.length c')).cell? ⟨w.heap.size + 1, 1, none⟩ = some (.slice A' zs.length c') := ((HS.out.rb.set_ 0 (.int .i64 (g.n + 1 + (g.as.length : Int)))).set_ 1 (.slice A' zs.length c')).cell 1
          have HCF := Lib.hid ((HC.out.set HS.out.rb (by decide) (by decide) 0 (.int .i64 (g.n + 1 + (g.as.length : Int)))).set (HS.out.rb.set_ 0 (.int .i64 (g.n + 1 + (g.as.length : Int)))) (by decide) (by decide) 1 (.slice A' zs.length c'))
          have HLF : Hid (Below w.heap.size w ((wr.setCell ⟨w.heap.size + 1, 0, none⟩ (.int .i64 (g.n + 1 + (g.as.length : Int)))).setCell ⟨w.heap.size + 1, 1, none⟩ (.slice A' zs.length c'))) := (HS.out.low.setCell (p := ⟨w.heap.size + 1, 0, none⟩) (by simp) _).setCell (p := ⟨w.heap.size + 1, 1, none⟩) (by simp) _
          generalize (wr.setCell ⟨w.heap.size + 1, 0, none⟩ (.int .i64 (g.n + 1 + (g.as.length : Int)))).setCell ⟨w.heap.size + 1, 1, none⟩ (.slice A' zs.length c') = wz at t0 t1 HCF HLF ⊢
          refine bodyPost_ret (v := .tuple #[.agg #[(.int .i64 (g.n + 1 + (g.as.length : Int))), .slice A' zs.length c'], .int .i64 0]) (by simp [results, Try.results16, go_sem, t0, t1]) rfl ?_
          rw [HE.out]
          have hcls := HCF.out.cls
          have hlen : (clausesAt g l g.as.length).length = zs.length := by rw [← HZ.out, List.length_map]
          refine ⟨A', c', ?_, ?_, ?_, HLF.out⟩
          · show Ending.returned _ = Ending.returned (.tuple #[.agg #[.int .i64 g.vars, .slice A' (clausesAt g l g.as.length).length c'], .int .i64 0])
            rw [hlen]
            rfl
          · show (clausesAt g l g.as.length).length ≤ c'
            rw [hlen]
            exact HCF.out.cap
          · show Cls _ _ A' (clausesAt g l g.as.length)
            rw [← HZ.out]
            exact hcls
end Go.Proofs.Ytbkmgblijncjhaa
