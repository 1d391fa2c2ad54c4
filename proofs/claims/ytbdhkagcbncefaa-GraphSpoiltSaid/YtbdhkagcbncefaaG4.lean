/- What stands below a literal: plain data. slices.Backward over a graph's gates: the iterator's contract. Layer 14 and 3: which variables stand below a literal. Literals as clauses: plain data. Layer 14's laws, plain data. Clauses in memory. Layer 14, the document's: Lit, clause, Right, So, Same. Layer 14, the document's: Right, So, Same. Layers 14 and 3, the document's: which variables stand below a literal. Layer 3, the document's: which variables stand below a literal. Layer 3: which variables stand below a literal. slices.IndexFunc and slices.ContainsFunc with a closure that turns nothing. Layer 14: Right and So. Layer 14: clauses that are written one by one; put. Layer 14: what holds within cnf.Of and the document's Of. Layer 14: cnf.Of. Layer 14, the document's Of. Layer 14: awake. -/
import Derived.Test.YtbdhkagcbncefaaG3
import Derived.RangeFuncNested
import Derived.RangeFuncBound
import Derived.RangeFuncCalls
import Derived.RangeFuncLeaves
import Derived.Shelf.Abstract
import Derived.Shelf.RegionOpen
import Derived.OwnWalkIn
import Derived.TacticsInMore
import Derived.LoopNIn
import Derived.LoopIn
import Derived.Laws.EntriesVeiled
namespace Go.Proofs.Ytbdhkagcbncefaa

/-- A gate that is marked marks what it is made of. -/
def mark (n : Int) (m : List Bool) (i : Nat) (p : Pr) : List Bool := if m[(n + 1 + i).toNat]?.getD false then (m.set (p.1 / 2).toNat true).set (p.2 / 2).toNat true else m

theorem mark_length (n : Int) (m : List Bool) (i : Nat) (p : Pr) : (mark n m i p).length = m.length := by
  unfold mark
  split <;> simp

theorem mark_yes {n : Int} {m : List Bool} {i : Nat} {p : Pr} (h : m[(n + 1 + i).toNat]? = some true) : mark n m i p = (m.set (p.1 / 2).toNat true).set (p.2 / 2).toNat true := by
  unfold mark
  rw [h]
  rfl
theorem mark_no {n : Int} {m : List Bool} {i : Nat} {p : Pr} (h : m[(n + 1 + i).toNat]? = some false) : mark n m i p = m := by
  unfold mark
  rw [h]
  rfl

/-- The marks behind so many gates, the last one first. -/
def marksAt (g : Gr) (m0 : List Bool) : Nat → List Bool
  | 0 => m0
  | k + 1 => match g.as[g.as.length - 1 - k]? with
    | some p => mark g.n (marksAt g m0 k) (g.as.length - 1 - k) p
    | none => marksAt g m0 k

theorem marksAt_succ {g : Gr} {m0 : List Bool} {k j : Nat} {p : Pr} (hj : g.as.length - 1 - k = j) (h : g.as[j]? = some p) : marksAt g m0 (k + 1) = mark g.n (marksAt g m0 k) j p := by
  rw [marksAt, hj, h]
theorem marksAt_length (g : Gr) (m0 : List Bool) : ∀ k, (marksAt g m0 k).length = m0.length
  | 0 => rfl
  | k + 1 => by
    rw [marksAt]
    split
    · rw [mark_length, marksAt_length g m0 k]
    · exact marksAt_length g m0 k

def mark0 (g : Gr) (l : Int) : List Bool := (List.replicate g.vars.toNat false).set (l / 2).toNat true
theorem mark0_length (g : Gr) (l : Int) : (mark0 g l).length = g.vars.toNat := by simp [mark0]

/-- Which variables stand below a literal. -/
def belowG (g : Gr) (l : Int) : List Bool := marksAt g (mark0 g l) g.as.length
theorem belowG_length (g : Gr) (l : Int) : (belowG g l).length = g.vars.toNat := by unfold belowG; rw [marksAt_length, mark0_length]

/-- A gate with its place. -/
abbrev Placed (g : Gr) := { x : Nat × Pr // g.as[x.1]? = some x.2 }
def marksOf {g : Gr} (m0 : List Bool) (pre : List (Placed g)) : List Bool := pre.foldl (fun m x => mark g.n m x.1.1 x.1.2) m0
theorem marksOf_snoc {g : Gr} (m0 : List Bool) (pre : List (Placed g)) (x : Placed g) : marksOf m0 (pre ++ [x]) = mark g.n (marksOf m0 pre) x.1.1 x.1.2 := by simp [marksOf]
theorem marksOf_length {g : Gr} (m0 : List Bool) (pre : List (Placed g)) : (marksOf m0 pre).length = m0.length := by
  unfold marksOf
  induction pre generalizing m0 with
  | nil => rfl
  | cons x pre ih => rw [List.foldl_cons, ih, mark_length]

theorem list_of' {α : Type} {Q : Nat → α → Prop} : ∀ n : Nat, (∀ i, i < n → ∃ x, Q i x) → ∃ l : List α, l.length = n ∧ ∀ i x, l[i]? = some x → Q i x
  | 0, _ => ⟨[], rfl, fun i x h => by simp at h⟩
  | n + 1, h => by
    obtain ⟨l, hl, hq⟩ := list_of' n fun i hi => h i (by omega)
    obtain ⟨x, hx⟩ := h n (by omega)
    refine ⟨l ++ [x], by simp [hl], fun i y hy => ?_⟩
    by_cases hi : i < n
    · rw [List.getElem?_append_left (by omega)] at hy
      exact hq i y hy
    · by_cases e : i = n
      · subst e
        rw [List.getElem?_append_right (by omega)] at hy
        simp [hl] at hy
        subst hy
        exact hx
      · rw [List.getElem?_append_right (by omega)] at hy
        have : i - l.length = (i - l.length - 1) + 1 := by omega
        rw [this] at hy
        simp at hy

/-- The gates, the last one first. -/
theorem placed_all (g : Gr) : ∃ xs : List (Placed g), xs.length = g.as.length ∧ ∀ k x, xs[k]? = some x → x.1.1 = g.as.length - 1 - k := by
  refine list_of' g.as.length fun i hi => ?_
  have hlt : g.as.length - 1 - i < g.as.length := by omega
  exact ⟨⟨(g.as.length - 1 - i, g.as[g.as.length - 1 - i]), List.getElem?_eq_getElem hlt⟩, rfl⟩
theorem marksOf_take {g : Gr} {m0 : List Bool} {xs : List (Placed g)} (hx : ∀ k x, xs[k]? = some x → x.1.1 = g.as.length - 1 - k) : ∀ k, k ≤ xs.length → marksOf m0 (xs.take k) = marksAt g m0 k
  | 0, _ => rfl
  | k + 1, hk => by
    have h : xs[k]? = some xs[k] := List.getElem?_eq_getElem (by omega)
    rw [List.take_add_one, h, Option.toList_some, marksOf_snoc, marksOf_take hx k (by omega)]
    have hp := xs[k].2
    rw [hx k _ h] at hp ⊢
    exact (marksAt_succ rfl hp).symm
end Go.Proofs.Ytbdhkagcbncefaa

set_option linter.unusedVariables false
set_option linter.unusedSimpArgs false
namespace Go.Proofs.Ytbdhkagcbncefaa
open Go.RowKit Go.Maps Go.Shelf
attribute [local go_sem] Oper.semAt_some

/-- Certain blocks are as they were. -/
def KeepQ (q : Nat → Prop) (A B : World) : Prop := ∀ i, q i → B.heap[i]? = A.heap[i]?
theorem KeepQ.refl (q : Nat → Prop) (A : World) : KeepQ q A A := fun _ _ => rfl
theorem KeepQ.trans {q : Nat → Prop} {A B C : World} (h : KeepQ q A B) (k : KeepQ q B C) : KeepQ q A C := fun i hi => (k i hi).trans (h i hi)
theorem KeepQ.cell {q : Nat → Prop} {A B : World} (h : KeepQ q A B) {b o : Nat} (hb : q b) : B.cell? ⟨b, o, none⟩ = A.cell? ⟨b, o, none⟩ := World.cell?_of_block (w := A) (h b hb)
theorem keepQ_b {q : Nat → Prop} {w : World} (hq : ∀ i, q i → i < w.heap.size) (W : World) (l : Nat) (o o' : Obj) (hl : w.heap.size ≤ l) (_h : W.heap[l]? = some o) (_ : o.isCells = false) (_ : o.isWalk = false) : KeepQ q W (W.putObj l o') :=
  fun i hi => World.putObj_heap_other (by have := hq i hi; omega)

set_option maxRecDepth 100000 in
set_option maxHeartbeats 2000000 in
theorem back1_in (F : Fence) (n : Nat) (hf : F.fn 108) (hro : F.round = none) (hn : 1 ≤ n) (g : Gr) (xs : List (Placed g)) (hxl : xs.length = g.as.length) (hx : ∀ k x, xs[k]? = some x → x.1.1 = g.as.length - 1 - k) (hgl : g.as.length ≤ 2000)
    (l Bs b off cap : Nat) (q : Nat → Prop) (hb : q b) (J Jx : List (Placed g) → World → Prop)
    (hY : ∀ pre x W, J pre W → pre.length < g.as.length → YieldAt F (n - 1) Try.prog l #[.int .i64 (x.1.1 : Int), .agg #[.int .i64 x.1.2.1, .int .i64 x.1.2.2]] W fun e W' =>
      (e = .returned (.bool true) ∧ J (pre ++ [x]) W' ∧ KeepQ q W W') ∨ (e = .returned (.bool false) ∧ Jx (pre ++ [x]) W'))
    (W : World) (hBn : q Bs) (hBs : W.cell? ⟨Bs, 0, none⟩ = some (.slice (some ⟨b, off, none⟩) g.as.length cap))
    (hc : ∀ j p, g.as[j]? = some p → W.cell? ⟨b, off + j * 2, none⟩ = some (.int .i64 p.1) ∧ W.cell? ⟨b, off + j * 2 + 1, none⟩ = some (.int .i64 p.2)) (h0 : J [] W) :
    CallsIn F n Try.prog 108 #[.func (.yield l) #[] #[], .pointer (some ⟨Bs, 0, none⟩)] W fun e W' => (∃ v, e = .returned v) ∧
      ((∃ ys, ys = xs ∧ J ys W') ∨ (∃ pre, (∃ k, k ≤ xs.length ∧ pre = xs.take k) ∧ Jx pre W')) := by
  have hnot := @not_run Try.prog
  refine callsIn_of_wp Try.func108 rfl hf ?_ hro
  simp only [Try.ntmps108, List.size_toArray, List.length_cons, List.length_nil, Nat.reduceAdd, Nat.reduceSub, Array.replicate_succ, Array.replicate_zero, List.push_toArray, List.append_toArray, List.nil_append, List.cons_append]
  gi_wp2
  gi_loopw [3] (fun i wr => ∃ j k : Nat, j + k = g.as.length ∧ i = .int .i64 ((j : Int) - 1) ∧ J (xs.take k) wr ∧ KeepQ q W wr)
    (fun i _ => ((intOf i) + 1).toNat)
  case atStart => exact ⟨g.as.length, 0, rfl, rfl, h0, KeepQ.refl _ _⟩
  case round =>
    obtain ⟨j, k, hjk, hi, hJs, hnx⟩ := hrel
    have HK := Lib.hid hnx
    have cb := (hnx.cell hBn).trans hBs
    rcases j with _ | j
    · obtain rfl : _ = Value.int .i64 (-1) := hi
      have hk : k = xs.length := by omega
      gi_wp2
      go_end0
      exact ⟨⟨_, rfl⟩, .inl ⟨_, rfl, by rw [hk, List.take_length] at hJs; exact hJs⟩⟩
    · have ei : (((j + 1 : Nat) : Int) - 1) = (j : Int) := by omega
      rw [ei] at hi
      subst hi
      have hkl : k < xs.length := by omega
      obtain ⟨x, hxk⟩ : ∃ x, xs[k]? = some x := ⟨_, List.getElem?_eq_getElem hkl⟩
      have hx1 : x.1.1 = j := by rw [hx k x hxk]; omega
      have hlt : (j : Int) < (g.as.length : Int) := by omega
      have htk : xs.take k ++ [x] = xs.take (k + 1) := by rw [List.take_add_one, hxk]; rfl
      have hp := x.2
      obtain ⟨q1, q2⟩ := hc _ _ hp
      rw [hx1] at q1 q2
      replace q1 := (hnx.cell hb).trans q1
      replace q2 := (hnx.cell hb).trans q2
      obtain ⟨fn, tmps, assign, body, hy, hR⟩ := hY _ x wr hJs (by rw [List.length_take]; omega)
      rw [hx1] at hy
      rw [htk] at hR
      clear hnx hp hxk ei hx
      gi_wp2
      refine hR.mono ?_
      rintro e W3 (⟨rfl, hJ3, hk3⟩ | ⟨rfl, hJx3⟩)
      · gi_wp2
        go_roundw
        case rel => exact ⟨j, k + 1, by omega, rfl, hJ3, HK.out.trans hk3⟩
        case measure => first | (simp [intOf]; done) | (simp [intOf]; omega)
      · gi_wp2
        refine bodyPost_ret (results_none rfl _ _ _) rfl ?_
        exact ⟨⟨_, rfl⟩, .inr ⟨xs.take (k + 1), ⟨k + 1, by omega, rfl⟩, hJx3⟩⟩

set_option maxRecDepth 100000 in
set_option maxHeartbeats 1000000 in
/-- No gate, no round. -/
theorem back1_nil_in (F : Fence) (n : Nat) (hf : F.fn 108) (hro : F.round = none) {g : Gr} (l Bs cap : Nat) (A : Option Addr) (J : List (Placed g) → World → Prop) (W : World) (hBs : W.cell? ⟨Bs, 0, none⟩ = some (.slice A 0 cap)) (h0 : J [] W) :
    CallsIn F n Try.prog 108 #[.func (.yield l) #[] #[], .pointer (some ⟨Bs, 0, none⟩)] W fun e W' => (∃ v, e = .returned v) ∧ J [] W' := by
  refine callsIn_of_wp Try.func108 rfl hf ?_ hro
  simp only [Try.ntmps108, List.size_toArray, List.length_cons, List.length_nil, Nat.reduceAdd, Nat.reduceSub, Array.replicate_succ, Array.replicate_zero, List.push_toArray, List.append_toArray, List.nil_append, List.cons_append]
  gi_wp2
  gi_loopw [3] (fun i wr => i = .int .i64 (-1) ∧ J [] wr) (fun _ _ => 0)
  case atStart => exact ⟨rfl, h0⟩
  case round =>
    obtain ⟨rfl, hJs⟩ := hrel
    gi_wp2
    go_end0
    exact ⟨⟨_, rfl⟩, hJs⟩

set_option maxHeartbeats 1000000 in
theorem back_in (F : Fence) (n : Nat) (hf : F.fn 101) (hro : F.round = none) (a : Option Addr) (len cap : Nat) (w : World) :
    CallsIn F n Try.prog 101 #[.slice a len cap] w fun e w' => e = .returned (.func (.func 108) #[] #[.pointer (some ⟨w.heap.size, 0, none⟩)]) ∧ w' = w.alloc (.cells #[.slice a len cap] 22) := by
  have hmf : ∀ (fn : Fn) (first cap : Array Value) (w : World), (Instr.makeFunc fn first cap).run Try.prog w = .ok (.func fn first cap) w := fun _ _ _ _ => rfl
  refine callsIn_of_wp Try.func101 rfl hf ?_ hro
  simp only [Try.ntmps101, List.size_toArray, List.length_cons, List.length_nil, Nat.reduceAdd, Nat.reduceSub, Array.replicate_succ, Array.replicate_zero, List.push_toArray, List.append_toArray, List.nil_append, List.cons_append]
  gi_wp2
  go_ret
  exact ⟨rfl, rfl⟩

/-- slices.Backward's value: all gates, the last one first; or the first of them. -/
theorem back_stops (F : Fence) (n : Nat) (hf : F.fn 108) (hro : F.round = none) (hn : 1 ≤ n) (g : Gr) (xs : List (Placed g)) (hxl : xs.length = g.as.length) (hx : ∀ k x, xs[k]? = some x → x.1.1 = g.as.length - 1 - k) (hgl : g.as.length ≤ 2000)
    (Bs cap : Nat) (A : Option Addr) (q : Nat → Prop) (w : World) (hq : ∀ i, q i → i < w.heap.size) (hBn : q Bs) (hBs : w.cell? ⟨Bs, 0, none⟩ = some (.slice A g.as.length cap)) (hp : PrsQ w q A g.as) :
    SeqStopsK F n Try.prog 108 #[.pointer (some ⟨Bs, 0, none⟩)] (fun x : Placed g => #[Value.int .i64 (x.1.1 : Int), .agg #[.int .i64 x.1.2.1, .int .i64 x.1.2.2]]) (KeepQ q) (fun ys => ys = xs)
      (fun pre => ∃ k, k ≤ xs.length ∧ pre = xs.take k) g.as.length w := fun l J Jx W hW _ _ hY h0 => by
  have hc' := (hW.cell (p := ⟨Bs, 0, none⟩) (hq _ hBn)).trans hBs
  have hp' : PrsQ W q A g.as := hp.below hW
  cases h : g.as with
  | nil =>
    rw [h] at hc' hxl
    have he : xs = [] := List.eq_nil_of_length_eq_zero (by simpa using hxl)
    exact (back1_nil_in F n hf hro l Bs cap A J W hc' h0).mono fun e W' ⟨he', hj⟩ => ⟨he', .inl ⟨_, he.symm, hj⟩⟩
  | cons p0 ps =>
    obtain ⟨b, o, e, hqb, _, _⟩ := hp' 0 p0 (by rw [h]; rfl)
    subst e
    refine (back1_in F n hf hro hn g xs hxl hx hgl l Bs b o cap q hqb J Jx hY W hBn hc' (fun j p hj => ?_) h0).mono ?_
    · obtain ⟨b', o', e', _, q1, q2⟩ := hp' j p hj
      injection e' with e'
      injection e' with e1 e2
      subst e1 e2
      exact ⟨q1, q2⟩
    · rintro e W' ⟨he, h⟩
      exact ⟨he, h⟩
end Go.Proofs.Ytbdhkagcbncefaa

set_option linter.unusedVariables false
set_option linter.unusedSimpArgs false
namespace Go.Proofs.Ytbdhkagcbncefaa
open Go.RowKit Go.Maps Go.Shelf
attribute [local go_sem] Oper.semAt_some

/-- A row of truth values, all false. -/
theorem make_falses (C : Int) (h1 : 0 ≤ C) (h2 : C ≤ 4001) : ∃ (V : Nat) (cs : Array Value), (V : Int) = C ∧ cs = (bools (List.replicate V false)).toArray ∧
    ∀ w : World, (Instr.makeSlice 25 (.int .i64 C) (.int .i64 C)).run Try.prog w = .ok (.slice (some ⟨w.heap.size, 0, none⟩) V V) (w.alloc (.cells cs 4)) := by
  refine ⟨C.toNat, _, by omega, rfl, fun w => ?_⟩
  obtain ⟨i, hi, hz, hs, hb⟩ := info_parts boolInfo
  have hr := run_make (P := Try.prog) w 25 4 i (.bool false) Try.underlying25 hi hz .i64 .i64 C C h1 (Int.le_refl _) (by rw [hb]; omega) (by omega)
  rw [hs, Nat.mul_one] at hr
  have e : madeCells (Value.bool false).cells C.toNat = (bools (List.replicate C.toNat false)).toArray := by
    apply Array.ext'
    apply List.ext_getElem?
    intro i
    simp [madeCells, bools, Value.cells, List.getElem?_replicate, List.getElem?_range]
    split <;> simp_all [Nat.mod_one]
  rw [e] at hr
  exact hr

theorem bools_set (m : List Bool) (i : Nat) : ((bools m).toArray).setIfInBounds i (.bool true) = (bools (m.set i true)).toArray := by
  simp [bools, List.map_set]

/-- A block of cells speaks of cells alone. -/
theorem blk_own {β : Type} (B : Nat) (t : TypeId) (f : β → Array Value) : Own (fun s W => Blk W B t (f s)) := fun s X Y row hs hg hrow => by
  refine Blk.grown (w := X) (w' := Y) hs hg fun e' => ?_
  obtain ⟨o, ho, hc⟩ := hrow B e'.symm
  rw [show X.heap[B]? = _ from hs] at ho
  cases ho
  cases hc
theorem KeepQ.alloc {q : Nat → Prop} {W : World} (hq : ∀ i, q i → i < W.heap.size) (o : Obj) : KeepQ q W (W.alloc o) := fun i hi => Below.heap_alloc W o i (hq i hi)
theorem KeepQ.setCell {q : Nat → Prop} {W : World} {p : Addr} (hq : ¬ q p.block) (u : Value) : KeepQ q W (W.setCell p u) := fun i hi => Below.heap_setCell W p u i (fun e => hq (e ▸ hi))
theorem vals_of_blk {W : World} {b : Nat} {t : TypeId} {xs : List Value} (h : Blk W b t xs.toArray) : Vals W W.heap.size (some ⟨b, 0, none⟩) xs := fun i x hi => by
  refine ⟨b, 0, rfl, h.lt, ?_⟩
  rw [h.cell (0 + i)]
  simpa using hi
theorem blk_put {W : World} {b D : Nat} {t : TypeId} {cs : Array Value} {o o' : Obj} (h : Blk W b t cs) (hD : W.heap[D]? = some o) (ho : o.isCells = false) : Blk (W.putObj D o') b t cs := by
  have hne : b ≠ D := by
    rintro rfl
    unfold Blk at h
    rw [hD] at h
    cases h
    cases ho
  exact (World.putObj_heap_other hne).trans h
theorem KeepQ.drew {q : Nat → Prop} {A B : World} (h : KeepQ q A B) : KeepQ q A B.drew := h

set_option maxRecDepth 100000 in
set_option maxHeartbeats 2000000 in
theorem cbelow_any (g : Gr) (l : Int) (A : Option Addr) (c : Nat) (w : World) (hr : rightB g = true) (hl : litB g l = true) (hp : Prs w w.heap.size A g.as) :
    Calls Try.prog 77 #[.agg #[.int .i64 g.n, .slice A g.as.length c], .int .i64 l] w (RetB w (belowG g l)) := by
  obtain ⟨g0, g1, g2, g3⟩ := (size_iff g).1 (right_size hr)
  obtain ⟨_, _, l0, l1⟩ := (litB_iff g l).1 hl
  have hmf : ∀ (fn : Fn) (first cap : Array Value) (w : World), (Instr.makeFunc fn first cap).run Try.prog w = .ok (.func fn first cap) w := fun _ _ _ _ => rfl
  obtain ⟨V, cs0, hV, hcs, hmk⟩ := make_falses (g.n + 1 + (g.as.length : Int)) (by omega) (by omega)
  have hl2 : 0 ≤ l / 2 := by omega
  have hln : l / 2 < (V : Int) := by omega
  have hc0 : cs0[(l / 2).toNat]? = some (.bool false) := by
    rw [hcs, List.getElem?_toArray]
    unfold bools
    rw [List.getElem?_map, List.getElem?_replicate, if_pos (by omega)]
    rfl
  have HCS := Lib.hid hcs
  have HVV : Hid (g.vars.toNat = V) := by show g.vars.toNat = V; unfold Gr.vars; omega
  have HV := Lib.hid hV
  have HB0 := Lib.hid (Boxed.begin_ (w := w) (g := g) (A := A) (c := c))
  have b0 := HB0.out.c0
  have b1 := HB0.out.c1
  have HP := Lib.hid hp
  have HR := Lib.hid hr
  clear hcs hp hV hr
  refine (callsIn_wide (n := 3)).1 ?_
  refine callsIn_of_wp_marks Try.func77 rfl trivial ?_ rfl
  simp only [Try.ntmps77, List.size_toArray, List.length_cons, List.length_nil, Nat.reduceAdd, Nat.reduceSub, Array.replicate_succ, Array.replicate_zero, List.push_toArray, List.append_toArray, List.nil_append, List.cons_append]
  gi_wp2_with (refine ⟨trivial, ?_⟩; gi_at_call 101; refine (back_in Fence.wide 2 trivial rfl _ _ _ _).mono ?_; rintro e w' ⟨rfl, rfl⟩)
  have hset : cs0.setIfInBounds (l / 2).toNat (.bool true) = (bools (mark0 g l)).toArray := by
    rw [HCS.out, bools_set]
    unfold mark0
    rw [HVV.out]
  rw [hset]
  have B1 := Blk.new w 24 #[.int .i64 g.n, .slice A g.as.length c]
  have B2 := Blk.new (w.alloc (.cells #[.int .i64 g.n, .slice A g.as.length c] 24)) 4 (bools (mark0 g l)).toArray
  have B3 := Blk.new ((w.alloc (.cells #[.int .i64 g.n, .slice A g.as.length c] 24)).alloc (.cells (bools (mark0 g l)).toArray 4)) 25 #[.slice (some ⟨w.heap.size + 1, 0, none⟩) V V]
  have B4 := Blk.new (((w.alloc (.cells #[.int .i64 g.n, .slice A g.as.length c] 24)).alloc (.cells (bools (mark0 g l)).toArray 4)).alloc (.cells #[.slice (some ⟨w.heap.size + 1, 0, none⟩) V V] 25)) 22 #[.slice A g.as.length c]
  replace B1 := ((B1.alloc (.cells (bools (mark0 g l)).toArray 4)).alloc (.cells #[.slice (some ⟨w.heap.size + 1, 0, none⟩) V V] 25)).alloc (.cells #[.slice A g.as.length c] 22)
  replace B2 := (B2.alloc (.cells #[.slice (some ⟨w.heap.size + 1, 0, none⟩) V V] 25)).alloc (.cells #[.slice A g.as.length c] 22)
  replace B3 := B3.alloc (.cells #[.slice A g.as.length c] 22)
  simp only [World.size_alloc] at B2 B3 B4
  have hB0 : Below w.heap.size w ((((w.alloc (.cells #[.int .i64 g.n, .slice A g.as.length c] 24)).alloc (.cells (bools (mark0 g l)).toArray 4)).alloc (.cells #[.slice (some ⟨w.heap.size + 1, 0, none⟩) V V] 25)).alloc (.cells #[.slice A g.as.length c] 22)) := (((((Below.refl _ w).alloc (Nat.le_refl _) _).alloc (by simp) _).alloc (by simp; omega) _).alloc (by simp; omega) _)
  have hsz : ((((w.alloc (.cells #[.int .i64 g.n, .slice A g.as.length c] 24)).alloc (.cells (bools (mark0 g l)).toArray 4)).alloc (.cells #[.slice (some ⟨w.heap.size + 1, 0, none⟩) V V] 25)).alloc (.cells #[.slice A g.as.length c] 22)).heap.size = w.heap.size + 4 := by simp
  obtain ⟨W0, hW0⟩ : ∃ W0, (((w.alloc (.cells #[.int .i64 g.n, .slice A g.as.length c] 24)).alloc (.cells (bools (mark0 g l)).toArray 4)).alloc (.cells #[.slice (some ⟨w.heap.size + 1, 0, none⟩) V V] 25)).alloc (.cells #[.slice A g.as.length c] 22) = W0 := ⟨_, rfl⟩
  rw [hW0] at B1 B2 B3 B4 hB0 hsz ⊢
  clear hW0 b0 b1 hmk hset hc0
  obtain ⟨xs, hxl, hxx⟩ := placed_all g
  have hq : ∀ i, (i < w.heap.size ∨ i = w.heap.size + 3) → i < w.heap.size + 4 := fun i h => by omega
  refine wpIn_rangeFunc_ownH (w := W0) rfl (by omega) (gf := 108) (lb := #[.pointer (some ⟨w.heap.size + 1 + 1 + 1, 0, none⟩)]) rfl trivial (enters_of Try.func108 (by kernel_rfl) rfl)
    (back_stops Fence.wide 2 trivial rfl (by omega) g xs hxl hxx g2 (w.heap.size + 1 + 1 + 1) c A (fun i => i < w.heap.size ∨ i = w.heap.size + 3) W0 (by rw [hsz]; exact hq) (.inr rfl) (B4.cell 0) (((HP.out.below hB0).q).imp fun b hb _ => .inl hb))
    KeepQ.trans (keepQ_b (by rw [hsz]; exact hq)) (Below.refl _ _) (fun _ => rfl)
    (fun pre W => (((Blk W w.heap.size 24 #[.int .i64 g.n, .slice A g.as.length c] ∧ Blk W (w.heap.size + 1) 4 (bools (marksOf (mark0 g l) pre)).toArray) ∧ Blk W (w.heap.size + 1 + 1) 25 #[.slice (some ⟨w.heap.size + 1, 0, none⟩) V V]) ∧ Blk W (w.heap.size + 1 + 1 + 1) 22 #[.slice A g.as.length c]) ∧ Below w.heap.size w W)
    (fun _ _ _ => False)
    (OwnFrom.and (OwnFrom.and (OwnFrom.and (OwnFrom.and (Own.from (blk_own _ _ (fun _ => #[.int .i64 g.n, .slice A g.as.length c])) _) (Own.from (blk_own _ _ (fun pre => (bools (marksOf (mark0 g l) pre)).toArray)) _)) (Own.from (blk_own _ _ (fun _ => #[.slice (some ⟨w.heap.size + 1, 0, none⟩) V V])) _)) (Own.from (blk_own _ _ (fun _ => #[.slice A g.as.length c])) _)) (ownFrom_below (Nat.le_refl _) (by rw [hsz]; omega)))
    (fun _ _ _ _ _ hs _ _ => hs)
    ⟨⟨⟨⟨B1, B2⟩, B3⟩, B4⟩, hB0⟩
    (fun x a' W => ∃ Bx, w.heap.size + 3 < Bx ∧ Blk W Bx 41 #[.int .i64 x.1.2.1, .int .i64 x.1.2.2] ∧ a' = { tmps := #[.agg #[.int .i64 g.n, .slice A g.as.length c], .int .i64 l, .pointer (some ⟨w.heap.size, 0, none⟩), undef, .slice none 0 0, .pointer (some ⟨w.heap.size + 1 + 1, 0, none⟩), .int .i64 (x.1.1 : Int), .pointer (some ⟨Bx, 0, none⟩), .pointer (some ⟨w.heap.size, 0, none⟩), .int .i64 g.n, .int .i64 (g.n + 1), .pointer (some ⟨w.heap.size, 1, none⟩), .slice A g.as.length c, .int .i64 (g.as.length : Int), .int .i64 (g.n + 1 + (g.as.length : Int)), .slice (some ⟨w.heap.size + 1, 0, none⟩) V V, .slice (some ⟨w.heap.size + 1, 0, none⟩) V V, .int .i64 l, .int .i64 (l / 2), .pointer (some ⟨w.heap.size + 1, (l / 2).toNat, none⟩), .pointer (some ⟨w.heap.size, 1, none⟩), .slice A g.as.length c, .func (.func 108) #[] #[.pointer (some ⟨w.heap.size + 1 + 1 + 1, 0, none⟩)], .int .i64 (x.1.1 : Int), .agg #[.int .i64 x.1.2.1, .int .i64 x.1.2.2], undef, undef, undef, undef, undef, undef, undef, undef, undef, undef, undef, undef, undef, undef, undef, undef, undef, undef, undef], defers := [] })
    (fun x a' _ X Y row hs hg hr => by obtain ⟨Bx, h1, h2, h3⟩ := hs; exact ⟨Bx, h1, blk_own Bx 41 (fun (_ : Unit) => #[.int .i64 x.1.2.1, .int .i64 x.1.2.2]) () X Y row h2 hg (fun r e => (hr r e).2), h3⟩)
    ?assign ?body ?done ?stop
  case assign =>
    rintro l' pre x W K ⟨⟨⟨⟨b1, b2⟩, b3⟩, b4⟩, hB⟩ hK
    gi_wp2
    have hlt := b4.lt
    exact hK _ _ ((KeepsOthers.alloc _ _).from _) (KeepQ.alloc (fun i hi => by omega) _) ⟨⟨⟨⟨b1.alloc _, b2.alloc _⟩, b3.alloc _⟩, b4.alloc _⟩, hB.alloc hB.size _⟩ ⟨W.heap.size, by omega, Blk.new W _ _, rfl⟩
  case body =>
    rintro l' pre x a' W hl' ⟨r, hr⟩ ⟨⟨⟨⟨b1, b2⟩, b3⟩, b4⟩, hB⟩ ⟨Bx, hBx, bX, rfl⟩ hlt
    obtain ⟨_, hall, _⟩ := (right_iff g).1 HR.out
    obtain ⟨m1, m2, m3⟩ := (of_decide_eq_true (hall _ _ x.2) : 2 ≤ x.1.2.2 ∧ x.1.2.2 / 2 < x.1.2.1 / 2 ∧ x.1.2.1 / 2 < g.n + 1 + (x.1.1 : Nat))
    have hil : x.1.1 < g.as.length := (List.getElem?_eq_some_iff.1 x.2).1
    have hml : (marksOf (mark0 g l) pre).length = V := by rw [marksOf_length, mark0_length, HVV.out]
    have hVV := HV.out
    have i1 : 0 ≤ g.n + 1 + ((x.1.1 : Nat) : Int) := by omega
    have i2 : g.n + 1 + ((x.1.1 : Nat) : Int) < (V : Int) := by omega
    have HSN : Hid (marksOf (mark0 g l) (pre ++ [x]) = mark g.n (marksOf (mark0 g l) pre) x.1.1 x.1.2) := marksOf_snoc _ _ _
    obtain ⟨bit, hbit⟩ : ∃ y, (marksOf (mark0 g l) pre)[(g.n + 1 + ((x.1.1 : Nat) : Int)).toNat]? = some y := ⟨_, List.getElem?_eq_getElem (by rw [hml]; omega)⟩
    obtain ⟨y1, hy1⟩ : ∃ y, (marksOf (mark0 g l) pre)[(x.1.2.1 / 2).toNat]? = some y := ⟨_, List.getElem?_eq_getElem (by rw [hml]; omega)⟩
    have hy2l : (x.1.2.2 / 2).toNat < (marksOf (mark0 g l) pre).length := by rw [hml]; omega
    have hl1 : x.1.2.1 / 2 < (V : Int) := by omega
    have hl2' : x.1.2.2 / 2 < (V : Int) := by omega
    clear hVV
    have cmk : W.cell? ⟨w.heap.size + 1, (g.n + 1 + ((x.1.1 : Nat) : Int)).toNat, none⟩ = some (.bool bit) := by
      rw [b2.cell, List.getElem?_toArray]
      exact bools_get hbit
    have cg0 : W.cell? ⟨w.heap.size, 0, none⟩ = some (.int .i64 g.n) := b1.cell 0
    have cv : W.cell? ⟨w.heap.size + 1 + 1, 0, none⟩ = some (.slice (some ⟨w.heap.size + 1, 0, none⟩) V V) := b3.cell 0
    have hlt4 := b4.lt
    generalize marksOf (mark0 g l) pre = m at hml hbit hy1 hy2l b2 HSN
    cases bit
    · rw [mark_no hbit] at HSN
      gi_wp2
      exact ⟨KeepsFrom.refl _ _, KeepQ.refl _ _, ⟨⟨⟨b1, by rw [HSN.out]; exact b2⟩, b3⟩, b4⟩, hB⟩
    · rw [mark_yes hbit] at HSN
      have cp1 : W.cell? ⟨Bx, 0, none⟩ = some (.int .i64 x.1.2.1) := bX.cell 0
      have cp2 : W.cell? ⟨Bx, 1, none⟩ = some (.int .i64 x.1.2.2) := bX.cell 1
      have hw1 : IntKind.i64.wrap (Int.tdiv x.1.2.1 2) = x.1.2.1 / 2 := by
        rw [Int.tdiv_eq_ediv_of_nonneg (by omega)]
        exact IntWalk.i64_in _ (by omega)
      have hw2 : IntKind.i64.wrap (Int.tdiv x.1.2.2 2) = x.1.2.2 / 2 := by
        rw [Int.tdiv_eq_ediv_of_nonneg (by omega)]
        exact IntWalk.i64_in _ (by omega)
      have j1 : 0 ≤ x.1.2.1 / 2 := by omega
      have j3 : 0 ≤ x.1.2.2 / 2 := by omega
      have e1 : W.cell? ⟨w.heap.size + 1, (x.1.2.1 / 2).toNat, none⟩ = some (.bool y1) := by
        rw [b2.cell, List.getElem?_toArray]
        exact bools_get hy1
      have f1 : W.frozen? ⟨w.heap.size + 1, (x.1.2.1 / 2).toNat, none⟩ = false := b2.frozen _
      have b2' := b2.set_ (x.1.2.1 / 2).toNat (.bool true)
      rw [bools_set] at b2'
      have b2'' := b2'.set_ (x.1.2.2 / 2).toNat (.bool true)
      rw [bools_set] at b2''
      have HB2 := Lib.hid b2''
      have f2 : (W.setCell ⟨w.heap.size + 1, (x.1.2.1 / 2).toNat, none⟩ (.bool true)).frozen? ⟨w.heap.size + 1, (x.1.2.2 / 2).toNat, none⟩ = false := b2'.frozen _
      obtain ⟨y2, hy2⟩ : ∃ y, (m.set (x.1.2.1 / 2).toNat true)[(x.1.2.2 / 2).toNat]? = some y := ⟨_, List.getElem?_eq_getElem (by rw [List.length_set]; exact hy2l)⟩
      have e2 : (W.setCell ⟨w.heap.size + 1, (x.1.2.1 / 2).toNat, none⟩ (.bool true)).cell? ⟨w.heap.size + 1, (x.1.2.2 / 2).toNat, none⟩ = some (.bool y2) := by
        rw [b2'.cell, List.getElem?_toArray]
        exact bools_get hy2
      have hqn : ¬ (w.heap.size + 1 < w.heap.size ∨ w.heap.size + 1 = w.heap.size + 3) := by omega
      have HSS : Hid (∀ p : Addr, p.block = w.heap.size + 1 → ∀ (W' : World) (u : Value), (W'.cell? ⟨w.heap.size + 1 + 1, 0, none⟩ = some (.slice (some ⟨w.heap.size + 1, 0, none⟩) V V) ∧ W'.cell? ⟨Bx, 0, none⟩ = some (.int .i64 x.1.2.1) ∧ W'.cell? ⟨Bx, 1, none⟩ = some (.int .i64 x.1.2.2)) →
          ((W'.setCell p u).cell? ⟨w.heap.size + 1 + 1, 0, none⟩ = some (.slice (some ⟨w.heap.size + 1, 0, none⟩) V V) ∧ (W'.setCell p u).cell? ⟨Bx, 0, none⟩ = some (.int .i64 x.1.2.1) ∧ (W'.setCell p u).cell? ⟨Bx, 1, none⟩ = some (.int .i64 x.1.2.2))) := fun p hp W' u h => by
        refine ⟨?_, ?_, ?_⟩
        · rw [World.cell?_setCell_far _ _ _ _ (by rw [hp]; simp)]; exact h.1
        · rw [World.cell?_setCell_far _ _ _ _ (by rw [hp]; simp; omega)]; exact h.2.1
        · rw [World.cell?_setCell_far _ _ _ _ (by rw [hp]; simp; omega)]; exact h.2.2
      clear b2' b2'' hy2 hy1 hbit
      gi_wp2
      refine wpIn_region_noPanic ?_
      refine wpIn_region_seq (fun W => W.cell? ⟨w.heap.size + 1 + 1, 0, none⟩ = some (.slice (some ⟨w.heap.size + 1, 0, none⟩) V V) ∧ W.cell? ⟨Bx, 0, none⟩ = some (.int .i64 x.1.2.1) ∧ W.cell? ⟨Bx, 1, none⟩ = some (.int .i64 x.1.2.2)) [0, 1, 2, 3, 4, 5, 6, 7, 8, 9, 10, 11] [0, 1, 2, 3, 4, 5, 6, 7, 8, 10] [] (by kernel_rfl) (by kernel_rfl) (by kernel_rfl) rfl (by kernel_rfl) (by kernel_rfl) (fun _ _ _ _ _ h => h) ?_ (fun hSS => ?_)
      · exact ⟨cv, cp1, cp2⟩
      (refine wpSeqIn_mov rfl rfl ?_; intro o ho; simp only [List.getElem?_toArray, List.getElem?_cons_zero, List.getElem?_cons_succ, Option.some.injEq] at ho; subst ho; refine ⟨?_, fun _ _ => rfl⟩; refine ⟨?_, Or.inl ⟨by rfl, fun W hSW => ?_⟩, ?_⟩; rotate_left; (focus (go_simp; first | done | with_reducible rfl)); try simp only [Act.put, List.setIfInBounds_toArray, List.set_cons_zero, List.set_cons_succ])
      (refine wpSeqIn_mov rfl rfl ?_; intro o ho; simp only [List.getElem?_toArray, List.getElem?_cons_zero, List.getElem?_cons_succ, Option.some.injEq] at ho; subst ho; refine ⟨?_, fun _ _ => rfl⟩; refine ⟨?_, Or.inl ⟨by rfl, fun W hSW => ?_⟩, ?_⟩; rotate_left; (focus (go_simp; first | done | with_reducible rfl)); try simp only [Act.put, List.setIfInBounds_toArray, List.set_cons_zero, List.set_cons_succ])
      (refine wpSeqIn_mov rfl rfl ?_; intro o ho; simp only [List.getElem?_toArray, List.getElem?_cons_zero, List.getElem?_cons_succ, Option.some.injEq] at ho; subst ho; refine ⟨?_, fun _ _ => rfl⟩; refine ⟨?_, Or.inl ⟨by rfl, fun W hSW => ?_⟩, ?_⟩; rotate_left; (focus (go_simp; first | done | with_reducible rfl)); try simp only [Act.put, List.setIfInBounds_toArray, List.set_cons_zero, List.set_cons_succ])
      (refine wpSeqIn_mov rfl rfl ?_; intro o ho; simp only [List.getElem?_toArray, List.getElem?_cons_zero, List.getElem?_cons_succ, Option.some.injEq] at ho; subst ho; refine ⟨?_, fun _ _ => rfl⟩; refine ⟨?_, Or.inl ⟨by rfl, fun W hSW => ?_⟩, ?_⟩; rotate_left; (focus (go_simp; first | done | with_reducible rfl)); try simp only [Act.put, List.setIfInBounds_toArray, List.set_cons_zero, List.set_cons_succ])
      (refine wpSeqIn_mov rfl rfl ?_; intro o ho; simp only [List.getElem?_toArray, List.getElem?_cons_zero, List.getElem?_cons_succ, Option.some.injEq] at ho; subst ho; refine ⟨?_, fun _ _ => rfl⟩; refine ⟨?_, Or.inl ⟨by rfl, fun W hSW => ?_⟩, ?_⟩; rotate_left; (focus (go_simp; first | done | with_reducible rfl)); try simp only [Act.put, List.setIfInBounds_toArray, List.set_cons_zero, List.set_cons_succ])
      (refine wpSeqIn_mov rfl rfl ?_; intro o ho; simp only [List.getElem?_toArray, List.getElem?_cons_zero, List.getElem?_cons_succ, Option.some.injEq] at ho; subst ho; refine ⟨?_, fun _ _ => rfl⟩; refine ⟨?_, Or.inl ⟨by rfl, fun W hSW => ?_⟩, ?_⟩; rotate_left; (focus (go_simp; first | done | with_reducible rfl)); try simp only [Act.put, List.setIfInBounds_toArray, List.set_cons_zero, List.set_cons_succ])
      (refine wpSeqIn_mov rfl rfl ?_; intro o ho; simp only [List.getElem?_toArray, List.getElem?_cons_zero, List.getElem?_cons_succ, Option.some.injEq] at ho; subst ho; refine ⟨?_, fun _ _ => rfl⟩; refine ⟨?_, Or.inl ⟨by rfl, fun W hSW => ?_⟩, ?_⟩; rotate_left; (focus (go_simp; first | done | with_reducible rfl)); try simp only [Act.put, List.setIfInBounds_toArray, List.set_cons_zero, List.set_cons_succ])
      (refine wpSeqIn_mov rfl rfl ?_; intro o ho; simp only [List.getElem?_toArray, List.getElem?_cons_zero, List.getElem?_cons_succ, Option.some.injEq] at ho; subst ho; refine ⟨?_, fun _ _ => rfl⟩; refine ⟨?_, Or.inl ⟨by rfl, fun W hSW => ?_⟩, ?_⟩; rotate_left; (focus (go_simp; first | done | with_reducible rfl)); try simp only [Act.put, List.setIfInBounds_toArray, List.set_cons_zero, List.set_cons_succ])
      (refine wpSeqIn_mov rfl rfl ?_; intro o ho; simp only [List.getElem?_toArray, List.getElem?_cons_zero, List.getElem?_cons_succ, Option.some.injEq] at ho; subst ho; refine ⟨?_, fun _ _ => rfl⟩; refine ⟨?_, Or.inl ⟨by rfl, fun W hSW => ?_⟩, ?_⟩; rotate_left; (focus (go_simp; first | done | with_reducible rfl)); try simp only [Act.put, List.setIfInBounds_toArray, List.set_cons_zero, List.set_cons_succ])
      (refine wpSeqIn_fix rfl rfl ?_; intro o ho; simp only [List.getElem?_toArray, List.getElem?_cons_zero, List.getElem?_cons_succ, Option.some.injEq] at ho; subst ho; intro K hK)
      go_simp
      (refine hK.out _ _ (fun _ => HSS.out _ rfl _ _ hSS) ?_; clear hK K; try simp only [Act.put, List.setIfInBounds_toArray, List.set_cons_zero, List.set_cons_succ])
      (refine wpSeqIn_mov rfl rfl ?_; intro o ho; simp only [List.getElem?_toArray, List.getElem?_cons_zero, List.getElem?_cons_succ, Option.some.injEq] at ho; subst ho; refine ⟨?_, fun _ _ => rfl⟩; refine ⟨?_, Or.inl ⟨by rfl, fun W hSW => ?_⟩, ?_⟩; rotate_left; (focus (go_simp; first | done | with_reducible rfl)); try simp only [Act.put, List.setIfInBounds_toArray, List.set_cons_zero, List.set_cons_succ])
      (refine wpSeqIn_fix rfl rfl ?_; intro o ho; simp only [List.getElem?_toArray, List.getElem?_cons_zero, List.getElem?_cons_succ, Option.some.injEq] at ho; subst ho; intro K hK)
      go_simp
      (refine hK.out _ _ (fun _ => HSS.out _ rfl _ _ (HSS.out _ rfl _ _ hSS)) ?_; clear hK K; try simp only [Act.put, List.setIfInBounds_toArray, List.set_cons_zero, List.set_cons_succ])
      refine wpSeqIn_done ?_
      have hB1 : Below w.heap.size W ((W.setCell ⟨w.heap.size + 1, (x.1.2.1 / 2).toNat, none⟩ (.bool true)).setCell ⟨w.heap.size + 1, (x.1.2.2 / 2).toNat, none⟩ (.bool true)) := ((Below.refl _ W).setCell (by simp) _).setCell (by simp) _
      exact ⟨(((KeepsOthers.setCell _ _ _).trans (KeepsOthers.setCell _ _ _)).trans (KeepsOthers.drew _)).from _, (KeepQ.setCell (p := ⟨w.heap.size + 1, (x.1.2.1 / 2).toNat, none⟩) hqn _).trans (KeepQ.setCell (p := ⟨w.heap.size + 1, (x.1.2.2 / 2).toNat, none⟩) hqn _),
        ⟨⟨⟨(b1.far (p := ⟨w.heap.size + 1, (x.1.2.1 / 2).toNat, none⟩) (by simp) _).far (p := ⟨w.heap.size + 1, (x.1.2.2 / 2).toNat, none⟩) (by simp) _, by rw [HSN.out]; exact HB2.out⟩, (b3.far (p := ⟨w.heap.size + 1, (x.1.2.1 / 2).toNat, none⟩) (by simp) _).far (p := ⟨w.heap.size + 1, (x.1.2.2 / 2).toNat, none⟩) (by simp) _⟩, (b4.far (p := ⟨w.heap.size + 1, (x.1.2.1 / 2).toNat, none⟩) (by simp; omega) _).far (p := ⟨w.heap.size + 1, (x.1.2.2 / 2).toNat, none⟩) (by simp; omega) _⟩, (hB.trans hB1).drew⟩
  case done =>
    rintro D ys W hD rfl ⟨⟨⟨⟨b1, b2⟩, b3⟩, b4⟩, hB⟩ hK
    have cv := b3.cell 0
    gi_wp2
    refine ⟨by simp, .inl ⟨_, _, rfl, run_takeDeferred hK, ?_⟩⟩
    refine ⟨_, results_tmp rfl _ _ _, ?_⟩
    have hbl : (belowG g l).length = V := by rw [belowG_length, HVV.out]
    have hmm : marksOf (mark0 g l) ys = belowG g l := by
      have := marksOf_take (m0 := mark0 g l) hxx ys.length (Nat.le_refl _)
      rw [List.take_length, hxl] at this
      exact this
    rw [hmm] at b2
    refine ⟨some ⟨w.heap.size + 1, 0, none⟩, V, ?_, by omega, vals_of_blk (blk_put b2 hK rfl), hB.trans (belowK_b (w := w) (Nat.le_refl _) W D _ _ (by omega) hK rfl rfl)⟩
    rw [hbl]
    rfl
  case stop =>
    rintro D c' pre W _ _ h _
    exact h.elim
end Go.Proofs.Ytbdhkagcbncefaa

namespace Go.Proofs.Ytbdhkagcbncefaa

/-- A graph's literal as one of clauses. -/
def litC (l : Int) : Int := if l % 2 = 1 then -(l / 2 + 1) else l / 2 + 1

/-- The clauses of a gate. -/
def gateC (n : Int) (i : Nat) (p : Pr) : List (List Int) :=
  [[-(n + 1 + i + 1), litC p.1], [-(n + 1 + i + 1), litC p.2], [n + 1 + i + 1, -litC p.1, -litC p.2]]

/-- The clauses of so many gates, of those that are marked. -/
def clausesAt (g : Gr) (l : Int) : Nat → List (List Int)
  | 0 => [[-1]]
  | k + 1 => match g.as[k]? with
    | some p => if (belowG g l)[(g.n + 1 + k).toNat]?.getD false then clausesAt g l k ++ gateC g.n k p else clausesAt g l k
    | none => clausesAt g l k

theorem clausesAt_yes {g : Gr} {l : Int} {k : Nat} {p : Pr} (h : g.as[k]? = some p) (hm : (belowG g l)[(g.n + 1 + k).toNat]? = some true) : clausesAt g l (k + 1) = clausesAt g l k ++ gateC g.n k p := by
  rw [clausesAt, h, hm]
  rfl
theorem clausesAt_no {g : Gr} {l : Int} {k : Nat} {p : Pr} (h : g.as[k]? = some p) (hm : (belowG g l)[(g.n + 1 + k).toNat]? = some false) : clausesAt g l (k + 1) = clausesAt g l k := by
  rw [clausesAt, h, hm]
  rfl

theorem clausesAt_length (g : Gr) (l : Int) : ∀ k, (clausesAt g l k).length ≤ 1 + 3 * k
  | 0 => Nat.le_refl _
  | k + 1 => by
    have := clausesAt_length g l k
    rw [clausesAt]
    split
    · split
      · simp only [List.length_append, gateC, List.length_cons, List.length_nil]
        omega
      · omega
    · omega

/-- What cnf.Of answers: variables, clauses, the error. -/
def cnfG (g : Gr) (l : Int) : Int × List (List Int) × Int :=
  if rightB g && litB g l then (g.vars, clausesAt g l g.as.length, 0) else (0, [], 1)

theorem cnfG_yes {g : Gr} {l : Int} (h : rightB g = true) (h' : litB g l = true) : cnfG g l = (g.vars, clausesAt g l g.as.length, 0) := by
  unfold cnfG
  rw [h, h']
  rfl
theorem cnfG_no1 {g : Gr} {l : Int} (h : rightB g = false) : cnfG g l = (0, [], 1) := by
  unfold cnfG
  rw [h]
  rfl
theorem cnfG_no2 {g : Gr} {l : Int} (h : litB g l = false) : cnfG g l = (0, [], 1) := by
  unfold cnfG
  rw [h, Bool.and_false]
  rfl

/-- A literal may be. -/
def oddX (v x : Int) : Bool := x == 0 || (decide (v < x) || decide (x < -v))
def rightC (v : Int) (cs : List (List Int)) : Bool := decide (0 ≤ v) && decide (v ≤ 2000) && decide (cs.length ≤ 100000) && !cs.any (fun l => l.any (oddX v))

/-- A literal is so. -/
def soX (m : List Bool) (x : Int) : Bool := if 0 < x then m[(x - 1).toNat]?.getD false else if x < 0 then !(m[(-x - 1).toNat]?.getD false) else false
def soC (v : Int) (cs : List (List Int)) (m : List Bool) : Bool := rightC v cs && decide ((m.length : Int) = v) && !cs.any (fun l => !l.any (soX m))

theorem oddX_no {v x : Int} : oddX v x = false ↔ x ≠ 0 ∧ x ≤ v ∧ -v ≤ x := by
  unfold oddX
  rw [Bool.or_eq_false_iff, Bool.or_eq_false_iff]
  simp only [beq_eq_false_iff_ne, decide_eq_false_iff_not, Int.not_lt, ne_eq]

theorem rightC_iff {v : Int} {cs : List (List Int)} : rightC v cs = true ↔ 0 ≤ v ∧ v ≤ 2000 ∧ cs.length ≤ 100000 ∧ ∀ l ∈ cs, ∀ x ∈ l, x ≠ 0 ∧ x ≤ v ∧ -v ≤ x := by
  unfold rightC
  simp only [Bool.and_eq_true, decide_eq_true_eq, Bool.not_eq_true', List.any_eq_false, Bool.not_eq_true]
  constructor
  · rintro ⟨⟨⟨h1, h2⟩, h3⟩, h4⟩
    exact ⟨h1, h2, h3, fun l hl x hx => oddX_no.1 (h4 l hl x hx)⟩
  · rintro ⟨h1, h2, h3, h4⟩
    exact ⟨⟨⟨h1, h2⟩, h3⟩, fun l hl x hx => oddX_no.2 (h4 l hl x hx)⟩
end Go.Proofs.Ytbdhkagcbncefaa

set_option linter.unusedVariables false
set_option linter.unusedSimpArgs false
namespace Go.Proofs.Ytbdhkagcbncefaa

/-- How many of so many gates are marked. -/
def gatesAt (g : Gr) (l : Int) : Nat → Nat
  | 0 => 0
  | k + 1 => if (belowG g l)[(g.n + 1 + k).toNat]?.getD false then gatesAt g l k + 1 else gatesAt g l k
/-- How many gates stand below a literal. -/
def gatesG (g : Gr) (l : Int) : Nat := if rightB g && litB g l then gatesAt g l g.as.length else 0

theorem gatesAt_le (g : Gr) (l : Int) : ∀ k, gatesAt g l k ≤ k
  | 0 => Nat.le_refl _
  | k + 1 => by
    have := gatesAt_le g l k
    rw [gatesAt]
    split <;> omega
theorem gatesG_le (g : Gr) (l : Int) : gatesG g l ≤ g.as.length := by
  unfold gatesG
  split
  · exact gatesAt_le g l _
  · omega
theorem gatesAt_yes {g : Gr} {l : Int} {k : Nat} (hm : (belowG g l)[(g.n + 1 + k).toNat]? = some true) : gatesAt g l (k + 1) = gatesAt g l k + 1 := by
  rw [gatesAt, hm]
  rfl
theorem gatesAt_no {g : Gr} {l : Int} {k : Nat} (hm : (belowG g l)[(g.n + 1 + k).toNat]? = some false) : gatesAt g l (k + 1) = gatesAt g l k := by
  rw [gatesAt, hm]
  rfl

theorem clausesAt_many (g : Gr) (l : Int) : ∀ k, k ≤ g.as.length → (clausesAt g l k).length = 1 + 3 * gatesAt g l k
  | 0, _ => rfl
  | k + 1, hk => by
    have ih := clausesAt_many g l k (by omega)
    rw [clausesAt, gatesAt, List.getElem?_eq_getElem (by omega : k < g.as.length)]
    simp only
    split
    · simp only [List.length_append, gateC, List.length_cons, List.length_nil, ih]
      omega
    · exact ih

theorem mark0_half {g : Gr} {l m : Int} (h : l / 2 = m / 2) : mark0 g l = mark0 g m := by
  unfold mark0
  rw [h]
theorem belowG_half {g : Gr} {l m : Int} (h : l / 2 = m / 2) : belowG g l = belowG g m := by
  unfold belowG
  rw [mark0_half h]
theorem clausesAt_half {g : Gr} {l m : Int} (h : l / 2 = m / 2) : ∀ k, clausesAt g l k = clausesAt g m k
  | 0 => rfl
  | k + 1 => by
    rw [clausesAt, clausesAt, belowG_half h, clausesAt_half h k]
theorem flip_half {l : Int} : flip l / 2 = l / 2 := by
  unfold flip
  split <;> omega

/-- All clauses that a graph's literal makes are of numbers that may be. -/
theorem litC_in {l v : Int} (h0 : 0 ≤ l) (h1 : l / 2 < v) : litC l ≠ 0 ∧ litC l ≤ v ∧ -v ≤ litC l := by
  unfold litC
  split <;> omega
theorem clausesAt_in {g : Gr} (hr : rightB g = true) (l : Int) : ∀ k, k ≤ g.as.length → ∀ c ∈ clausesAt g l k, ∀ x ∈ c, x ≠ 0 ∧ x ≤ g.vars ∧ -g.vars ≤ x
  | 0, _ => fun c hc x hx => by
    obtain ⟨⟨h1, h2, h3, h4⟩, _⟩ := (right_iff g).1 hr
    simp only [clausesAt, List.mem_cons, List.not_mem_nil, or_false] at hc
    subst hc
    simp only [List.mem_cons, List.not_mem_nil, or_false] at hx
    subst hx
    unfold Gr.vars
    omega
  | k + 1, hk => fun c hc x hx => by
    have ih := clausesAt_in hr l k (by omega)
    obtain ⟨⟨h1, h2, h3, h4⟩, hall, _⟩ := (right_iff g).1 hr
    have hp := List.getElem?_eq_getElem (by omega : k < g.as.length)
    obtain ⟨m1, m2, m3⟩ := (of_decide_eq_true (hall k _ hp) : 2 ≤ (g.as[k]).2 ∧ (g.as[k]).2 / 2 < (g.as[k]).1 / 2 ∧ (g.as[k]).1 / 2 < g.n + 1 + k)
    rw [clausesAt, hp] at hc
    simp only at hc
    have hv : g.vars = g.n + 1 + g.as.length := rfl
    obtain ⟨a1, a2, a3⟩ := litC_in (l := (g.as[k]).1) (v := g.vars) (by omega) (by omega)
    obtain ⟨b1, b2, b3⟩ := litC_in (l := (g.as[k]).2) (v := g.vars) (by omega) (by omega)
    split at hc
    · rcases List.mem_append.1 hc with hc | hc
      · exact ih c hc x hx
      · simp only [gateC, List.mem_cons, List.not_mem_nil, or_false] at hc
        rcases hc with rfl | rfl | rfl <;> simp only [List.mem_cons, List.not_mem_nil, or_false] at hx
        · rcases hx with rfl | rfl <;> omega
        · rcases hx with rfl | rfl <;> omega
        · rcases hx with rfl | rfl | rfl <;> omega
    · exact ih c hc x hx
theorem rightC_of {g : Gr} (hr : rightB g = true) (l : Int) : rightC g.vars (clausesAt g l g.as.length) = true := by
  obtain ⟨⟨h1, h2, h3, h4⟩, _⟩ := (right_iff g).1 hr
  have := clausesAt_length g l g.as.length
  exact rightC_iff.2 ⟨by unfold Gr.vars; omega, by unfold Gr.vars; omega, by omega, clausesAt_in hr l _ (Nat.le_refl _)⟩

/-- A literal's clause number is so just if the literal is. -/
theorem soX_lit (m : List Bool) {l : Int} (h0 : 0 ≤ l) : soX m (litC l) = bitB m l ∧ soX m (-litC l) = !bitB m l := by
  unfold soX bitB litC
  by_cases h : l % 2 = 1
  · rw [if_pos h, decide_eq_true h, if_neg (by omega), if_pos (by omega), if_pos (by omega), show (-(-(l / 2 + 1)) - 1).toNat = (l / 2).toNat from by omega]
    cases m[(l / 2).toNat]?.getD false <;> exact ⟨rfl, rfl⟩
  · rw [if_neg h, decide_eq_false h, if_pos (by omega), if_neg (by omega), if_pos (by omega), show (l / 2 + 1 - 1).toNat = (l / 2).toNat from by omega, show (-(-(l / 2 + 1)) - 1).toNat = (l / 2).toNat from by omega]
    cases m[(l / 2).toNat]?.getD false <;> exact ⟨rfl, rfl⟩

/-- A variable's clause number. -/
theorem soX_var (m : List Bool) {v : Int} (h0 : 0 ≤ v) : soX m (v + 1) = (m[v.toNat]?.getD false) ∧ soX m (-(v + 1)) = !(m[v.toNat]?.getD false) := by
  unfold soX
  rw [if_pos (by omega), if_neg (by omega), if_pos (by omega), show (v + 1 - 1).toNat = v.toNat from by omega, show (-(-(v + 1)) - 1).toNat = v.toNat from by omega]
  exact ⟨rfl, rfl⟩

/-- A gate's clauses are so just if its variable is what its literals are. -/
theorem gateC_so (m : List Bool) {n : Int} {k : Nat} {p : Pr} (hn : 0 ≤ n) (h1 : 0 ≤ p.1) (h2 : 0 ≤ p.2) :
    (gateC n k p).any (fun l => !l.any (soX m)) = ((m[(n + 1 + k).toNat]?.getD false) != (bitB m p.1 && bitB m p.2)) := by
  obtain ⟨a1, a2⟩ := soX_var m (v := n + 1 + k) (by omega)
  obtain ⟨b1, b2⟩ := soX_lit m h1
  obtain ⟨c1, c2⟩ := soX_lit m h2
  simp only [gateC, List.any_cons, List.any_nil, a1, a2, b1, b2, c1, c2, Bool.or_false]
  cases m[(n + 1 + k).toNat]?.getD false <;> cases bitB m p.1 <;> cases bitB m p.2 <;> rfl

theorem bitB_of_litV {g : Gr} {xs : List Bool} {l : Int} : bitB (valsFrom (false :: xs) g.as) l = litV g xs l := rfl

/-- What variables are makes all clauses so. -/
theorem clausesAt_so {g : Gr} {xs : List Bool} (hr : rightB g = true) (hn : (xs.length : Int) = g.n) (l : Int) : ∀ k, k ≤ g.as.length → (clausesAt g l k).any (fun c => !c.any (soX (allG g xs))) = false
  | 0, _ => by
    have e : allG g xs = valsFrom (false :: xs) g.as := by rw [allG_is hr hn]; unfold valsAt; rw [List.take_length]
    obtain ⟨t, ht⟩ := valsFrom_pre g.as (false :: xs)
    rw [e, ht]
    have := (soX_var ((false :: xs) ++ t) (v := 0) (by omega)).2
    simp only [clausesAt, List.any_cons, List.any_nil, Bool.or_false]
    rw [show (-1 : Int) = -(0 + 1) from rfl, this]
    rfl
  | k + 1, hk => by
    have ih := clausesAt_so hr hn l k (by omega)
    have e : allG g xs = valsFrom (false :: xs) g.as := by rw [allG_is hr hn]; unfold valsAt; rw [List.take_length]
    obtain ⟨⟨h1, h2, h3, h4⟩, hall, _⟩ := (right_iff g).1 hr
    have hp := List.getElem?_eq_getElem (by omega : k < g.as.length)
    obtain ⟨m1, m2, m3⟩ := (of_decide_eq_true (hall k _ hp) : 2 ≤ (g.as[k]).2 ∧ (g.as[k]).2 / 2 < (g.as[k]).1 / 2 ∧ (g.as[k]).1 / 2 < g.n + 1 + k)
    rw [clausesAt, hp]
    simp only
    split
    · rw [List.any_append, ih, Bool.false_or, gateC_so _ h1 (by omega) (by omega), e, bitB_of_litV, bitB_of_litV, ← litV_gate hr hn hp]
      unfold litV bitB
      have e1 : 2 * (g.n + 1 + (k : Int)) / 2 = g.n + 1 + k := by omega
      have e2 : ¬ (2 * (g.n + 1 + (k : Int)) % 2 = 1) := by omega
      rw [e1, decide_eq_false e2]
      simp
    · exact ih
theorem soC_model {g : Gr} {xs : List Bool} (hr : rightB g = true) (hn : (xs.length : Int) = g.n) (l : Int) : soC g.vars (clausesAt g l g.as.length) (allG g xs) = true := by
  unfold soC
  rw [rightC_of hr l, clausesAt_so hr hn l _ (Nat.le_refl _)]
  have : ((allG g xs).length : Int) = g.vars := by
    rw [allG_is hr hn, valsAt_length (Nat.le_refl _)]
    unfold Gr.vars
    omega
  rw [decide_eq_true this]
  rfl

/-- Clauses that begin with such a number, of three. -/
def begins (k : Int) (c : List Int) : Bool := decide (c.length = 3) && (c[0]?.getD 0 == k)

/-- A clause of three is a gate's, all of whose clauses are there. -/
theorem clausesAt_three {g : Gr} {l : Int} {c : List Int} (h3 : c.length = 3) : ∀ k, k ≤ g.as.length → c ∈ clausesAt g l k → ∃ j p, j < k ∧ g.as[j]? = some p ∧ c[0]? = some (g.n + 1 + j + 1) ∧ ∀ d ∈ gateC g.n j p, d ∈ clausesAt g l k
  | 0, _, hc => by
    simp only [clausesAt, List.mem_cons, List.not_mem_nil, or_false] at hc
    subst hc
    cases h3
  | k + 1, hk, hc => by
    obtain ⟨p, hp⟩ : ∃ p, g.as[k]? = some p := ⟨_, List.getElem?_eq_getElem (by omega)⟩
    rw [clausesAt, hp] at hc ⊢
    simp only at hc ⊢
    split at hc
    · rename_i hm
      rw [if_pos hm]
      rcases List.mem_append.1 hc with hc | hc
      · obtain ⟨j, q, a1, a2, a3, a4⟩ := clausesAt_three h3 k (by omega) hc
        exact ⟨j, q, by omega, a2, a3, fun d hd => List.mem_append_left _ (a4 d hd)⟩
      · refine ⟨k, p, by omega, hp, ?_, fun d hd => List.mem_append_right _ hd⟩
        simp only [gateC, List.mem_cons, List.not_mem_nil, or_false] at hc
        rcases hc with rfl | rfl | rfl
        · cases h3
        · cases h3
        · rfl
    · rename_i hm
      rw [if_neg hm]
      obtain ⟨j, q, a1, a2, a3, a4⟩ := clausesAt_three h3 k (by omega) hc
      exact ⟨j, q, by omega, a2, a3, a4⟩

theorem bitB_set {v : List Bool} {k : Nat} {b : Bool} {l : Int} (h0 : 0 ≤ l) (h : l / 2 < (k : Int)) : bitB (v.set k b) l = bitB v l := by
  unfold bitB
  rw [List.getElem?_set_ne (by omega)]

theorem any_of_part {α : Type} {f : α → Bool} {xs ys : List α} (h : ∀ x ∈ xs, x ∈ ys) (hx : xs.any f = true) : ys.any f = true := by
  obtain ⟨x, h1, h2⟩ := List.any_eq_true.1 hx
  exact List.any_eq_true.2 ⟨x, h x h1, h2⟩

/-- With a gate below the literal turned not all clauses are so. -/
theorem soC_turned {g : Gr} {xs : List Bool} (hr : rightB g = true) (hn : (xs.length : Int) = g.n) (l : Int) {k : Nat} {b : Bool} (hk : (allG g xs)[k]? = some b) (h : (k = 0 ∨ (clausesAt g l g.as.length).any (begins ((k : Int) + 1)) = true)) :
    soC g.vars (clausesAt g l g.as.length) ((allG g xs).set k (!b)) = false := by
  have e : allG g xs = valsFrom (false :: xs) g.as := by rw [allG_is hr hn]; unfold valsAt; rw [List.take_length]
  have hkl : k < (allG g xs).length := (List.getElem?_eq_some_iff.1 hk).1
  have hself : ((allG g xs).set k (!b))[k]? = some (!b) := by rw [List.getElem?_set_self hkl]
  obtain ⟨⟨h1, h2, h3, h4⟩, hall, _⟩ := (right_iff g).1 hr
  have hbad : (clausesAt g l g.as.length).any (fun c => !c.any (soX ((allG g xs).set k (!b)))) = true := by
    rcases h with rfl | h
    · have hb : b = false := by
        rw [e] at hk
        obtain ⟨t, ht⟩ := valsFrom_pre g.as (false :: xs)
        rw [ht] at hk
        simpa using hk.symm
      subst hb
      refine any_of_part (xs := [[-1]]) (fun c hc => ?_) ?_
      · simp only [List.mem_cons, List.not_mem_nil, or_false] at hc
        subst hc
        have : ∀ n, [-1] ∈ clausesAt g l n := by
          intro n
          induction n with
          | zero => simp [clausesAt]
          | succ n ih =>
            rw [clausesAt]
            split
            · split
              · exact List.mem_append_left _ ih
              · exact ih
            · exact ih
        exact this _
      · have := (soX_var ((allG g xs).set 0 (!false)) (v := 0) (by omega)).2
        simp only [List.any_cons, List.any_nil, Bool.or_false]
        rw [show (-1 : Int) = -(0 + 1) from rfl, this, show (0 : Int).toNat = 0 from rfl, hself]
        rfl
    · obtain ⟨c, hc, hb⟩ := List.any_eq_true.1 h
      unfold begins at hb
      rw [Bool.and_eq_true, decide_eq_true_eq, beq_iff_eq] at hb
      obtain ⟨j, p, hj, hp, hc0, hsub⟩ := clausesAt_three hb.1 _ (Nat.le_refl _) hc
      rw [hc0, Option.getD_some] at hb
      have hkj : (k : Int) = g.n + 1 + j := by omega
      obtain ⟨m1, m2, m3⟩ := (of_decide_eq_true (hall j _ hp) : 2 ≤ p.2 ∧ p.2 / 2 < p.1 / 2 ∧ p.1 / 2 < g.n + 1 + j)
      refine any_of_part hsub ?_
      rw [gateC_so _ h1 (by omega) (by omega), ← hkj, Int.toNat_natCast, hself, bitB_set (by omega) (by omega), bitB_set (by omega) (by omega), e, bitB_of_litV, bitB_of_litV, ← litV_gate hr hn hp, ← hkj]
      have : litV g xs (2 * (k : Int)) = b := by
        unfold litV bitB
        have e1 : (2 * (k : Int) / 2).toNat = k := by omega
        have e2 : ¬ (2 * (k : Int) % 2 = 1) := by omega
        rw [e1, decide_eq_false e2, ← e, hk]
        simp
      rw [this]
      cases b <;> rfl
  unfold soC
  rw [hbad]
  simp
theorem clausesAt_small (g : Gr) (l : Int) : ∀ k, ∀ c ∈ clausesAt g l k, c.length ≤ 3
  | 0 => fun c hc => by
    simp [clausesAt] at hc
    subst hc
    simp
  | k + 1 => fun c hc => by
    rw [clausesAt] at hc
    split at hc
    · split at hc
      · rcases List.mem_append.1 hc with h | h
        · exact clausesAt_small g l k c h
        · simp only [gateC, List.mem_cons, List.not_mem_nil, or_false] at h
          rcases h with rfl | rfl | rfl <;> simp
      · exact clausesAt_small g l k c hc
    · exact clausesAt_small g l k c hc
theorem cnfG_small (g : Gr) (l : Int) : ∀ c ∈ (cnfG g l).2.1, c.length ≤ 3 := by
  unfold cnfG
  split
  · exact clausesAt_small g l _
  · intro c hc
    cases hc
theorem cnfG_len (g : Gr) (l : Int) : (cnfG g l).2.1.length ≤ 1 + 3 * g.as.length := by
  unfold cnfG
  split
  · exact clausesAt_length g l _
  · simp
theorem cnfG_vars (g : Gr) (l : Int) (h : 0 ≤ g.n) : 0 ≤ (cnfG g l).1 ∧ (cnfG g l).1 ≤ g.n + 1 + g.as.length := by
  unfold cnfG
  split
  · simp only [Gr.vars]
    omega
  · simp only
    omega
end Go.Proofs.Ytbdhkagcbncefaa

namespace Go.Proofs.Ytbdhkagcbncefaa
open Go.RowKit Go.Maps

/-- The slice at A holds slices that read as these lists; all lies below block B. -/
def Cls (w : World) (B : Nat) (A : Option Addr) (cs : List (List Int)) : Prop :=
  ∀ i x, cs[i]? = some x → ∃ b o D d, A = some ⟨b, o, none⟩ ∧ b < B ∧ w.cell? ⟨b, o + i, none⟩ = some (.slice D x.length d) ∧ x.length ≤ d ∧ Vals w B D (i64s x)

section
variable {w w' : World} {B B' : Nat} {A : Option Addr} {cs : List (List Int)}
theorem Cls.nil : Cls w B A [] := fun i p h => by simp at h
theorem Cls.below (h : Cls w B A cs) (hb : Below B w w') : Cls w' B A cs := fun i x hi => by
  obtain ⟨b, o, D, d, e, hlt, hc, hd, hv⟩ := h i x hi
  exact ⟨b, o, D, d, e, hlt, by rw [(bcell hb).1 _ _ hlt, hc], hd, hv.below hb⟩
theorem Cls.more (h : Cls w B A cs) (hB : B ≤ B') : Cls w B' A cs := fun i x hi => by
  obtain ⟨b, o, D, d, e, hlt, hc, hd, hv⟩ := h i x hi
  exact ⟨b, o, D, d, e, Nat.lt_of_lt_of_le hlt hB, hc, hd, hv.more hB⟩
theorem Cls.after (h : Cls w w.heap.size A cs) (hb : Below w.heap.size w w') : Cls w' w'.heap.size A cs := (h.below hb).more hb.size
theorem Cls.none_ (h : Cls w B A cs) (hA : A = none) : cs = [] := by
  subst hA
  match cs with
  | [] => rfl
  | x :: r =>
    obtain ⟨_, _, _, _, e, _⟩ := h 0 x rfl
    cases e
end

/-- What a Cnf as a value reads as. -/
structure CnfV (w : World) (v : Int) (cs : List (List Int)) (A : Option Addr) (c : Nat) : Prop where
  cls : Cls w w.heap.size A cs
  cap : cs.length ≤ c
theorem CnfV.after {w w' : World} {v : Int} {cs : List (List Int)} {A : Option Addr} {c : Nat} (h : CnfV w v cs A c) (hb : Below w.heap.size w w') : CnfV w' v cs A c := ⟨h.cls.after hb, h.cap⟩
end Go.Proofs.Ytbdhkagcbncefaa

set_option linter.unusedVariables false
set_option linter.unusedSimpArgs false
namespace Go.Proofs.Ytbdhkagcbncefaa
open Go.RowKit Go.Maps

theorem clit_any (l : Int) (w : World) (h0 : 0 ≤ l) (h2 : l ≤ 9223372036854775807) :
    Calls Try.prog 52 #[.int .i64 l] w (fun e w' => e = .returned (.int .i64 (litC l)) ∧ w' = w) := by
  have hand := and_one l h0 h2
  have hd : 0 ≤ l / 2 := by omega
  by_cases hm : l % 2 = 1
  · have hm' : (l % 2 == 1) = true := by simpa using hm
    have HE : Hid (litC l = -(l / 2 + 1)) := if_pos hm
    clear hm
    go_enter Try.func52, Try.ntmps52
    go_wp2_with fail
    go_ret
    exact ⟨by rw [HE.out]; rfl, rfl⟩
  · have hm' : (l % 2 == 1) = false := by simpa using hm
    have HE : Hid (litC l = l / 2 + 1) := if_neg hm
    clear hm
    go_enter Try.func52, Try.ntmps52
    go_wp2_with fail
    go_ret
    exact ⟨by rw [HE.out]; rfl, rfl⟩

theorem rlitc_any (l : Int) (w : World) (h0 : 0 ≤ l) (h2 : l ≤ 9223372036854775807) :
    Calls Try.prog 53 #[.int .i64 l] w (fun e w' => e = .returned (.int .i64 (litC l)) ∧ w' = w) := by
  have hd : 0 ≤ l / 2 := by omega
  by_cases hm : l % 2 = 1
  · have hm' : (l % 2 == 1) = true := by simpa using hm
    have HE : Hid (litC l = -(l / 2 + 1)) := if_pos hm
    clear hm
    go_enter Try.func53, Try.ntmps53
    go_wp2_with fail
    go_ret
    exact ⟨by rw [HE.out]; rfl, rfl⟩
  · have hm' : (l % 2 == 1) = false := by simpa using hm
    have HE : Hid (litC l = l / 2 + 1) := if_neg hm
    clear hm
    go_enter Try.func53, Try.ntmps53
    go_wp2_with fail
    go_ret
    exact ⟨by rw [HE.out]; rfl, rfl⟩

/-- The truth value that a literal looks at. -/
theorem soX_pos {m : List Bool} {x : Int} (h : 0 < x) {y : Bool} (hy : m[(x - 1).toNat]? = some y) : soX m x = y := by
  unfold soX
  rw [if_pos h, hy]
  rfl
theorem soX_neg {m : List Bool} {x : Int} (h : x < 0) {y : Bool} (hy : m[(-x - 1).toNat]? = some y) : soX m x = !y := by
  unfold soX
  rw [if_neg (by omega), if_pos h, hy]
  rfl

theorem any_take {α : Type} {p : α → Bool} {l : List α} {k : Nat} (h : ∀ i x, i < k → l[i]? = some x → p x = false) (hk : l.length ≤ k) : l.any p = false := by
  rw [List.any_eq_false]
  intro x hx
  obtain ⟨i, hi⟩ := List.getElem?_of_mem hx
  have := (List.getElem?_eq_some_iff.1 hi).1
  rw [h i x (by omega) hi]
  decide
theorem any_at {α : Type} {p : α → Bool} {l : List α} {k : Nat} {x : α} (h : l[k]? = some x) (hx : p x = true) : l.any p = true :=
  List.any_eq_true.2 ⟨x, List.mem_of_getElem? h, hx⟩

set_option maxHeartbeats 1000000 in
theorem clause_any (l : List Int) (m : List Bool) (A B : Option Addr) (c d : Nat) (w : World) (hl : l.length ≤ 140737488355328) (hm : m.length ≤ 140737488355328) (hx : ∀ x ∈ l, x ≠ 0 ∧ x ≤ m.length ∧ -(m.length : Int) ≤ x) (hp : Vals w w.heap.size A (i64s l)) (hq : Vals w w.heap.size B (bools m)) :
    Calls Try.prog 86 #[.slice A l.length c, .slice B m.length d] w (fun e w' => e = .returned (.bool (l.any (soX m))) ∧ w' = w) := by
  have hnot := @not_run Try.prog
  have HP := Lib.hid hp
  have HQ := Lib.hid hq
  have HX := Lib.hid hx
  clear hp hq hx
  go_enter Try.func86, Try.ntmps86
  go_wp2_with fail
  go_loopw [5] (fun s wr => ∃ k : Nat, k ≤ l.length ∧ s = .int .i64 k ∧ Hid (∀ i x, i < k → l[i]? = some x → soX m x = false) ∧ wr = w) (fun s _ => l.length - (intOf s).toNat)
  case atStart => exact ⟨0, Nat.zero_le _, rfl, fun i x hi => by omega, rfl⟩
  case round =>
    obtain ⟨k, hk, rfl, hall, rfl⟩ := hrel
    by_cases hlt : k < l.length
    · have hlt' : (k : Int) < (l.length : Int) := by omega
      obtain ⟨x, hxk⟩ : ∃ x, l[k]? = some x := ⟨_, List.getElem?_eq_getElem hlt⟩
      obtain ⟨x0, x1, x2⟩ := HX.out x (List.mem_of_getElem? hxk)
      obtain ⟨b, o, rfl, _, q1⟩ := HP.out k _ (i64s_at hxk)
      have HK := Lib.hid hxk
      clear hxk
      by_cases hpos : 0 < x
      · obtain ⟨y, hy⟩ : ∃ y, m[(x - 1).toNat]? = some y := ⟨_, List.getElem?_eq_getElem (by omega)⟩
        obtain ⟨b2, o2, rfl, _, q2⟩ := HQ.out _ _ (bools_get hy)
        rw [show (x - 1).toNat = x.toNat - 1 by omega] at q2
        have i1 : 0 ≤ x - 1 := by omega
        have i2 : x - 1 < (m.length : Int) := by omega
        have hneg : ¬ x < 0 := by omega
        have HY : Hid (soX m x = y) := soX_pos hpos hy
        clear hy x0
        cases y
        · go_wp2_with fail
          go_roundw
          case rel =>
            refine ⟨k + 1, by omega, by go_num, fun i x' hi hx' => ?_, trivial⟩
            rcases Nat.lt_or_ge i k with h | h
            · exact hall.out i x' h hx'
            · obtain rfl : i = k := by omega
              rw [HK.out] at hx'
              cases hx'
              exact HY.out
          case measure => simp [intOf]; omega
        · go_wp2_with fail
          go_ret
          exact ⟨by rw [any_at HK.out HY.out]; rfl, rfl⟩
      · have hneg : x < 0 := by omega
        obtain ⟨y, hy⟩ : ∃ y, m[(-x - 1).toNat]? = some y := ⟨_, List.getElem?_eq_getElem (by omega)⟩
        obtain ⟨b2, o2, rfl, _, q2⟩ := HQ.out _ _ (bools_get hy)
        rw [show (-x - 1).toNat = (-x).toNat - 1 by omega] at q2
        have i1 : 0 ≤ -x - 1 := by omega
        have i2 : -x - 1 < (m.length : Int) := by omega
        have HY : Hid (soX m x = !y) := soX_neg hneg hy
        clear hy x0
        cases y
        · go_wp2_with fail
          go_ret
          exact ⟨by rw [any_at HK.out HY.out]; rfl, rfl⟩
        · go_wp2_with fail
          go_roundw
          case rel =>
            refine ⟨k + 1, by omega, by go_num, fun i x' hi hx' => ?_, trivial⟩
            rcases Nat.lt_or_ge i k with h | h
            · exact hall.out i x' h hx'
            · obtain rfl : i = k := by omega
              rw [HK.out] at hx'
              cases hx'
              exact HY.out
          case measure => simp [intOf]; omega
    · have hlt' : ¬ ((k : Int) < (l.length : Int)) := by omega
      go_wp2_with fail
      go_ret
      exact ⟨by rw [any_take hall.out (by omega)]; rfl, rfl⟩
end Go.Proofs.Ytbdhkagcbncefaa

set_option linter.unusedVariables false
set_option linter.unusedSimpArgs false
namespace Go.Proofs.Ytbdhkagcbncefaa
open Go.RowKit Go.Maps

set_option maxHeartbeats 2000000 in
theorem rcright_any (v : Int) (cs : List (List Int)) (A : Option Addr) (c : Nat) (w : World) (hl : cs.length ≤ 140737488355328) (hls : ∀ l ∈ cs, l.length ≤ 140737488355328) (hp : Cls w w.heap.size A cs) :
    Calls Try.prog 85 #[.agg #[.int .i64 v, .slice A cs.length c]] w (Ret w (.bool (rightC v cs))) := by
  have hnot := @not_run Try.prog
  have B0 := Blk.new w 57 #[.int .i64 v, .slice A cs.length c]
  have hB0 : Below w.heap.size w (w.alloc (.cells #[.int .i64 v, .slice A cs.length c] 57)) := (Below.refl _ w).alloc (Nat.le_refl _) _
  have HP := Lib.hid hp
  have HLS := Lib.hid hls
  by_cases h0 : 0 ≤ v ∧ v ≤ 2000 ∧ cs.length ≤ 100000
  · obtain ⟨v0, v1, v2⟩ := h0
    have HB := Lib.hid hB0
    have HK := Lib.hid B0
    have v0' : ¬ (v < 0) := by omega
    have v1' : ¬ (2000 < v) := by omega
    have v2' : ¬ (100000 < (cs.length : Int)) := by omega
    clear hp hls hB0 B0
    go_enter Try.func85, Try.ntmps85
    go_wp2_with fail
    obtain ⟨W0, hW0⟩ : ∃ W0, w.alloc (.cells #[.int .i64 v, .slice A cs.length c] 57) = W0 := ⟨_, rfl⟩
    rw [hW0] at HB HK ⊢
    clear hW0
    go_loopw [3] (fun s wr => ∃ k : Nat, k ≤ cs.length ∧ s = .int .i64 k ∧ Hid (∀ i l, i < k → cs[i]? = some l → ∀ x ∈ l, x ≠ 0 ∧ x ≤ v ∧ -v ≤ x) ∧ wr = W0) (fun s _ => cs.length - (intOf s).toNat)
    case atStart => exact ⟨0, Nat.zero_le _, rfl, fun i x hi => by omega, rfl⟩
    case round =>
      obtain ⟨k, hk, rfl, hall, rfl⟩ := hrel
      have c0 := HK.out.cell 0
      have c1 := HK.out.cell 1
      by_cases hlt : k < cs.length
      · have hlt' : (k : Int) < (cs.length : Int) := by omega
        obtain ⟨l, hlk⟩ : ∃ l, cs[k]? = some l := ⟨_, List.getElem?_eq_getElem hlt⟩
        obtain ⟨b, o, D, d, rfl, _, q1, hd, hv⟩ := (HP.out.after HB.out) k _ hlk
        have hll := HLS.out l (List.mem_of_getElem? hlk)
        have HV := Lib.hid hv
        have HLK := Lib.hid hlk
        clear hlk hv
        go_wp2_with fail
        obtain ⟨wo, rfl⟩ : ∃ wo : World, wo = wr := ⟨_, rfl⟩
        go_loopw [4] (fun s wi => ∃ j : Nat, j ≤ l.length ∧ s = .int .i64 j ∧ Hid (∀ i x, i < j → l[i]? = some x → x ≠ 0 ∧ x ≤ v ∧ -v ≤ x) ∧ wi = wo) (fun s _ => l.length - (intOf s).toNat)
        case atStart => exact ⟨0, Nat.zero_le _, rfl, fun i x hi => by omega, rfl⟩
        case round =>
          obtain ⟨j, hj, rfl, hin, rfl⟩ := hrel
          by_cases hjl : j < l.length
          · have hjl' : (j : Int) < (l.length : Int) := by omega
            obtain ⟨x, hxj⟩ : ∃ x, l[j]? = some x := ⟨_, List.getElem?_eq_getElem hjl⟩
            obtain ⟨b2, o2, rfl, _, q2⟩ := HV.out j _ (i64s_at hxj)
            have hw : IntKind.i64.wrap (-v) = -v := IntWalk.i64_in _ (by omega)
            by_cases hx : x ≠ 0 ∧ x ≤ v ∧ -v ≤ x
            · have HX := Lib.hid hx
              obtain ⟨x0, x1, x2⟩ := hx
              have x0' : (x == 0) = false := by simpa using x0
              have x1' : ¬ v < x := by omega
              have x2' : ¬ x < -v := by omega
              have HXJ := Lib.hid hxj
              clear hxj x0
              go_wp2_with fail
              go_roundw
              case rel =>
                refine ⟨j + 1, by omega, by go_num, fun i x' hi hx' => ?_, trivial⟩
                rcases Nat.lt_or_ge i j with h | h
                · exact hin.out i x' h hx'
                · obtain rfl : i = j := by omega
                  rw [HXJ.out] at hx'
                  cases hx'
                  exact HX.out
              case measure => simp [intOf]; omega
            · have HF : Hid (rightC v cs = false) := by
                cases e : rightC v cs
                · rfl
                · exact absurd ((rightC_iff.1 e).2.2.2 l (List.mem_of_getElem? HLK.out) x (List.mem_of_getElem? hxj)) hx
              clear hxj
              by_cases x0 : x = 0
              · have x0' : (x == 0) = true := by simpa using x0
                clear x0 hx
                go_wp2_with fail
                go_ret
                exact ⟨by rw [HF.out]; rfl, HB.out⟩
              · have x0' : (x == 0) = false := by simpa using x0
                by_cases x1 : v < x
                · clear x0 hx
                  go_wp2_with fail
                  go_ret
                  exact ⟨by rw [HF.out]; rfl, HB.out⟩
                · have x2 : x < -v := by omega
                  clear x0 hx
                  go_wp2_with fail
                  go_ret
                  exact ⟨by rw [HF.out]; rfl, HB.out⟩
          · have hjl' : ¬ ((j : Int) < (l.length : Int)) := by omega
            go_wp2_with fail
            go_roundw
            case rel =>
              refine ⟨k + 1, by omega, by go_num, fun i l' hi hl' x' hx' => ?_, trivial⟩
              rcases Nat.lt_or_ge i k with h | h
              · exact hall.out i l' h hl' x' hx'
              · obtain rfl : i = k := by omega
                rw [HLK.out] at hl'
                cases hl'
                obtain ⟨i2, hi2⟩ := List.getElem?_of_mem hx'
                exact hin.out i2 x' (by have := (List.getElem?_eq_some_iff.1 hi2).1; omega) hi2
            case measure => simp [intOf]; omega
      · have hlt' : ¬ ((k : Int) < (cs.length : Int)) := by omega
        have HT : Hid (rightC v cs = true) := rightC_iff.2 ⟨v0, v1, v2, fun l hl' x hx => by
          obtain ⟨i, hi⟩ := List.getElem?_of_mem hl'
          exact hall.out i l (by have := (List.getElem?_eq_some_iff.1 hi).1; omega) hi x hx⟩
        go_wp2_with fail
        go_ret
        exact ⟨by rw [HT.out]; rfl, HB.out⟩
  · have HF : Hid (rightC v cs = false) := by
      cases e : rightC v cs
      · rfl
      · exact absurd ⟨(rightC_iff.1 e).1, (rightC_iff.1 e).2.1, (rightC_iff.1 e).2.2.1⟩ h0
    have HB := Lib.hid hB0
    clear hp hls hB0 B0
    by_cases v0 : v < 0
    · clear h0
      go_enter Try.func85, Try.ntmps85
      go_wp2_with fail
      go_ret
      exact ⟨by rw [HF.out]; rfl, HB.out⟩
    · by_cases v1 : 2000 < v
      · clear h0
        go_enter Try.func85, Try.ntmps85
        go_wp2_with fail
        go_ret
        exact ⟨by rw [HF.out]; rfl, HB.out⟩
      · have v2 : 100000 < (cs.length : Int) := by omega
        clear h0
        go_enter Try.func85, Try.ntmps85
        go_wp2_with fail
        go_ret
        exact ⟨by rw [HF.out]; rfl, HB.out⟩

set_option maxHeartbeats 2000000 in
theorem rcso_any (v : Int) (cs : List (List Int)) (m : List Bool) (A B : Option Addr) (c d : Nat) (w : World) (hl : cs.length ≤ 140737488355328) (hls : ∀ l ∈ cs, l.length ≤ 140737488355328) (hml : m.length ≤ 140737488355328) (hp : Cls w w.heap.size A cs) (hq : Vals w w.heap.size B (bools m)) :
    Calls Try.prog 51 #[.agg #[.int .i64 v, .slice A cs.length c], .slice B m.length d] w (Ret w (.bool (soC v cs m))) := by
  have hnot := @not_run Try.prog
  have B0 := Blk.new w 57 #[.int .i64 v, .slice A cs.length c]
  have hB0 : Below w.heap.size w (w.alloc (.cells #[.int .i64 v, .slice A cs.length c] 57)) := (Below.refl _ w).alloc (Nat.le_refl _) _
  have HP := Lib.hid hp
  have HQ := Lib.hid hq
  have HLS := Lib.hid hls
  have HB := Lib.hid hB0
  have HK := Lib.hid B0
  clear hp hq hls hB0 B0
  go_enter Try.func51, Try.ntmps51
  go_wp2_with fail
  refine (rcright_any v cs A c _ hl HLS.out (HP.out.after HB.out)).mono ?_
  rintro e w1 ⟨rfl, hb1⟩
  have HB1 := Lib.hid (below2 HB.out HB.out.size hb1)
  have HK1 := Lib.hid (HK.out.below hb1 HK.out.lt)
  clear hb1 HB HK
  have c0 := HK1.out.cell 0
  have c1 := HK1.out.cell 1
  cases hr : rightC v cs
  · have HF : Hid (soC v cs m = false) := by show soC v cs m = false; unfold soC; rw [hr]; rfl
    clear hr
    go_wp2_with fail
    go_ret
    exact ⟨by rw [HF.out]; rfl, HB1.out⟩
  · by_cases hn : (m.length : Int) = v
    · subst hn
      have HE : Hid (soC m.length cs m = !cs.any (fun l => !l.any (soX m))) := by show soC _ cs m = _; unfold soC; rw [hr, decide_eq_true rfl]; rfl
      have HR := Lib.hid hr
      have hn' : ((m.length : Int) != (m.length : Int)) = false := by simp
      clear hr
      go_wp2_with fail
      go_loopw [5] (fun s wr => ∃ k : Nat, k ≤ cs.length ∧ s = .int .i64 k ∧ Hid (∀ i l, i < k → cs[i]? = some l → (!l.any (soX m)) = false) ∧ wr = w1) (fun s _ => cs.length - (intOf s).toNat)
      case atStart => exact ⟨0, Nat.zero_le _, rfl, fun i x hi => by omega, rfl⟩
      case round =>
        obtain ⟨k, hk, rfl, hall, rfl⟩ := hrel
        by_cases hlt : k < cs.length
        · have hlt' : (k : Int) < (cs.length : Int) := by omega
          obtain ⟨l, hlk⟩ : ∃ l, cs[k]? = some l := ⟨_, List.getElem?_eq_getElem hlt⟩
          obtain ⟨b, o, D, d', rfl, _, q1, hd, hv⟩ := (HP.out.after HB1.out) k _ hlk
          have hll := HLS.out l (List.mem_of_getElem? hlk)
          have HV := Lib.hid hv
          have HLK := Lib.hid hlk
          have HX := Lib.hid ((rightC_iff.1 HR.out).2.2.2 l (List.mem_of_getElem? hlk))
          clear hlk hv
          go_wp2_with fail
          refine (clause_any l m D B d' d _ hll hml HX.out HV.out (HQ.out.after HB1.out)).mono ?_
          rintro e w2 ⟨rfl, rfl⟩
          cases hs : l.any (soX m)
          · have HS := Lib.hid hs
            clear hs
            go_wp2_with fail
            go_ret
            refine ⟨?_, HB1.out⟩
            rw [HE.out, any_at (p := fun l => !l.any (soX m)) HLK.out (by rw [HS.out]; rfl)]
            rfl
          · have HS := Lib.hid hs
            clear hs
            go_wp2_with fail
            go_roundw
            case rel =>
              refine ⟨k + 1, by omega, by go_num, fun i l' hi hl' => ?_, trivial⟩
              rcases Nat.lt_or_ge i k with h | h
              · exact hall.out i l' h hl'
              · obtain rfl : i = k := by omega
                rw [HLK.out] at hl'
                cases hl'
                rw [HS.out]
                rfl
            case measure => simp [intOf]; omega
        · have hlt' : ¬ ((k : Int) < (cs.length : Int)) := by omega
          go_wp2_with fail
          go_ret
          refine ⟨?_, HB1.out⟩
          have hF : cs.any (fun l => !l.any (soX m)) = false := any_take hall.out (by omega)
          rw [HE.out, hF]
          rfl
    · have HF : Hid (soC v cs m = false) := by show soC v cs m = false; unfold soC; rw [hr, decide_eq_false hn]; rfl
      have hn' : ((m.length : Int) != v) = true := by simpa using hn
      clear hr hn
      go_wp2_with fail
      go_ret
      exact ⟨by rw [HF.out]; rfl, HB1.out⟩

set_option maxHeartbeats 2000000 in
theorem csame_any (v : Int) (cs : List (List Int)) (A B : Option Addr) (c d : Nat) (w : World) (hl : cs.length ≤ 140737488355328) (hls : ∀ l ∈ cs, l.length ≤ 140737488355328) (hp : Cls w w.heap.size A cs) (hq : Cls w w.heap.size B cs) :
    Calls Try.prog 49 #[.agg #[.int .i64 v, .slice A cs.length c], .agg #[.int .i64 v, .slice B cs.length d]] w (Ret w (.bool true)) := by
  have hnot := @not_run Try.prog
  have B0 := (Blk.new w 57 #[.int .i64 v, .slice A cs.length c]).alloc (.cells #[.int .i64 v, .slice B cs.length d] 57)
  have B1 := Blk.new (w.alloc (.cells #[.int .i64 v, .slice A cs.length c] 57)) 57 #[.int .i64 v, .slice B cs.length d]
  have hB0 : Below w.heap.size w ((w.alloc (.cells #[.int .i64 v, .slice A cs.length c] 57)).alloc (.cells #[.int .i64 v, .slice B cs.length d] 57)) := ((Below.refl _ w).alloc (Nat.le_refl _) _).alloc (by simp) _
  rw [World.size_alloc] at B1
  have hsz : ((w.alloc (.cells #[.int .i64 v, .slice A cs.length c] 57)).alloc (.cells #[.int .i64 v, .slice B cs.length d] 57)).heap.size = w.heap.size + 2 := by simp
  have HP := Lib.hid hp
  have HQ := Lib.hid hq
  have HLS := Lib.hid hls
  have HB := Lib.hid hB0
  have HK := Lib.hid B0
  have HJ := Lib.hid B1
  have hvv : (v != v) = false := by simp
  have hnn : ((cs.length : Int) != (cs.length : Int)) = false := by simp
  clear hp hq hls hB0 B0 B1
  go_enter Try.func49, Try.ntmps49
  go_wp2_with fail
  obtain ⟨W0, hW0⟩ : ∃ W0, (w.alloc (.cells #[.int .i64 v, .slice A cs.length c] 57)).alloc (.cells #[.int .i64 v, .slice B cs.length d] 57) = W0 := ⟨_, rfl⟩
  rw [hW0] at HB HK HJ hsz ⊢
  clear hW0
  go_loopw [5] (fun s wr => ∃ k : Nat, k ≤ cs.length ∧ s = .int .i64 k ∧ Below W0.heap.size W0 wr) (fun s _ => cs.length - (intOf s).toNat)
  case atStart => exact ⟨0, Nat.zero_le _, rfl, Below.refl _ _⟩
  case round =>
    obtain ⟨k, hk, rfl, hb⟩ := hrel
    have hbel := below2 HB.out HB.out.size hb
    have k0 := HK.out.below hb HK.out.lt
    have k1 := HJ.out.below hb HJ.out.lt
    have c1 := k0.cell 1
    have d1 := k1.cell 1
    have HBE := Lib.hid hbel
    have HBW := Lib.hid hb
    clear k0 k1 hb hbel
    by_cases hlt : k < cs.length
    · have hlt' : (k : Int) < (cs.length : Int) := by omega
      obtain ⟨l, hlk⟩ : ∃ l, cs[k]? = some l := ⟨_, List.getElem?_eq_getElem hlt⟩
      obtain ⟨b, o, D, d', rfl, _, q1, hd, hv⟩ := (HP.out.after HBE.out) k _ hlk
      obtain ⟨b2, o2, E, e', rfl, _, q2, hd2, hv2⟩ := (HQ.out.after HBE.out) k _ hlk
      have hll := HLS.out l (List.mem_of_getElem? hlk)
      have HLK := Lib.hid hlk
      have HV := Lib.hid hv
      have HV2 := Lib.hid hv2
      have hnn : ((l.length : Int) != (l.length : Int)) = false := by simp
      clear hlk hv hv2
      go_wp2_with fail
      go_quiet (fail)
      go_wp2_with fail
      obtain ⟨wo, rfl⟩ : ∃ wo : World, wo = wr := ⟨_, rfl⟩
      go_loopw [6] (fun s wi => ∃ j : Nat, j ≤ l.length ∧ s = .int .i64 j ∧ Below wo.heap.size wo wi) (fun s _ => l.length - (intOf s).toNat)
      case atStart => exact ⟨0, Nat.zero_le _, rfl, below_drewN (Below.refl _ _) _⟩
      case round =>
        obtain ⟨j, hj, rfl, hb2⟩ := hrel
        have hbel2 := below2 HBE.out HBE.out.size hb2
        have hbw2 := below2 HBW.out HBW.out.size hb2
        have k0 := HK.out.below hbw2 HK.out.lt
        have k1 := HJ.out.below hbw2 HJ.out.lt
        clear c1 d1 q1 q2
        have c1 := k0.cell 1
        have d1 := k1.cell 1
        obtain ⟨b3, o3, D3, d3, e3, _, q1, hd3, hv3⟩ := (HP.out.after hbel2) k _ HLK.out
        injection e3 with e3
        injection e3 with e3 e4
        subst e3 e4
        obtain ⟨b3, o3, D4, d4, e3, _, q2, hd4, hv4⟩ := (HQ.out.after hbel2) k _ HLK.out
        injection e3 with e3
        injection e3 with e3 e4
        subst e3 e4
        have HBX := Lib.hid hbel2
        have HBY := Lib.hid hbw2
        have HBZ := Lib.hid hb2
        clear hbel2 hbw2 hb2 k0 k1
        by_cases hjl : j < l.length
        · have hjl' : (j : Int) < (l.length : Int) := by omega
          obtain ⟨x, hxj⟩ : ∃ x, l[j]? = some x := ⟨_, List.getElem?_eq_getElem hjl⟩
          obtain ⟨b5, o5, rfl, _, r1⟩ := hv3 j _ (i64s_at hxj)
          obtain ⟨b6, o6, rfl, _, r2⟩ := hv4 j _ (i64s_at hxj)
          have hxx : (x != x) = false := by simp
          clear hxj hv3 hv4 HV HV2
          go_wp2_with fail
          go_quiet (fail)
          go_wp2_with fail
          go_roundw
          case rel => exact ⟨j + 1, by omega, by go_num, below_drewN HBZ.out _⟩
          case measure => simp [intOf]; omega
        · have hjl' : ¬ ((j : Int) < (l.length : Int)) := by omega
          clear hv3 hv4
          go_wp2_with fail
          go_roundw
          case rel => exact ⟨k + 1, by omega, by go_num, HBY.out⟩
          case measure => simp [intOf]; omega
    · have hlt' : ¬ ((k : Int) < (cs.length : Int)) := by omega
      go_wp2_with fail
      go_ret
      exact ⟨rfl, HBE.out⟩
end Go.Proofs.Ytbdhkagcbncefaa

set_option linter.unusedVariables false
set_option linter.unusedSimpArgs false
namespace Go.Proofs.Ytbdhkagcbncefaa
open Go.RowKit Go.Maps

/-- A list of truth values is handed back, in a block of its own. -/
def RetK (w : World) (v : List Bool) (e : Ending) (w' : World) : Prop :=
  ∃ b, e = .returned (.slice (some ⟨b, 0, none⟩) v.length v.length) ∧ Blk w' b 4 (bools v).toArray ∧ Below w.heap.size w w'

set_option maxRecDepth 100000 in
set_option maxHeartbeats 2000000 in
theorem under_any (g : Gr) (l : Int) (A : Option Addr) (c : Nat) (w : World) (hr : rightB g = true) (hl : litB g l = true) (hp : Prs w w.heap.size A g.as) :
    Calls Try.prog 79 #[.agg #[.int .i64 g.n, .slice A g.as.length c], .int .i64 l] w (RetK w (belowG g l)) := by
  obtain ⟨g0, g1, g2, g3⟩ := (size_iff g).1 (right_size hr)
  obtain ⟨_, _, l0, l1⟩ := (litB_iff g l).1 hl
  obtain ⟨V, cs0, hV, hcs, hmk⟩ := make_falses (g.n + 1 + (g.as.length : Int)) (by omega) (by omega)
  have hl2 : 0 ≤ l / 2 := by omega
  have hln : l / 2 < (V : Int) := by omega
  have hc0 : cs0[(l / 2).toNat]? = some (.bool false) := by
    rw [hcs, List.getElem?_toArray]
    unfold bools
    rw [List.getElem?_map, List.getElem?_replicate, if_pos (by omega)]
    rfl
  have HCS := Lib.hid hcs
  have HVV : Hid (g.vars.toNat = V) := by show g.vars.toNat = V; unfold Gr.vars; omega
  have HV := Lib.hid hV
  have HB0 := Lib.hid (Boxed.begin_ (w := w) (g := g) (A := A) (c := c))
  have HP := Lib.hid hp
  have HR := Lib.hid hr
  clear hcs hp hV hr hl
  go_enter Try.func79, Try.ntmps79
  go_wp2_with fail
  refine (rvars_any _ _ _ _ _ g0 (by omega) (by omega)).mono ?_
  rintro e w1 ⟨rfl, hb1⟩
  have H1 := Lib.hid (HB0.out.step hb1)
  have hs1 := H1.out.size
  clear hb1
  have c1 := H1.out.c1
  have hset : cs0.setIfInBounds (l / 2).toNat (.bool true) = (bools (mark0 g l)).toArray := by
    rw [HCS.out, bools_set]
    unfold mark0
    rw [HVV.out]
  have f0 : (w1.alloc (.cells cs0 4)).frozen? ⟨w1.heap.size, (l / 2).toNat, none⟩ = false := (Blk.new w1 4 cs0).frozen _
  obtain ⟨cs1, hcs1⟩ : ∃ cs1, cs0.setIfInBounds (l / 2).toNat (.bool true) = cs1 := ⟨_, rfl⟩
  rw [hcs1] at hset
  have HB3 := Lib.hid (Blk.new w1 4 cs1)
  have HX2 := Lib.hid (H1.out.alloc (.cells cs1 4))
  have c2 : (w1.alloc (.cells cs1 4)).cell? ⟨w.heap.size, 1, none⟩ = some (.slice A g.as.length c) := HX2.out.c1
  rw [hset] at HB3
  have HST := Lib.hid hset
  clear hset
  go_wp2_with fail
  obtain ⟨W0, hW0⟩ : ∃ W0, w1.alloc (.cells cs1 4) = W0 := ⟨_, rfl⟩
  rw [← HST.out, hW0] at HB3
  rw [HST.out] at HB3
  rw [hW0] at HX2 ⊢
  clear hW0 c2 c1 hmk hc0 f0 hcs1
  go_loopw [6] (fun s wr => ∃ k : Nat, k ≤ g.as.length ∧ s = .int .i64 ((g.as.length : Int) - 1 - k) ∧ BlkF wr w1.heap.size 4 (bools (marksAt g (mark0 g l) k)).toArray ∧ Boxed w wr g A c) (fun s _ => (intOf s + 1).toNat)
  case atStart => exact ⟨0, Nat.zero_le _, by simp, ⟨HB3.out⟩, HX2.out⟩
  case round =>
    obtain ⟨k, hk, rfl, hbk, hbx⟩ := hrel
    have HK := Lib.hid hbk
    have HX := Lib.hid hbx
    have c0 := hbx.c0
    have c1 := hbx.c1
    have hml : (marksAt g (mark0 g l) k).length = V := by rw [marksAt_length, mark0_length, HVV.out]
    have hVV := HV.out
    clear hbk hbx
    by_cases hlt : k < g.as.length
    · obtain ⟨j, hj⟩ : ∃ j, g.as.length - 1 - k = j := ⟨_, rfl⟩
      have hjl : j < g.as.length := by omega
      obtain ⟨⟨p1, p2⟩, hpk⟩ : ∃ p, g.as[j]? = some p := ⟨_, List.getElem?_eq_getElem hjl⟩
      have hji : (g.as.length : Int) - 1 - k = (j : Int) := by omega
      rw [hji]
      obtain ⟨b', o', rfl, hbw, q1, q2⟩ := (HP.out.below HX.out.low) j _ hpk
      obtain ⟨_, hall, _⟩ := (right_iff g).1 HR.out
      obtain ⟨m1, m2, m3⟩ := (of_decide_eq_true (hall _ _ hpk) : 2 ≤ p2 ∧ p2 / 2 < p1 / 2 ∧ p1 / 2 < g.n + 1 + (j : Nat))
      have HSN : Hid (marksAt g (mark0 g l) (k + 1) = mark g.n (marksAt g (mark0 g l) k) j (p1, p2)) := marksAt_succ hj hpk
      have i1 : 0 ≤ g.n + 1 + ((j : Nat) : Int) := by omega
      have i2 : g.n + 1 + ((j : Nat) : Int) < (V : Int) := by omega
      obtain ⟨bit, hbit⟩ : ∃ y, (marksAt g (mark0 g l) k)[(g.n + 1 + ((j : Nat) : Int)).toNat]? = some y := ⟨_, List.getElem?_eq_getElem (by rw [hml]; omega)⟩
      obtain ⟨y1, hy1⟩ : ∃ y, (marksAt g (mark0 g l) k)[(p1 / 2).toNat]? = some y := ⟨_, List.getElem?_eq_getElem (by rw [hml]; omega)⟩
      have hy2l : (p2 / 2).toNat < (marksAt g (mark0 g l) k).length := by rw [hml]; omega
      have hl1 : p1 / 2 < (V : Int) := by omega
      have hl2' : p2 / 2 < (V : Int) := by omega
      have cmk : wr.cell? ⟨w1.heap.size, (g.n + 1 + ((j : Nat) : Int)).toNat, none⟩ = some (.bool bit) := by
        rw [HK.out.cell, List.getElem?_toArray]
        exact bools_get hbit
      have hjlt : (j : Int) < (g.as.length : Int) := by omega
      have HJ := Lib.hid hji
      clear hpk hall hVV hj hji
      generalize marksAt g (mark0 g l) k = m at hml hbit hy1 hy2l HK HSN
      cases bit
      · rw [mark_no hbit] at HSN
        clear hbit hy1
        go_wp2_with fail
        go_roundw
        case rel => exact ⟨k + 1, by omega, by have := HJ.out; first | go_num | (simp; omega) | (congr 1; omega), by rw [HSN.out]; exact HK.out, HX.out⟩
        case measure => simp [intOf] <;> omega
      · rw [mark_yes hbit] at HSN
        have hw1 : IntKind.i64.wrap (Int.tdiv p1 2) = p1 / 2 := by
          rw [Int.tdiv_eq_ediv_of_nonneg (by omega)]
          exact IntWalk.i64_in _ (by omega)
        have hw2 : IntKind.i64.wrap (Int.tdiv p2 2) = p2 / 2 := by
          rw [Int.tdiv_eq_ediv_of_nonneg (by omega)]
          exact IntWalk.i64_in _ (by omega)
        have j1 : 0 ≤ p1 / 2 := by omega
        have j3 : 0 ≤ p2 / 2 := by omega
        have e1 : wr.cell? ⟨w1.heap.size, (p1 / 2).toNat, none⟩ = some (.bool y1) := by
          rw [HK.out.cell, List.getElem?_toArray]
          exact bools_get hy1
        have f1 : wr.frozen? ⟨w1.heap.size, (p1 / 2).toNat, none⟩ = false := HK.out.p.frozen _
        have b2' := HK.out.p.set_ (p1 / 2).toNat (.bool true)
        rw [bools_set] at b2'
        have b2'' := b2'.set_ (p2 / 2).toNat (.bool true)
        rw [bools_set] at b2''
        have HB2 := Lib.hid b2''
        have f2 : (wr.setCell ⟨w1.heap.size, (p1 / 2).toNat, none⟩ (.bool true)).frozen? ⟨w1.heap.size, (p2 / 2).toNat, none⟩ = false := b2'.frozen _
        obtain ⟨y2, hy2⟩ : ∃ y, (m.set (p1 / 2).toNat true)[(p2 / 2).toNat]? = some y := ⟨_, List.getElem?_eq_getElem (by rw [List.length_set]; exact hy2l)⟩
        have e2 : (wr.setCell ⟨w1.heap.size, (p1 / 2).toNat, none⟩ (.bool true)).cell? ⟨w1.heap.size, (p2 / 2).toNat, none⟩ = some (.bool y2) := by
          rw [b2'.cell, List.getElem?_toArray]
          exact bools_get hy2
        have HSS : Hid (∀ p : Addr, p.block = w1.heap.size → ∀ (W' : World) (u : Value), (W'.cell? ⟨w.heap.size, 1, none⟩ = some (.slice (some ⟨b', o', none⟩) g.as.length c) ∧ W'.cell? ⟨b', o' + j * 2, none⟩ = some (.int .i64 p1) ∧ W'.cell? ⟨b', o' + j * 2 + 1, none⟩ = some (.int .i64 p2)) →
            ((W'.setCell p u).cell? ⟨w.heap.size, 1, none⟩ = some (.slice (some ⟨b', o', none⟩) g.as.length c) ∧ (W'.setCell p u).cell? ⟨b', o' + j * 2, none⟩ = some (.int .i64 p1) ∧ (W'.setCell p u).cell? ⟨b', o' + j * 2 + 1, none⟩ = some (.int .i64 p2))) := fun p hp W' u h => by
          refine ⟨?_, ?_, ?_⟩
          · rw [World.cell?_setCell_far _ _ _ _ (by rw [hp]; simp; omega)]; exact h.1
          · rw [World.cell?_setCell_far _ _ _ _ (by rw [hp]; simp; omega)]; exact h.2.1
          · rw [World.cell?_setCell_far _ _ _ _ (by rw [hp]; simp; omega)]; exact h.2.2
        clear b2' b2'' hy2 hy1 hbit
        go_wp2_with fail
        refine wp_region_noPanic ?_
        refine wp_region_seq (fun W => W.cell? ⟨w.heap.size, 1, none⟩ = some (.slice (some ⟨b', o', none⟩) g.as.length c) ∧ W.cell? ⟨b', o' + j * 2, none⟩ = some (.int .i64 p1) ∧ W.cell? ⟨b', o' + j * 2 + 1, none⟩ = some (.int .i64 p2)) [0, 1, 2, 3, 4, 5, 6, 7, 8, 9, 10, 11, 12, 13, 14, 15, 16, 17, 18, 19] [0, 1, 2, 3, 4, 5, 6, 7, 8, 9, 10, 11, 12, 13, 14, 15, 16, 18] [] (by kernel_rfl) (by kernel_rfl) rfl (by kernel_rfl) (by kernel_rfl) (fun _ _ _ _ _ h => h) ?_ (fun hSS => ?_)
        · exact ⟨c1, q1, q2⟩
        (refine wpSeq_mov rfl rfl ?_; intro o ho; simp only [List.getElem?_toArray, List.getElem?_cons_zero, List.getElem?_cons_succ, Option.some.injEq] at ho; subst ho; refine ⟨?_, Or.inl ⟨by rfl, fun W hSW => ?_⟩, ?_⟩; rotate_left; (focus (go_simp; first | done | with_reducible rfl)); try simp only [Act.put, List.setIfInBounds_toArray, List.set_cons_zero, List.set_cons_succ])
        (refine wpSeq_mov rfl rfl ?_; intro o ho; simp only [List.getElem?_toArray, List.getElem?_cons_zero, List.getElem?_cons_succ, Option.some.injEq] at ho; subst ho; refine ⟨?_, Or.inl ⟨by rfl, fun W hSW => ?_⟩, ?_⟩; rotate_left; (focus (go_simp; first | done | with_reducible rfl)); try simp only [Act.put, List.setIfInBounds_toArray, List.set_cons_zero, List.set_cons_succ])
        (refine wpSeq_mov rfl rfl ?_; intro o ho; simp only [List.getElem?_toArray, List.getElem?_cons_zero, List.getElem?_cons_succ, Option.some.injEq] at ho; subst ho; refine ⟨?_, Or.inl ⟨by rfl, fun W hSW => ?_⟩, ?_⟩; rotate_left; (focus (go_simp; first | done | with_reducible rfl)); try simp only [Act.put, List.setIfInBounds_toArray, List.set_cons_zero, List.set_cons_succ])
        (refine wpSeq_mov rfl rfl ?_; intro o ho; simp only [List.getElem?_toArray, List.getElem?_cons_zero, List.getElem?_cons_succ, Option.some.injEq] at ho; subst ho; refine ⟨?_, Or.inl ⟨by rfl, fun W hSW => ?_⟩, ?_⟩; rotate_left; (focus (go_simp; first | done | with_reducible rfl)); try simp only [Act.put, List.setIfInBounds_toArray, List.set_cons_zero, List.set_cons_succ])
        (refine wpSeq_mov rfl rfl ?_; intro o ho; simp only [List.getElem?_toArray, List.getElem?_cons_zero, List.getElem?_cons_succ, Option.some.injEq] at ho; subst ho; refine ⟨?_, Or.inl ⟨by rfl, fun W hSW => ?_⟩, ?_⟩; rotate_left; (focus (go_simp; first | done | with_reducible rfl)); try simp only [Act.put, List.setIfInBounds_toArray, List.set_cons_zero, List.set_cons_succ])
        (refine wpSeq_mov rfl rfl ?_; intro o ho; simp only [List.getElem?_toArray, List.getElem?_cons_zero, List.getElem?_cons_succ, Option.some.injEq] at ho; subst ho; refine ⟨?_, Or.inl ⟨by rfl, fun W hSW => ?_⟩, ?_⟩; rotate_left; (focus (go_simp; first | done | with_reducible rfl)); try simp only [Act.put, List.setIfInBounds_toArray, List.set_cons_zero, List.set_cons_succ])
        (refine wpSeq_mov rfl rfl ?_; intro o ho; simp only [List.getElem?_toArray, List.getElem?_cons_zero, List.getElem?_cons_succ, Option.some.injEq] at ho; subst ho; refine ⟨?_, Or.inl ⟨by rfl, fun W hSW => ?_⟩, ?_⟩; rotate_left; (focus (go_simp; first | done | with_reducible rfl)); try simp only [Act.put, List.setIfInBounds_toArray, List.set_cons_zero, List.set_cons_succ])
        (refine wpSeq_mov rfl rfl ?_; intro o ho; simp only [List.getElem?_toArray, List.getElem?_cons_zero, List.getElem?_cons_succ, Option.some.injEq] at ho; subst ho; refine ⟨?_, Or.inl ⟨by rfl, fun W hSW => ?_⟩, ?_⟩; rotate_left; (focus (go_simp; first | done | with_reducible rfl)); try simp only [Act.put, List.setIfInBounds_toArray, List.set_cons_zero, List.set_cons_succ])
        (refine wpSeq_mov rfl rfl ?_; intro o ho; simp only [List.getElem?_toArray, List.getElem?_cons_zero, List.getElem?_cons_succ, Option.some.injEq] at ho; subst ho; refine ⟨?_, Or.inl ⟨by rfl, fun W hSW => ?_⟩, ?_⟩; rotate_left; (focus (go_simp; first | done | with_reducible rfl)); try simp only [Act.put, List.setIfInBounds_toArray, List.set_cons_zero, List.set_cons_succ])
        (refine wpSeq_mov rfl rfl ?_; intro o ho; simp only [List.getElem?_toArray, List.getElem?_cons_zero, List.getElem?_cons_succ, Option.some.injEq] at ho; subst ho; refine ⟨?_, Or.inl ⟨by rfl, fun W hSW => ?_⟩, ?_⟩; rotate_left; (focus (go_simp; first | done | with_reducible rfl)); try simp only [Act.put, List.setIfInBounds_toArray, List.set_cons_zero, List.set_cons_succ])
        (refine wpSeq_mov rfl rfl ?_; intro o ho; simp only [List.getElem?_toArray, List.getElem?_cons_zero, List.getElem?_cons_succ, Option.some.injEq] at ho; subst ho; refine ⟨?_, Or.inl ⟨by rfl, fun W hSW => ?_⟩, ?_⟩; rotate_left; (focus (go_simp; first | done | with_reducible rfl)); try simp only [Act.put, List.setIfInBounds_toArray, List.set_cons_zero, List.set_cons_succ])
        (refine wpSeq_mov rfl rfl ?_; intro o ho; simp only [List.getElem?_toArray, List.getElem?_cons_zero, List.getElem?_cons_succ, Option.some.injEq] at ho; subst ho; refine ⟨?_, Or.inl ⟨by rfl, fun W hSW => ?_⟩, ?_⟩; rotate_left; (focus (go_simp; first | done | with_reducible rfl)); try simp only [Act.put, List.setIfInBounds_toArray, List.set_cons_zero, List.set_cons_succ])
        (refine wpSeq_mov rfl rfl ?_; intro o ho; simp only [List.getElem?_toArray, List.getElem?_cons_zero, List.getElem?_cons_succ, Option.some.injEq] at ho; subst ho; refine ⟨?_, Or.inl ⟨by rfl, fun W hSW => ?_⟩, ?_⟩; rotate_left; (focus (go_simp; first | done | with_reducible rfl)); try simp only [Act.put, List.setIfInBounds_toArray, List.set_cons_zero, List.set_cons_succ])
        (refine wpSeq_mov rfl rfl ?_; intro o ho; simp only [List.getElem?_toArray, List.getElem?_cons_zero, List.getElem?_cons_succ, Option.some.injEq] at ho; subst ho; refine ⟨?_, Or.inl ⟨by rfl, fun W hSW => ?_⟩, ?_⟩; rotate_left; (focus (go_simp; first | done | with_reducible rfl)); try simp only [Act.put, List.setIfInBounds_toArray, List.set_cons_zero, List.set_cons_succ])
        (refine wpSeq_mov rfl rfl ?_; intro o ho; simp only [List.getElem?_toArray, List.getElem?_cons_zero, List.getElem?_cons_succ, Option.some.injEq] at ho; subst ho; refine ⟨?_, Or.inl ⟨by rfl, fun W hSW => ?_⟩, ?_⟩; rotate_left; (focus (go_simp; first | done | with_reducible rfl)); try simp only [Act.put, List.setIfInBounds_toArray, List.set_cons_zero, List.set_cons_succ])
        (refine wpSeq_mov rfl rfl ?_; intro o ho; simp only [List.getElem?_toArray, List.getElem?_cons_zero, List.getElem?_cons_succ, Option.some.injEq] at ho; subst ho; refine ⟨?_, Or.inl ⟨by rfl, fun W hSW => ?_⟩, ?_⟩; rotate_left; (focus (go_simp; first | done | with_reducible rfl)); try simp only [Act.put, List.setIfInBounds_toArray, List.set_cons_zero, List.set_cons_succ])
        (refine wpSeq_mov rfl rfl ?_; intro o ho; simp only [List.getElem?_toArray, List.getElem?_cons_zero, List.getElem?_cons_succ, Option.some.injEq] at ho; subst ho; refine ⟨?_, Or.inl ⟨by rfl, fun W hSW => ?_⟩, ?_⟩; rotate_left; (focus (go_simp; first | done | with_reducible rfl)); try simp only [Act.put, List.setIfInBounds_toArray, List.set_cons_zero, List.set_cons_succ])
        (refine wpSeq_fix rfl rfl ?_; intro o ho; simp only [List.getElem?_toArray, List.getElem?_cons_zero, List.getElem?_cons_succ, Option.some.injEq] at ho; subst ho; intro K hK)
        go_simp
        (refine hK.out _ _ (fun _ => HSS.out _ rfl _ _ hSS) ?_; clear hK K; try simp only [Act.put, List.setIfInBounds_toArray, List.set_cons_zero, List.set_cons_succ])
        (refine wpSeq_mov rfl rfl ?_; intro o ho; simp only [List.getElem?_toArray, List.getElem?_cons_zero, List.getElem?_cons_succ, Option.some.injEq] at ho; subst ho; refine ⟨?_, Or.inl ⟨by rfl, fun W hSW => ?_⟩, ?_⟩; rotate_left; (focus (go_simp; first | done | with_reducible rfl)); try simp only [Act.put, List.setIfInBounds_toArray, List.set_cons_zero, List.set_cons_succ])
        (refine wpSeq_fix rfl rfl ?_; intro o ho; simp only [List.getElem?_toArray, List.getElem?_cons_zero, List.getElem?_cons_succ, Option.some.injEq] at ho; subst ho; intro K hK)
        go_simp
        (refine hK.out _ _ (fun _ => HSS.out _ rfl _ _ (HSS.out _ rfl _ _ hSS)) ?_; clear hK K; try simp only [Act.put, List.setIfInBounds_toArray, List.set_cons_zero, List.set_cons_succ])
        refine wpSeq_done ?_
        go_wp2_with fail
        go_roundw
        case rel => exact ⟨k + 1, by omega, by have := HJ.out; first | go_num | (simp; omega) | (congr 1; omega), ⟨by rw [HSN.out]; exact HB2.out⟩, ⟨(((HX.out.below.setCell (p := ⟨w1.heap.size, (p1 / 2).toNat, none⟩) (by simp; omega) _).setCell (p := ⟨w1.heap.size, (p2 / 2).toNat, none⟩) (by simp; omega) _)).drew⟩⟩
        case measure => simp [intOf] <;> omega
    · obtain rfl : k = g.as.length := by omega
      have hge : ¬ (0 ≤ (g.as.length : Int) - 1 - (g.as.length : Int)) := by omega
      go_wp2_with fail
      go_ret
      have hbl : (belowG g l).length = V := by rw [belowG_length, HVV.out]
      refine ⟨w1.heap.size, ?_, HK.out.p, HX.out.low⟩
      rw [hbl]
      rfl
end Go.Proofs.Ytbdhkagcbncefaa

set_option linter.unusedVariables false
set_option linter.unusedSimpArgs false
namespace Go.Proofs.Ytbdhkagcbncefaa
open Go.RowKit Go.Maps

set_option maxRecDepth 100000 in
set_option maxHeartbeats 2000000 in
theorem rbelow_k (g : Gr) (l : Int) (A : Option Addr) (c : Nat) (w : World) (hr : rightB g = true) (hl : litB g l = true) (hp : Prs w w.heap.size A g.as) :
    Calls Try.prog 87 #[.agg #[.int .i64 g.n, .slice A g.as.length c], .int .i64 l] w (RetK w (belowG g l)) := by
  obtain ⟨g0, g1, g2, g3⟩ := (size_iff g).1 (right_size hr)
  obtain ⟨_, _, l0, l1⟩ := (litB_iff g l).1 hl
  obtain ⟨V, cs0, hV, hcs, hmk⟩ := make_falses (g.n + 1 + (g.as.length : Int)) (by omega) (by omega)
  have hl2 : 0 ≤ l / 2 := by omega
  have hln : l / 2 < (V : Int) := by omega
  have hc0 : cs0[(l / 2).toNat]? = some (.bool false) := by
    rw [hcs, List.getElem?_toArray]
    unfold bools
    rw [List.getElem?_map, List.getElem?_replicate, if_pos (by omega)]
    rfl
  have HCS := Lib.hid hcs
  have HVV : Hid (g.vars.toNat = V) := by show g.vars.toNat = V; unfold Gr.vars; omega
  have HV := Lib.hid hV
  have HB0 := Lib.hid (Boxed.begin_ (w := w) (g := g) (A := A) (c := c))
  have HP := Lib.hid hp
  have HR := Lib.hid hr
  clear hcs hp hV hr hl
  go_enter Try.func87, Try.ntmps87
  go_wp2_with fail
  refine (rvars_any _ _ _ _ _ g0 (by omega) (by omega)).mono ?_
  rintro e w1 ⟨rfl, hb1⟩
  have H1 := Lib.hid (HB0.out.step hb1)
  have hs1 := H1.out.size
  clear hb1
  have c1 := H1.out.c1
  have hset : cs0.setIfInBounds (l / 2).toNat (.bool true) = (bools (mark0 g l)).toArray := by
    rw [HCS.out, bools_set]
    unfold mark0
    rw [HVV.out]
  have f0 : (w1.alloc (.cells cs0 4)).frozen? ⟨w1.heap.size, (l / 2).toNat, none⟩ = false := (Blk.new w1 4 cs0).frozen _
  obtain ⟨cs1, hcs1⟩ : ∃ cs1, cs0.setIfInBounds (l / 2).toNat (.bool true) = cs1 := ⟨_, rfl⟩
  rw [hcs1] at hset
  have HB3 := Lib.hid (Blk.new w1 4 cs1)
  have HX2 := Lib.hid (H1.out.alloc (.cells cs1 4))
  have c2 : (w1.alloc (.cells cs1 4)).cell? ⟨w.heap.size, 1, none⟩ = some (.slice A g.as.length c) := HX2.out.c1
  rw [hset] at HB3
  have HST := Lib.hid hset
  clear hset
  go_wp2_with fail
  obtain ⟨W0, hW0⟩ : ∃ W0, w1.alloc (.cells cs1 4) = W0 := ⟨_, rfl⟩
  rw [← HST.out, hW0] at HB3
  rw [HST.out] at HB3
  rw [hW0] at HX2 ⊢
  clear hW0 c2 c1 hmk hc0 f0 hcs1
  go_loopw [6] (fun s wr => ∃ k : Nat, k ≤ g.as.length ∧ s = .int .i64 ((g.as.length : Int) - 1 - k) ∧ BlkF wr w1.heap.size 4 (bools (marksAt g (mark0 g l) k)).toArray ∧ Boxed w wr g A c) (fun s _ => (intOf s + 1).toNat)
  case atStart => exact ⟨0, Nat.zero_le _, by simp, ⟨HB3.out⟩, HX2.out⟩
  case round =>
    obtain ⟨k, hk, rfl, hbk, hbx⟩ := hrel
    have HK := Lib.hid hbk
    have HX := Lib.hid hbx
    have c0 := hbx.c0
    have c1 := hbx.c1
    have hml : (marksAt g (mark0 g l) k).length = V := by rw [marksAt_length, mark0_length, HVV.out]
    have hVV := HV.out
    clear hbk hbx
    by_cases hlt : k < g.as.length
    · obtain ⟨j, hj⟩ : ∃ j, g.as.length - 1 - k = j := ⟨_, rfl⟩
      have hjl : j < g.as.length := by omega
      obtain ⟨⟨p1, p2⟩, hpk⟩ : ∃ p, g.as[j]? = some p := ⟨_, List.getElem?_eq_getElem hjl⟩
      have hji : (g.as.length : Int) - 1 - k = (j : Int) := by omega
      rw [hji]
      obtain ⟨b', o', rfl, hbw, q1, q2⟩ := (HP.out.below HX.out.low) j _ hpk
      obtain ⟨_, hall, _⟩ := (right_iff g).1 HR.out
      obtain ⟨m1, m2, m3⟩ := (of_decide_eq_true (hall _ _ hpk) : 2 ≤ p2 ∧ p2 / 2 < p1 / 2 ∧ p1 / 2 < g.n + 1 + (j : Nat))
      have HSN : Hid (marksAt g (mark0 g l) (k + 1) = mark g.n (marksAt g (mark0 g l) k) j (p1, p2)) := marksAt_succ hj hpk
      have i1 : 0 ≤ g.n + 1 + ((j : Nat) : Int) := by omega
      have i2 : g.n + 1 + ((j : Nat) : Int) < (V : Int) := by omega
      obtain ⟨bit, hbit⟩ : ∃ y, (marksAt g (mark0 g l) k)[(g.n + 1 + ((j : Nat) : Int)).toNat]? = some y := ⟨_, List.getElem?_eq_getElem (by rw [hml]; omega)⟩
      obtain ⟨y1, hy1⟩ : ∃ y, (marksAt g (mark0 g l) k)[(p1 / 2).toNat]? = some y := ⟨_, List.getElem?_eq_getElem (by rw [hml]; omega)⟩
      have hy2l : (p2 / 2).toNat < (marksAt g (mark0 g l) k).length := by rw [hml]; omega
      have hl1 : p1 / 2 < (V : Int) := by omega
      have hl2' : p2 / 2 < (V : Int) := by omega
      have cmk : wr.cell? ⟨w1.heap.size, (g.n + 1 + ((j : Nat) : Int)).toNat, none⟩ = some (.bool bit) := by
        rw [HK.out.cell, List.getElem?_toArray]
        exact bools_get hbit
      have hjlt : (j : Int) < (g.as.length : Int) := by omega
      have HJ := Lib.hid hji
      clear hpk hall hVV hj hji
      generalize marksAt g (mark0 g l) k = m at hml hbit hy1 hy2l HK HSN
      cases bit
      · rw [mark_no hbit] at HSN
        clear hbit hy1
        go_wp2_with fail
        go_roundw
        case rel => exact ⟨k + 1, by omega, by have := HJ.out; first | go_num | (simp; omega) | (congr 1; omega), by rw [HSN.out]; exact HK.out, HX.out⟩
        case measure => simp [intOf] <;> omega
      · rw [mark_yes hbit] at HSN
        have hw1 : IntKind.i64.wrap (Int.tdiv p1 2) = p1 / 2 := by
          rw [Int.tdiv_eq_ediv_of_nonneg (by omega)]
          exact IntWalk.i64_in _ (by omega)
        have hw2 : IntKind.i64.wrap (Int.tdiv p2 2) = p2 / 2 := by
          rw [Int.tdiv_eq_ediv_of_nonneg (by omega)]
          exact IntWalk.i64_in _ (by omega)
        have j1 : 0 ≤ p1 / 2 := by omega
        have j3 : 0 ≤ p2 / 2 := by omega
        have e1 : wr.cell? ⟨w1.heap.size, (p1 / 2).toNat, none⟩ = some (.bool y1) := by
          rw [HK.out.cell, List.getElem?_toArray]
          exact bools_get hy1
        have f1 : wr.frozen? ⟨w1.heap.size, (p1 / 2).toNat, none⟩ = false := HK.out.p.frozen _
        have b2' := HK.out.p.set_ (p1 / 2).toNat (.bool true)
        rw [bools_set] at b2'
        have b2'' := b2'.set_ (p2 / 2).toNat (.bool true)
        rw [bools_set] at b2''
        have HB2 := Lib.hid b2''
        have f2 : (wr.setCell ⟨w1.heap.size, (p1 / 2).toNat, none⟩ (.bool true)).frozen? ⟨w1.heap.size, (p2 / 2).toNat, none⟩ = false := b2'.frozen _
        obtain ⟨y2, hy2⟩ : ∃ y, (m.set (p1 / 2).toNat true)[(p2 / 2).toNat]? = some y := ⟨_, List.getElem?_eq_getElem (by rw [List.length_set]; exact hy2l)⟩
        have e2 : (wr.setCell ⟨w1.heap.size, (p1 / 2).toNat, none⟩ (.bool true)).cell? ⟨w1.heap.size, (p2 / 2).toNat, none⟩ = some (.bool y2) := by
          rw [b2'.cell, List.getElem?_toArray]
          exact bools_get hy2
        have HSS : Hid (∀ p : Addr, p.block = w1.heap.size → ∀ (W' : World) (u : Value), (W'.cell? ⟨w.heap.size, 1, none⟩ = some (.slice (some ⟨b', o', none⟩) g.as.length c) ∧ W'.cell? ⟨b', o' + j * 2, none⟩ = some (.int .i64 p1) ∧ W'.cell? ⟨b', o' + j * 2 + 1, none⟩ = some (.int .i64 p2)) →
            ((W'.setCell p u).cell? ⟨w.heap.size, 1, none⟩ = some (.slice (some ⟨b', o', none⟩) g.as.length c) ∧ (W'.setCell p u).cell? ⟨b', o' + j * 2, none⟩ = some (.int .i64 p1) ∧ (W'.setCell p u).cell? ⟨b', o' + j * 2 + 1, none⟩ = some (.int .i64 p2))) := fun p hp W' u h => by
          refine ⟨?_, ?_, ?_⟩
          · rw [World.cell?_setCell_far _ _ _ _ (by rw [hp]; simp; omega)]; exact h.1
          · rw [World.cell?_setCell_far _ _ _ _ (by rw [hp]; simp; omega)]; exact h.2.1
          · rw [World.cell?_setCell_far _ _ _ _ (by rw [hp]; simp; omega)]; exact h.2.2
        have H5 := HSS.out ⟨w1.heap.size, (p1 / 2).toNat, none⟩ rfl wr (.bool true) ⟨c1, q1, q2⟩
        obtain ⟨c1', q1', q2'⟩ := H5
        clear b2' b2'' hy2 hy1 hbit
        go_wp2_with fail
        go_roundw
        case rel => exact ⟨k + 1, by omega, by have := HJ.out; first | go_num | (simp; omega) | (congr 1; omega), ⟨by rw [HSN.out]; exact HB2.out⟩, ⟨((HX.out.below.setCell (p := ⟨w1.heap.size, (p1 / 2).toNat, none⟩) (by simp; omega) _).setCell (p := ⟨w1.heap.size, (p2 / 2).toNat, none⟩) (by simp; omega) _)⟩⟩
        case measure => simp [intOf] <;> omega
    · obtain rfl : k = g.as.length := by omega
      have hge : ¬ (0 ≤ (g.as.length : Int) - 1 - (g.as.length : Int)) := by omega
      go_wp2_with fail
      go_ret
      have hbl : (belowG g l).length = V := by rw [belowG_length, HVV.out]
      refine ⟨w1.heap.size, ?_, HK.out.p, HX.out.low⟩
      rw [hbl]
      rfl
theorem rbelow_any (g : Gr) (l : Int) (A : Option Addr) (c : Nat) (w : World) (hr : rightB g = true) (hl : litB g l = true) (hp : Prs w w.heap.size A g.as) :
    Calls Try.prog 87 #[.agg #[.int .i64 g.n, .slice A g.as.length c], .int .i64 l] w (RetB w (belowG g l)) :=
  (rbelow_k g l A c w hr hl hp).mono fun e w' ⟨b, he, hb, hw⟩ => ⟨_, _, he, Nat.le_refl _, vals_of_blk hb, hw⟩
end Go.Proofs.Ytbdhkagcbncefaa

set_option linter.unusedVariables false
set_option linter.unusedSimpArgs false
namespace Go.Proofs.Ytbdhkagcbncefaa
open Go.RowKit Go.Maps Go.Shelf
attribute [local go_sem] Oper.semAt_some

set_option maxRecDepth 100000 in
set_option maxHeartbeats 2000000 in
theorem conebelow_k (g : Gr) (l : Int) (A : Option Addr) (c : Nat) (w : World) (hr : rightB g = true) (hl : litB g l = true) (hp : Prs w w.heap.size A g.as) :
    Calls Try.prog 93 #[.agg #[.int .i64 g.n, .slice A g.as.length c], .int .i64 l] w (RetK w (belowG g l)) := by
  obtain ⟨g0, g1, g2, g3⟩ := (size_iff g).1 (right_size hr)
  obtain ⟨_, _, l0, l1⟩ := (litB_iff g l).1 hl
  have hmf : ∀ (fn : Fn) (first cap : Array Value) (w : World), (Instr.makeFunc fn first cap).run Try.prog w = .ok (.func fn first cap) w := fun _ _ _ _ => rfl
  obtain ⟨V, cs0, hV, hcs, hmk⟩ := make_falses (g.n + 1 + (g.as.length : Int)) (by omega) (by omega)
  have hl2 : 0 ≤ l / 2 := by omega
  have hln : l / 2 < (V : Int) := by omega
  have hc0 : cs0[(l / 2).toNat]? = some (.bool false) := by
    rw [hcs, List.getElem?_toArray]
    unfold bools
    rw [List.getElem?_map, List.getElem?_replicate, if_pos (by omega)]
    rfl
  have HCS := Lib.hid hcs
  have HVV : Hid (g.vars.toNat = V) := by show g.vars.toNat = V; unfold Gr.vars; omega
  have HV := Lib.hid hV
  have HB0 := Lib.hid (Boxed.begin_ (w := w) (g := g) (A := A) (c := c))
  have b0 := HB0.out.c0
  have b1 := HB0.out.c1
  have HP := Lib.hid hp
  have HR := Lib.hid hr
  clear hcs hp hV hr
  refine (callsIn_wide (n := 3)).1 ?_
  refine callsIn_of_wp_marks Try.func93 rfl trivial ?_ rfl
  simp only [Try.ntmps93, List.size_toArray, List.length_cons, List.length_nil, Nat.reduceAdd, Nat.reduceSub, Array.replicate_succ, Array.replicate_zero, List.push_toArray, List.append_toArray, List.nil_append, List.cons_append]
  gi_wp2_with (refine ⟨trivial, ?_⟩; gi_at_call 101; refine (back_in Fence.wide 2 trivial rfl _ _ _ _).mono ?_; rintro e w' ⟨rfl, rfl⟩)
  have hset : cs0.setIfInBounds (l / 2).toNat (.bool true) = (bools (mark0 g l)).toArray := by
    rw [HCS.out, bools_set]
    unfold mark0
    rw [HVV.out]
  rw [hset]
  have B1 := Blk.new w 24 #[.int .i64 g.n, .slice A g.as.length c]
  have B2 := Blk.new (w.alloc (.cells #[.int .i64 g.n, .slice A g.as.length c] 24)) 4 (bools (mark0 g l)).toArray
  have B3 := Blk.new ((w.alloc (.cells #[.int .i64 g.n, .slice A g.as.length c] 24)).alloc (.cells (bools (mark0 g l)).toArray 4)) 25 #[.slice (some ⟨w.heap.size + 1, 0, none⟩) V V]
  have B4 := Blk.new (((w.alloc (.cells #[.int .i64 g.n, .slice A g.as.length c] 24)).alloc (.cells (bools (mark0 g l)).toArray 4)).alloc (.cells #[.slice (some ⟨w.heap.size + 1, 0, none⟩) V V] 25)) 22 #[.slice A g.as.length c]
  replace B1 := ((B1.alloc (.cells (bools (mark0 g l)).toArray 4)).alloc (.cells #[.slice (some ⟨w.heap.size + 1, 0, none⟩) V V] 25)).alloc (.cells #[.slice A g.as.length c] 22)
  replace B2 := (B2.alloc (.cells #[.slice (some ⟨w.heap.size + 1, 0, none⟩) V V] 25)).alloc (.cells #[.slice A g.as.length c] 22)
  replace B3 := B3.alloc (.cells #[.slice A g.as.length c] 22)
  simp only [World.size_alloc] at B2 B3 B4
  have hB0 : Below w.heap.size w ((((w.alloc (.cells #[.int .i64 g.n, .slice A g.as.length c] 24)).alloc (.cells (bools (mark0 g l)).toArray 4)).alloc (.cells #[.slice (some ⟨w.heap.size + 1, 0, none⟩) V V] 25)).alloc (.cells #[.slice A g.as.length c] 22)) := (((((Below.refl _ w).alloc (Nat.le_refl _) _).alloc (by simp) _).alloc (by simp; omega) _).alloc (by simp; omega) _)
  have hsz : ((((w.alloc (.cells #[.int .i64 g.n, .slice A g.as.length c] 24)).alloc (.cells (bools (mark0 g l)).toArray 4)).alloc (.cells #[.slice (some ⟨w.heap.size + 1, 0, none⟩) V V] 25)).alloc (.cells #[.slice A g.as.length c] 22)).heap.size = w.heap.size + 4 := by simp
  obtain ⟨W0, hW0⟩ : ∃ W0, (((w.alloc (.cells #[.int .i64 g.n, .slice A g.as.length c] 24)).alloc (.cells (bools (mark0 g l)).toArray 4)).alloc (.cells #[.slice (some ⟨w.heap.size + 1, 0, none⟩) V V] 25)).alloc (.cells #[.slice A g.as.length c] 22) = W0 := ⟨_, rfl⟩
  rw [hW0] at B1 B2 B3 B4 hB0 hsz ⊢
  clear hW0 b0 b1 hmk hset hc0
  obtain ⟨xs, hxl, hxx⟩ := placed_all g
  have hq : ∀ i, (i < w.heap.size ∨ i = w.heap.size + 3) → i < w.heap.size + 4 := fun i h => by omega
  refine wpIn_rangeFunc_ownH (w := W0) rfl (by omega) (gf := 108) (lb := #[.pointer (some ⟨w.heap.size + 1 + 1 + 1, 0, none⟩)]) rfl trivial (enters_of Try.func108 (by kernel_rfl) rfl)
    (back_stops Fence.wide 2 trivial rfl (by omega) g xs hxl hxx g2 (w.heap.size + 1 + 1 + 1) c A (fun i => i < w.heap.size ∨ i = w.heap.size + 3) W0 (by rw [hsz]; exact hq) (.inr rfl) (B4.cell 0) (((HP.out.below hB0).q).imp fun b hb _ => .inl hb))
    KeepQ.trans (keepQ_b (by rw [hsz]; exact hq)) (Below.refl _ _) (fun _ => rfl)
    (fun pre W => (((Blk W w.heap.size 24 #[.int .i64 g.n, .slice A g.as.length c] ∧ Blk W (w.heap.size + 1) 4 (bools (marksOf (mark0 g l) pre)).toArray) ∧ Blk W (w.heap.size + 1 + 1) 25 #[.slice (some ⟨w.heap.size + 1, 0, none⟩) V V]) ∧ Blk W (w.heap.size + 1 + 1 + 1) 22 #[.slice A g.as.length c]) ∧ Below w.heap.size w W)
    (fun _ _ _ => False)
    (OwnFrom.and (OwnFrom.and (OwnFrom.and (OwnFrom.and (Own.from (blk_own _ _ (fun _ => #[.int .i64 g.n, .slice A g.as.length c])) _) (Own.from (blk_own _ _ (fun pre => (bools (marksOf (mark0 g l) pre)).toArray)) _)) (Own.from (blk_own _ _ (fun _ => #[.slice (some ⟨w.heap.size + 1, 0, none⟩) V V])) _)) (Own.from (blk_own _ _ (fun _ => #[.slice A g.as.length c])) _)) (ownFrom_below (Nat.le_refl _) (by rw [hsz]; omega)))
    (fun _ _ _ _ _ hs _ _ => hs)
    ⟨⟨⟨⟨B1, B2⟩, B3⟩, B4⟩, hB0⟩
    (fun x a' W => ∃ Bx, w.heap.size + 3 < Bx ∧ Blk W Bx 41 #[.int .i64 x.1.2.1, .int .i64 x.1.2.2] ∧ a' = { tmps := #[.agg #[.int .i64 g.n, .slice A g.as.length c], .int .i64 l, .pointer (some ⟨w.heap.size, 0, none⟩), undef, .slice none 0 0, .pointer (some ⟨w.heap.size + 1 + 1, 0, none⟩), .int .i64 (x.1.1 : Int), .pointer (some ⟨Bx, 0, none⟩), .pointer (some ⟨w.heap.size, 0, none⟩), .int .i64 g.n, .int .i64 (g.n + 1), .pointer (some ⟨w.heap.size, 1, none⟩), .slice A g.as.length c, .int .i64 (g.as.length : Int), .int .i64 (g.n + 1 + (g.as.length : Int)), .slice (some ⟨w.heap.size + 1, 0, none⟩) V V, .slice (some ⟨w.heap.size + 1, 0, none⟩) V V, .int .i64 l, .int .i64 (l / 2), .pointer (some ⟨w.heap.size + 1, (l / 2).toNat, none⟩), .pointer (some ⟨w.heap.size, 1, none⟩), .slice A g.as.length c, .func (.func 108) #[] #[.pointer (some ⟨w.heap.size + 1 + 1 + 1, 0, none⟩)], .int .i64 (x.1.1 : Int), .agg #[.int .i64 x.1.2.1, .int .i64 x.1.2.2], undef, undef, undef, undef, undef, undef, undef, undef, undef, undef, undef, undef, undef, undef, undef, undef, undef, undef, undef], defers := [] })
    (fun x a' _ X Y row hs hg hr => by obtain ⟨Bx, h1, h2, h3⟩ := hs; exact ⟨Bx, h1, blk_own Bx 41 (fun (_ : Unit) => #[.int .i64 x.1.2.1, .int .i64 x.1.2.2]) () X Y row h2 hg (fun r e => (hr r e).2), h3⟩)
    ?assign ?body ?done ?stop
  case assign =>
    rintro l' pre x W K ⟨⟨⟨⟨b1, b2⟩, b3⟩, b4⟩, hB⟩ hK
    gi_wp2
    have hlt := b4.lt
    exact hK _ _ ((KeepsOthers.alloc _ _).from _) (KeepQ.alloc (fun i hi => by omega) _) ⟨⟨⟨⟨b1.alloc _, b2.alloc _⟩, b3.alloc _⟩, b4.alloc _⟩, hB.alloc hB.size _⟩ ⟨W.heap.size, by omega, Blk.new W _ _, rfl⟩
  case body =>
    rintro l' pre x a' W hl' ⟨r, hr⟩ ⟨⟨⟨⟨b1, b2⟩, b3⟩, b4⟩, hB⟩ ⟨Bx, hBx, bX, rfl⟩ hlt
    obtain ⟨_, hall, _⟩ := (right_iff g).1 HR.out
    obtain ⟨m1, m2, m3⟩ := (of_decide_eq_true (hall _ _ x.2) : 2 ≤ x.1.2.2 ∧ x.1.2.2 / 2 < x.1.2.1 / 2 ∧ x.1.2.1 / 2 < g.n + 1 + (x.1.1 : Nat))
    have hil : x.1.1 < g.as.length := (List.getElem?_eq_some_iff.1 x.2).1
    have hml : (marksOf (mark0 g l) pre).length = V := by rw [marksOf_length, mark0_length, HVV.out]
    have hVV := HV.out
    have i1 : 0 ≤ g.n + 1 + ((x.1.1 : Nat) : Int) := by omega
    have i2 : g.n + 1 + ((x.1.1 : Nat) : Int) < (V : Int) := by omega
    have HSN : Hid (marksOf (mark0 g l) (pre ++ [x]) = mark g.n (marksOf (mark0 g l) pre) x.1.1 x.1.2) := marksOf_snoc _ _ _
    obtain ⟨bit, hbit⟩ : ∃ y, (marksOf (mark0 g l) pre)[(g.n + 1 + ((x.1.1 : Nat) : Int)).toNat]? = some y := ⟨_, List.getElem?_eq_getElem (by rw [hml]; omega)⟩
    obtain ⟨y1, hy1⟩ : ∃ y, (marksOf (mark0 g l) pre)[(x.1.2.1 / 2).toNat]? = some y := ⟨_, List.getElem?_eq_getElem (by rw [hml]; omega)⟩
    have hy2l : (x.1.2.2 / 2).toNat < (marksOf (mark0 g l) pre).length := by rw [hml]; omega
    have hl1 : x.1.2.1 / 2 < (V : Int) := by omega
    have hl2' : x.1.2.2 / 2 < (V : Int) := by omega
    clear hVV
    have cmk : W.cell? ⟨w.heap.size + 1, (g.n + 1 + ((x.1.1 : Nat) : Int)).toNat, none⟩ = some (.bool bit) := by
      rw [b2.cell, List.getElem?_toArray]
      exact bools_get hbit
    have cg0 : W.cell? ⟨w.heap.size, 0, none⟩ = some (.int .i64 g.n) := b1.cell 0
    have cv : W.cell? ⟨w.heap.size + 1 + 1, 0, none⟩ = some (.slice (some ⟨w.heap.size + 1, 0, none⟩) V V) := b3.cell 0
    have hlt4 := b4.lt
    generalize marksOf (mark0 g l) pre = m at hml hbit hy1 hy2l b2 HSN
    cases bit
    · rw [mark_no hbit] at HSN
      gi_wp2
      exact ⟨KeepsFrom.refl _ _, KeepQ.refl _ _, ⟨⟨⟨b1, by rw [HSN.out]; exact b2⟩, b3⟩, b4⟩, hB⟩
    · rw [mark_yes hbit] at HSN
      have cp1 : W.cell? ⟨Bx, 0, none⟩ = some (.int .i64 x.1.2.1) := bX.cell 0
      have cp2 : W.cell? ⟨Bx, 1, none⟩ = some (.int .i64 x.1.2.2) := bX.cell 1
      have hw1 : IntKind.i64.wrap (Int.tdiv x.1.2.1 2) = x.1.2.1 / 2 := by
        rw [Int.tdiv_eq_ediv_of_nonneg (by omega)]
        exact IntWalk.i64_in _ (by omega)
      have hw2 : IntKind.i64.wrap (Int.tdiv x.1.2.2 2) = x.1.2.2 / 2 := by
        rw [Int.tdiv_eq_ediv_of_nonneg (by omega)]
        exact IntWalk.i64_in _ (by omega)
      have j1 : 0 ≤ x.1.2.1 / 2 := by omega
      have j3 : 0 ≤ x.1.2.2 / 2 := by omega
      have e1 : W.cell? ⟨w.heap.size + 1, (x.1.2.1 / 2).toNat, none⟩ = some (.bool y1) := by
        rw [b2.cell, List.getElem?_toArray]
        exact bools_get hy1
      have f1 : W.frozen? ⟨w.heap.size + 1, (x.1.2.1 / 2).toNat, none⟩ = false := b2.frozen _
      have b2' := b2.set_ (x.1.2.1 / 2).toNat (.bool true)
      rw [bools_set] at b2'
      have b2'' := b2'.set_ (x.1.2.2 / 2).toNat (.bool true)
      rw [bools_set] at b2''
      have HB2 := Lib.hid b2''
      have f2 : (W.setCell ⟨w.heap.size + 1, (x.1.2.1 / 2).toNat, none⟩ (.bool true)).frozen? ⟨w.heap.size + 1, (x.1.2.2 / 2).toNat, none⟩ = false := b2'.frozen _
      obtain ⟨y2, hy2⟩ : ∃ y, (m.set (x.1.2.1 / 2).toNat true)[(x.1.2.2 / 2).toNat]? = some y := ⟨_, List.getElem?_eq_getElem (by rw [List.length_set]; exact hy2l)⟩
      have e2 : (W.setCell ⟨w.heap.size + 1, (x.1.2.1 / 2).toNat, none⟩ (.bool true)).cell? ⟨w.heap.size + 1, (x.1.2.2 / 2).toNat, none⟩ = some (.bool y2) := by
        rw [b2'.cell, List.getElem?_toArray]
        exact bools_get hy2
      have hqn : ¬ (w.heap.size + 1 < w.heap.size ∨ w.heap.size + 1 = w.heap.size + 3) := by omega
      have HSS : Hid (∀ p : Addr, p.block = w.heap.size + 1 → ∀ (W' : World) (u : Value), (W'.cell? ⟨w.heap.size + 1 + 1, 0, none⟩ = some (.slice (some ⟨w.heap.size + 1, 0, none⟩) V V) ∧ W'.cell? ⟨Bx, 0, none⟩ = some (.int .i64 x.1.2.1) ∧ W'.cell? ⟨Bx, 1, none⟩ = some (.int .i64 x.1.2.2)) →
          ((W'.setCell p u).cell? ⟨w.heap.size + 1 + 1, 0, none⟩ = some (.slice (some ⟨w.heap.size + 1, 0, none⟩) V V) ∧ (W'.setCell p u).cell? ⟨Bx, 0, none⟩ = some (.int .i64 x.1.2.1) ∧ (W'.setCell p u).cell? ⟨Bx, 1, none⟩ = some (.int .i64 x.1.2.2))) := fun p hp W' u h => by
        refine ⟨?_, ?_, ?_⟩
        · rw [World.cell?_setCell_far _ _ _ _ (by rw [hp]; simp)]; exact h.1
        · rw [World.cell?_setCell_far _ _ _ _ (by rw [hp]; simp; omega)]; exact h.2.1
        · rw [World.cell?_setCell_far _ _ _ _ (by rw [hp]; simp; omega)]; exact h.2.2
      clear b2' b2'' hy2 hy1 hbit
      gi_wp2
      refine wpIn_region_noPanic ?_
      refine wpIn_region_seq (fun W => W.cell? ⟨w.heap.size + 1 + 1, 0, none⟩ = some (.slice (some ⟨w.heap.size + 1, 0, none⟩) V V) ∧ W.cell? ⟨Bx, 0, none⟩ = some (.int .i64 x.1.2.1) ∧ W.cell? ⟨Bx, 1, none⟩ = some (.int .i64 x.1.2.2)) [0, 1, 2, 3, 4, 5, 6, 7, 8, 9, 10, 11] [0, 1, 2, 3, 4, 5, 6, 7, 8, 10] [] (by kernel_rfl) (by kernel_rfl) (by kernel_rfl) rfl (by kernel_rfl) (by kernel_rfl) (fun _ _ _ _ _ h => h) ?_ (fun hSS => ?_)
      · exact ⟨cv, cp1, cp2⟩
      (refine wpSeqIn_mov rfl rfl ?_; intro o ho; simp only [List.getElem?_toArray, List.getElem?_cons_zero, List.getElem?_cons_succ, Option.some.injEq] at ho; subst ho; refine ⟨?_, fun _ _ => rfl⟩; refine ⟨?_, Or.inl ⟨by rfl, fun W hSW => ?_⟩, ?_⟩; rotate_left; (focus (go_simp; first | done | with_reducible rfl)); try simp only [Act.put, List.setIfInBounds_toArray, List.set_cons_zero, List.set_cons_succ])
      (refine wpSeqIn_mov rfl rfl ?_; intro o ho; simp only [List.getElem?_toArray, List.getElem?_cons_zero, List.getElem?_cons_succ, Option.some.injEq] at ho; subst ho; refine ⟨?_, fun _ _ => rfl⟩; refine ⟨?_, Or.inl ⟨by rfl, fun W hSW => ?_⟩, ?_⟩; rotate_left; (focus (go_simp; first | done | with_reducible rfl)); try simp only [Act.put, List.setIfInBounds_toArray, List.set_cons_zero, List.set_cons_succ])
      (refine wpSeqIn_mov rfl rfl ?_; intro o ho; simp only [List.getElem?_toArray, List.getElem?_cons_zero, List.getElem?_cons_succ, Option.some.injEq] at ho; subst ho; refine ⟨?_, fun _ _ => rfl⟩; refine ⟨?_, Or.inl ⟨by rfl, fun W hSW => ?_⟩, ?_⟩; rotate_left; (focus (go_simp; first | done | with_reducible rfl)); try simp only [Act.put, List.setIfInBounds_toArray, List.set_cons_zero, List.set_cons_succ])
      (refine wpSeqIn_mov rfl rfl ?_; intro o ho; simp only [List.getElem?_toArray, List.getElem?_cons_zero, List.getElem?_cons_succ, Option.some.injEq] at ho; subst ho; refine ⟨?_, fun _ _ => rfl⟩; refine ⟨?_, Or.inl ⟨by rfl, fun W hSW => ?_⟩, ?_⟩; rotate_left; (focus (go_simp; first | done | with_reducible rfl)); try simp only [Act.put, List.setIfInBounds_toArray, List.set_cons_zero, List.set_cons_succ])
      (refine wpSeqIn_mov rfl rfl ?_; intro o ho; simp only [List.getElem?_toArray, List.getElem?_cons_zero, List.getElem?_cons_succ, Option.some.injEq] at ho; subst ho; refine ⟨?_, fun _ _ => rfl⟩; refine ⟨?_, Or.inl ⟨by rfl, fun W hSW => ?_⟩, ?_⟩; rotate_left; (focus (go_simp; first | done | with_reducible rfl)); try simp only [Act.put, List.setIfInBounds_toArray, List.set_cons_zero, List.set_cons_succ])
      (refine wpSeqIn_mov rfl rfl ?_; intro o ho; simp only [List.getElem?_toArray, List.getElem?_cons_zero, List.getElem?_cons_succ, Option.some.injEq] at ho; subst ho; refine ⟨?_, fun _ _ => rfl⟩; refine ⟨?_, Or.inl ⟨by rfl, fun W hSW => ?_⟩, ?_⟩; rotate_left; (focus (go_simp; first | done | with_reducible rfl)); try simp only [Act.put, List.setIfInBounds_toArray, List.set_cons_zero, List.set_cons_succ])
      (refine wpSeqIn_mov rfl rfl ?_; intro o ho; simp only [List.getElem?_toArray, List.getElem?_cons_zero, List.getElem?_cons_succ, Option.some.injEq] at ho; subst ho; refine ⟨?_, fun _ _ => rfl⟩; refine ⟨?_, Or.inl ⟨by rfl, fun W hSW => ?_⟩, ?_⟩; rotate_left; (focus (go_simp; first | done | with_reducible rfl)); try simp only [Act.put, List.setIfInBounds_toArray, List.set_cons_zero, List.set_cons_succ])
      (refine wpSeqIn_mov rfl rfl ?_; intro o ho; simp only [List.getElem?_toArray, List.getElem?_cons_zero, List.getElem?_cons_succ, Option.some.injEq] at ho; subst ho; refine ⟨?_, fun _ _ => rfl⟩; refine ⟨?_, Or.inl ⟨by rfl, fun W hSW => ?_⟩, ?_⟩; rotate_left; (focus (go_simp; first | done | with_reducible rfl)); try simp only [Act.put, List.setIfInBounds_toArray, List.set_cons_zero, List.set_cons_succ])
      (refine wpSeqIn_mov rfl rfl ?_; intro o ho; simp only [List.getElem?_toArray, List.getElem?_cons_zero, List.getElem?_cons_succ, Option.some.injEq] at ho; subst ho; refine ⟨?_, fun _ _ => rfl⟩; refine ⟨?_, Or.inl ⟨by rfl, fun W hSW => ?_⟩, ?_⟩; rotate_left; (focus (go_simp; first | done | with_reducible rfl)); try simp only [Act.put, List.setIfInBounds_toArray, List.set_cons_zero, List.set_cons_succ])
      (refine wpSeqIn_fix rfl rfl ?_; intro o ho; simp only [List.getElem?_toArray, List.getElem?_cons_zero, List.getElem?_cons_succ, Option.some.injEq] at ho; subst ho; intro K hK)
      go_simp
      (refine hK.out _ _ (fun _ => HSS.out _ rfl _ _ hSS) ?_; clear hK K; try simp only [Act.put, List.setIfInBounds_toArray, List.set_cons_zero, List.set_cons_succ])
      (refine wpSeqIn_mov rfl rfl ?_; intro o ho; simp only [List.getElem?_toArray, List.getElem?_cons_zero, List.getElem?_cons_succ, Option.some.injEq] at ho; subst ho; refine ⟨?_, fun _ _ => rfl⟩; refine ⟨?_, Or.inl ⟨by rfl, fun W hSW => ?_⟩, ?_⟩; rotate_left; (focus (go_simp; first | done | with_reducible rfl)); try simp only [Act.put, List.setIfInBounds_toArray, List.set_cons_zero, List.set_cons_succ])
      (refine wpSeqIn_fix rfl rfl ?_; intro o ho; simp only [List.getElem?_toArray, List.getElem?_cons_zero, List.getElem?_cons_succ, Option.some.injEq] at ho; subst ho; intro K hK)
      go_simp
      (refine hK.out _ _ (fun _ => HSS.out _ rfl _ _ (HSS.out _ rfl _ _ hSS)) ?_; clear hK K; try simp only [Act.put, List.setIfInBounds_toArray, List.set_cons_zero, List.set_cons_succ])
      refine wpSeqIn_done ?_
      have hB1 : Below w.heap.size W ((W.setCell ⟨w.heap.size + 1, (x.1.2.1 / 2).toNat, none⟩ (.bool true)).setCell ⟨w.heap.size + 1, (x.1.2.2 / 2).toNat, none⟩ (.bool true)) := ((Below.refl _ W).setCell (by simp) _).setCell (by simp) _
      exact ⟨(((KeepsOthers.setCell _ _ _).trans (KeepsOthers.setCell _ _ _)).trans (KeepsOthers.drew _)).from _, (KeepQ.setCell (p := ⟨w.heap.size + 1, (x.1.2.1 / 2).toNat, none⟩) hqn _).trans (KeepQ.setCell (p := ⟨w.heap.size + 1, (x.1.2.2 / 2).toNat, none⟩) hqn _),
        ⟨⟨⟨(b1.far (p := ⟨w.heap.size + 1, (x.1.2.1 / 2).toNat, none⟩) (by simp) _).far (p := ⟨w.heap.size + 1, (x.1.2.2 / 2).toNat, none⟩) (by simp) _, by rw [HSN.out]; exact HB2.out⟩, (b3.far (p := ⟨w.heap.size + 1, (x.1.2.1 / 2).toNat, none⟩) (by simp) _).far (p := ⟨w.heap.size + 1, (x.1.2.2 / 2).toNat, none⟩) (by simp) _⟩, (b4.far (p := ⟨w.heap.size + 1, (x.1.2.1 / 2).toNat, none⟩) (by simp; omega) _).far (p := ⟨w.heap.size + 1, (x.1.2.2 / 2).toNat, none⟩) (by simp; omega) _⟩, (hB.trans hB1).drew⟩
  case done =>
    rintro D ys W hD rfl ⟨⟨⟨⟨b1, b2⟩, b3⟩, b4⟩, hB⟩ hK
    have cv := b3.cell 0
    gi_wp2
    refine ⟨by simp, .inl ⟨_, _, rfl, run_takeDeferred hK, ?_⟩⟩
    refine ⟨_, results_tmp rfl _ _ _, ?_⟩
    have hbl : (belowG g l).length = V := by rw [belowG_length, HVV.out]
    have hmm : marksOf (mark0 g l) ys = belowG g l := by
      have := marksOf_take (m0 := mark0 g l) hxx ys.length (Nat.le_refl _)
      rw [List.take_length, hxl] at this
      exact this
    rw [hmm] at b2
    refine ⟨w.heap.size + 1, ?_, blk_put b2 hK rfl, hB.trans (belowK_b (w := w) (Nat.le_refl _) W D _ _ (by omega) hK rfl rfl)⟩
    rw [hbl]
    rfl
  case stop =>
    rintro D c' pre W _ _ h _
    exact h.elim
theorem conebelow_any (g : Gr) (l : Int) (A : Option Addr) (c : Nat) (w : World) (hr : rightB g = true) (hl : litB g l = true) (hp : Prs w w.heap.size A g.as) :
    Calls Try.prog 93 #[.agg #[.int .i64 g.n, .slice A g.as.length c], .int .i64 l] w (RetB w (belowG g l)) :=
  (conebelow_k g l A c w hr hl hp).mono fun e w' ⟨b, he, hb, hw⟩ => ⟨_, _, he, Nat.le_refl _, vals_of_blk hb, hw⟩
end Go.Proofs.Ytbdhkagcbncefaa

set_option linter.unusedVariables false
set_option linter.unusedSimpArgs false
namespace Go.Proofs.Ytbdhkagcbncefaa
open Go.RowKit Go.Maps

set_option maxRecDepth 100000 in
set_option maxHeartbeats 1000000 in
theorem idx_ints (F : FuncId) (hen : ∀ args w, (callFunc F args).run Try.prog w = .ok (.enter F args) w) (q : Option Addr) (p : Int → Bool) (l : List Int) (A : Option Addr) (c : Nat) (w : World) (hl : l.length ≤ 140737488355328) (hp : Vals w w.heap.size A (i64s l))
    (hF : ∀ x ∈ l, Calls Try.prog F #[.int .i64 x, .pointer q] w (fun e w' => e = .returned (.bool (p x)) ∧ w' = w)) :
    Calls Try.prog 105 #[.slice A l.length c, .func (.func F) #[] #[.pointer q]] w (fun e w' => (∃ r : Int, e = .returned (.int .i64 r) ∧ decide (0 ≤ r) = l.any p) ∧ w' = w) := by
  have HP := Lib.hid hp
  have HF := Lib.hid hF
  clear hp hF
  go_enter Try.func105, Try.ntmps105
  go_wp2_with fail
  go_loopw [8] (fun s wr => ∃ k : Nat, k ≤ l.length ∧ s = .int .i64 k ∧ Hid (∀ i x, i < k → l[i]? = some x → p x = false) ∧ wr = w) (fun s _ => l.length - (intOf s).toNat)
  case atStart => exact ⟨0, Nat.zero_le _, rfl, fun i x hi => by omega, rfl⟩
  case round =>
    obtain ⟨k, hk, rfl, hall, rfl⟩ := hrel
    by_cases hlt : k < l.length
    · have hlt' : (k : Int) < (l.length : Int) := by omega
      obtain ⟨x, hxk⟩ : ∃ x, l[k]? = some x := ⟨_, List.getElem?_eq_getElem hlt⟩
      obtain ⟨b, o, rfl, _, q1⟩ := HP.out k _ (i64s_at hxk)
      have HK := Lib.hid hxk
      clear hxk
      go_wp2_with fail
      refine (HF.out x (List.mem_of_getElem? HK.out)).mono ?_
      rintro e w2 ⟨rfl, rfl⟩
      cases hs : p x
      · have HS := Lib.hid hs
        clear hs
        go_wp2_with fail
        go_roundw
        case rel =>
          refine ⟨k + 1, by omega, by go_num, fun i x' hi hx' => ?_, trivial⟩
          rcases Nat.lt_or_ge i k with h | h
          · exact hall.out i x' h hx'
          · obtain rfl : i = k := by omega
            rw [HK.out] at hx'
            cases hx'
            exact HS.out
        case measure => simp [intOf]; omega
      · have HS := Lib.hid hs
        clear hs
        go_wp2_with fail
        go_ret
        refine ⟨⟨(k : Int), rfl, ?_⟩, rfl⟩
        rw [any_at HK.out HS.out, decide_eq_true (by omega)]
    · have hlt' : ¬ ((k : Int) < (l.length : Int)) := by omega
      go_wp2_with fail
      go_ret
      have hF : l.any p = false := any_take hall.out (by omega)
      exact ⟨⟨-1, rfl, by rw [hF]; rfl⟩, rfl⟩

theorem has_ints (F : FuncId) (hen : ∀ args w, (callFunc F args).run Try.prog w = .ok (.enter F args) w) (q : Option Addr) (p : Int → Bool) (l : List Int) (A : Option Addr) (c : Nat) (w : World) (hl : l.length ≤ 140737488355328) (hp : Vals w w.heap.size A (i64s l))
    (hF : ∀ x ∈ l, Calls Try.prog F #[.int .i64 x, .pointer q] w (fun e w' => e = .returned (.bool (p x)) ∧ w' = w)) :
    Calls Try.prog 84 #[.slice A l.length c, .func (.func F) #[] #[.pointer q]] w (fun e w' => e = .returned (.bool (l.any p)) ∧ w' = w) := by
  have HP := Lib.hid hp
  have HF := Lib.hid hF
  clear hp hF
  go_enter Try.func84, Try.ntmps84
  go_wp2_with fail
  refine (idx_ints F hen q p l A c _ hl HP.out HF.out).mono ?_
  rintro e w2 ⟨⟨r, rfl, hr⟩, rfl⟩
  go_wp2_with fail
  go_ret
  exact ⟨by rw [← hr]; rfl, rfl⟩

set_option maxRecDepth 100000 in
set_option maxHeartbeats 1000000 in
theorem idx_cls (F : FuncId) (hen : ∀ args w, (callFunc F args).run Try.prog w = .ok (.enter F args) w) (q : Option Addr) (p : List Int → Bool) (cs : List (List Int)) (A : Option Addr) (c : Nat) (w : World) (hl : cs.length ≤ 140737488355328) (hp : Cls w w.heap.size A cs)
    (hF : ∀ l ∈ cs, ∀ D d, Vals w w.heap.size D (i64s l) → Calls Try.prog F #[.slice D l.length d, .pointer q] w (fun e w' => e = .returned (.bool (p l)) ∧ w' = w)) :
    Calls Try.prog 104 #[.slice A cs.length c, .func (.func F) #[] #[.pointer q]] w (fun e w' => (∃ r : Int, e = .returned (.int .i64 r) ∧ decide (0 ≤ r) = cs.any p) ∧ w' = w) := by
  have HP := Lib.hid hp
  have HF := Lib.hid hF
  clear hp hF
  go_enter Try.func104, Try.ntmps104
  go_wp2_with fail
  go_loopw [8] (fun s wr => ∃ k : Nat, k ≤ cs.length ∧ s = .int .i64 k ∧ Hid (∀ i x, i < k → cs[i]? = some x → p x = false) ∧ wr = w) (fun s _ => cs.length - (intOf s).toNat)
  case atStart => exact ⟨0, Nat.zero_le _, rfl, fun i x hi => by omega, rfl⟩
  case round =>
    obtain ⟨k, hk, rfl, hall, rfl⟩ := hrel
    by_cases hlt : k < cs.length
    · have hlt' : (k : Int) < (cs.length : Int) := by omega
      obtain ⟨x, hxk⟩ : ∃ x, cs[k]? = some x := ⟨_, List.getElem?_eq_getElem hlt⟩
      obtain ⟨b, o, D, d, rfl, _, q1, _, hv⟩ := HP.out k _ hxk
      have HK := Lib.hid hxk
      have HV := Lib.hid hv
      clear hxk hv
      go_wp2_with fail
      refine (HF.out x (List.mem_of_getElem? HK.out) D d HV.out).mono ?_
      rintro e w2 ⟨rfl, rfl⟩
      cases hs : p x
      · have HS := Lib.hid hs
        clear hs
        go_wp2_with fail
        go_roundw
        case rel =>
          refine ⟨k + 1, by omega, by go_num, fun i x' hi hx' => ?_, trivial⟩
          rcases Nat.lt_or_ge i k with h | h
          · exact hall.out i x' h hx'
          · obtain rfl : i = k := by omega
            rw [HK.out] at hx'
            cases hx'
            exact HS.out
        case measure => simp [intOf]; omega
      · have HS := Lib.hid hs
        clear hs
        go_wp2_with fail
        go_ret
        refine ⟨⟨(k : Int), rfl, ?_⟩, rfl⟩
        rw [any_at HK.out HS.out, decide_eq_true (by omega)]
    · have hlt' : ¬ ((k : Int) < (cs.length : Int)) := by omega
      go_wp2_with fail
      go_ret
      have hF : cs.any p = false := any_take hall.out (by omega)
      exact ⟨⟨-1, rfl, by rw [hF]; rfl⟩, rfl⟩

theorem has_cls (F : FuncId) (hen : ∀ args w, (callFunc F args).run Try.prog w = .ok (.enter F args) w) (q : Option Addr) (p : List Int → Bool) (cs : List (List Int)) (A : Option Addr) (c : Nat) (w : World) (hl : cs.length ≤ 140737488355328) (hp : Cls w w.heap.size A cs)
    (hF : ∀ l ∈ cs, ∀ D d, Vals w w.heap.size D (i64s l) → Calls Try.prog F #[.slice D l.length d, .pointer q] w (fun e w' => e = .returned (.bool (p l)) ∧ w' = w)) :
    Calls Try.prog 82 #[.slice A cs.length c, .func (.func F) #[] #[.pointer q]] w (fun e w' => e = .returned (.bool (cs.any p)) ∧ w' = w) := by
  have HP := Lib.hid hp
  have HF := Lib.hid hF
  clear hp hF
  go_enter Try.func82, Try.ntmps82
  go_wp2_with fail
  refine (idx_cls F hen q p cs A c _ hl HP.out HF.out).mono ?_
  rintro e w2 ⟨⟨r, rfl, hr⟩, rfl⟩
  go_wp2_with fail
  go_ret
  exact ⟨by rw [← hr]; rfl, rfl⟩
end Go.Proofs.Ytbdhkagcbncefaa

set_option linter.unusedVariables false
set_option linter.unusedSimpArgs false
namespace Go.Proofs.Ytbdhkagcbncefaa
open Go.RowKit Go.Maps

/-- The closures have bodies. -/
theorem en_odd : ∀ args w, (callFunc 102 args).run Try.prog w = .ok (.enter 102 args) w := fun _ _ => by
  simp [callFunc, go_sem, Try.func102, Try.f102]
theorem en_bad : ∀ args w, (callFunc 103 args).run Try.prog w = .ok (.enter 103 args) w := fun _ _ => by
  simp [callFunc, go_sem, Try.func103, Try.f103]
theorem en_is : ∀ args w, (callFunc 81 args).run Try.prog w = .ok (.enter 81 args) w := fun _ _ => by
  simp [callFunc, go_sem, Try.func81, Try.f81]
theorem en_unso : ∀ args w, (callFunc 83 args).run Try.prog w = .ok (.enter 83 args) w := fun _ _ => by
  simp [callFunc, go_sem, Try.func83, Try.f83]
/-- A literal is odd: the closure. -/
theorem odd_any (v x : Int) (b : Nat) (w : World) (v0 : 0 ≤ v) (v1 : v ≤ 2000) (hc : w.cell? ⟨b, 0, none⟩ = some (.int .i64 v)) :
    Calls Try.prog 102 #[.int .i64 x, .pointer (some ⟨b, 0, none⟩)] w (fun e w' => e = .returned (.bool (oddX v x)) ∧ w' = w) := by
  have hw : IntKind.i64.wrap (-v) = -v := IntWalk.i64_in _ (by omega)
  by_cases x0 : x = 0
  · have x0' : (x == 0) = true := by simpa using x0
    have HE : Hid (oddX v x = true) := by show oddX v x = true; unfold oddX; rw [x0']; rfl
    clear x0
    go_enter Try.func102, Try.ntmps102
    go_wp2_with fail
    go_ret
    exact ⟨by rw [HE.out]; rfl, rfl⟩
  · have x0' : (x == 0) = false := by simpa using x0
    by_cases x1 : v < x
    · have HE : Hid (oddX v x = true) := by show oddX v x = true; unfold oddX; rw [x0', decide_eq_true x1]; rfl
      clear x0
      go_enter Try.func102, Try.ntmps102
      go_wp2_with fail
      go_ret
      exact ⟨by rw [HE.out]; rfl, rfl⟩
    · by_cases x2 : x < -v
      · have HE : Hid (oddX v x = true) := by show oddX v x = true; unfold oddX; rw [x0', decide_eq_false x1, decide_eq_true x2]; rfl
        clear x0
        go_enter Try.func102, Try.ntmps102
        go_wp2_with fail
        go_ret
        exact ⟨by rw [HE.out]; rfl, rfl⟩
      · have HE : Hid (oddX v x = false) := by show oddX v x = false; unfold oddX; rw [x0', decide_eq_false x1, decide_eq_false x2]; rfl
        clear x0
        go_enter Try.func102, Try.ntmps102
        go_wp2_with fail
        go_ret
        exact ⟨by rw [HE.out]; rfl, rfl⟩

theorem bad_any (v : Int) (l : List Int) (D : Option Addr) (d b b3 : Nat) (w : World) (v0 : 0 ≤ v) (v1 : v ≤ 2000) (hl : l.length ≤ 140737488355328) (hc : w.cell? ⟨b, 0, none⟩ = some (.int .i64 v)) (hf : w.cell? ⟨b3, 0, none⟩ = some (.func (.func 102) #[] #[.pointer (some ⟨b, 0, none⟩)])) (hv : Vals w w.heap.size D (i64s l)) :
    Calls Try.prog 103 #[.slice D l.length d, .pointer (some ⟨b3, 0, none⟩)] w (fun e w' => e = .returned (.bool (l.any (oddX v))) ∧ w' = w) := by
  have HV := Lib.hid hv
  clear hv
  go_enter Try.func103, Try.ntmps103
  go_wp2_with fail
  refine (has_ints _ en_odd _ (oddX v) l D d _ hl HV.out (fun x _ => odd_any v x b _ v0 v1 hc)).mono ?_
  rintro e w2 ⟨rfl, rfl⟩
  go_wp2_with fail
  go_ret
  exact ⟨rfl, rfl⟩

set_option maxHeartbeats 2000000 in
theorem cright_any (v : Int) (cs : List (List Int)) (A : Option Addr) (c : Nat) (w : World) (hl : cs.length ≤ 140737488355328) (hls : ∀ l ∈ cs, l.length ≤ 140737488355328) (hp : Cls w w.heap.size A cs) :
    Calls Try.prog 80 #[.agg #[.int .i64 v, .slice A cs.length c]] w (Ret w (.bool (rightC v cs))) := by
  have hnot := @not_run Try.prog
  have hmf : ∀ (fn : Fn) (first cap : Array Value) (w : World), (Instr.makeFunc fn first cap).run Try.prog w = .ok (.func fn first cap) w := fun _ _ _ _ => rfl
  have B0 := (Blk.new w 57 #[.int .i64 v, .slice A cs.length c]).alloc (.cells #[.func (.func 102) #[] #[.pointer (some ⟨w.heap.size, 0, none⟩)]] 77)
  have B1 := Blk.new (w.alloc (.cells #[.int .i64 v, .slice A cs.length c] 57)) 77 #[.func (.func 102) #[] #[.pointer (some ⟨w.heap.size, 0, none⟩)]]
  rw [World.size_alloc] at B1
  have hB0 : Below w.heap.size w ((w.alloc (.cells #[.int .i64 v, .slice A cs.length c] 57)).alloc (.cells #[.func (.func 102) #[] #[.pointer (some ⟨w.heap.size, 0, none⟩)]] 77)) := ((Below.refl _ w).alloc (Nat.le_refl _) _).alloc (by simp) _
  have HP := Lib.hid hp
  have HLS := Lib.hid hls
  have HB := Lib.hid hB0
  have HK := Lib.hid B0
  have HJ := Lib.hid B1
  clear hp hls hB0 B0 B1
  by_cases v0 : 0 ≤ v
  · by_cases v1 : v ≤ 2000
    · by_cases v2 : (cs.length : Int) ≤ 100000
      · have HE : Hid (rightC v cs = !cs.any (fun l => l.any (oddX v))) := by show rightC v cs = _; unfold rightC; rw [decide_eq_true v0, decide_eq_true v1, decide_eq_true (by omega)]; rfl
        go_enter Try.func80, Try.ntmps80
        go_wp2_with fail
        refine (has_cls _ en_bad _ (fun l => l.any (oddX v)) cs A c _ hl (HP.out.after HB.out) (fun l hl' D d hv => bad_any v l D d w.heap.size (w.heap.size + 1) _ v0 v1 (HLS.out l hl') (HK.out.cell 0) (HJ.out.cell 0) hv)).mono ?_
        rintro e w2 ⟨rfl, rfl⟩
        go_wp2_with fail
        go_ret
        exact ⟨by rw [HE.out]; rfl, HB.out⟩
      · have HF : Hid (rightC v cs = false) := by show rightC v cs = false; unfold rightC; rw [decide_eq_false (p := cs.length ≤ 100000) (by omega)]; simp
        go_enter Try.func80, Try.ntmps80
        go_wp2_with fail
        go_ret
        exact ⟨by rw [HF.out]; rfl, HB.out⟩
    · have HF : Hid (rightC v cs = false) := by show rightC v cs = false; unfold rightC; rw [decide_eq_false v1]; simp
      go_enter Try.func80, Try.ntmps80
      go_wp2_with fail
      go_ret
      exact ⟨by rw [HF.out]; rfl, HB.out⟩
  · have HF : Hid (rightC v cs = false) := by show rightC v cs = false; unfold rightC; rw [decide_eq_false v0]; simp
    go_enter Try.func80, Try.ntmps80
    go_wp2_with fail
    go_ret
    exact ⟨by rw [HF.out]; rfl, HB.out⟩

/-- A literal is so: the closure. -/
theorem is_any (m : List Bool) (x : Int) (B : Option Addr) (d b : Nat) (w : World) (hm : m.length ≤ 140737488355328) (hx : x ≠ 0 ∧ x ≤ m.length ∧ -(m.length : Int) ≤ x) (hc : w.cell? ⟨b, 0, none⟩ = some (.slice B m.length d)) (hq : Vals w w.heap.size B (bools m)) :
    Calls Try.prog 81 #[.int .i64 x, .pointer (some ⟨b, 0, none⟩)] w (fun e w' => e = .returned (.bool (soX m x)) ∧ w' = w) := by
  have hnot := @not_run Try.prog
  have HQ := Lib.hid hq
  obtain ⟨x0, x1, x2⟩ := hx
  clear hq
  by_cases hpos : 0 < x
  · obtain ⟨y, hy⟩ : ∃ y, m[(x - 1).toNat]? = some y := ⟨_, List.getElem?_eq_getElem (by omega)⟩
    obtain ⟨b2, o2, rfl, _, q2⟩ := HQ.out _ _ (bools_get hy)
    rw [show (x - 1).toNat = x.toNat - 1 by omega] at q2
    have i1 : 0 ≤ x - 1 := by omega
    have i2 : x - 1 < (m.length : Int) := by omega
    have hneg : ¬ x < 0 := by omega
    have HY : Hid (soX m x = y) := soX_pos hpos hy
    clear hy x0
    cases y
    · go_enter Try.func81, Try.ntmps81
      go_wp2_with fail
      go_ret
      exact ⟨by rw [HY.out]; rfl, rfl⟩
    · go_enter Try.func81, Try.ntmps81
      go_wp2_with fail
      go_ret
      exact ⟨by rw [HY.out]; rfl, rfl⟩
  · have hneg : x < 0 := by omega
    obtain ⟨y, hy⟩ : ∃ y, m[(-x - 1).toNat]? = some y := ⟨_, List.getElem?_eq_getElem (by omega)⟩
    obtain ⟨b2, o2, rfl, _, q2⟩ := HQ.out _ _ (bools_get hy)
    rw [show (-x - 1).toNat = (-x).toNat - 1 by omega] at q2
    have i1 : 0 ≤ -x - 1 := by omega
    have i2 : -x - 1 < (m.length : Int) := by omega
    have HY : Hid (soX m x = !y) := soX_neg hneg hy
    clear hy x0
    cases y
    · go_enter Try.func81, Try.ntmps81
      go_wp2_with fail
      go_ret
      exact ⟨by rw [HY.out]; rfl, rfl⟩
    · go_enter Try.func81, Try.ntmps81
      go_wp2_with fail
      go_ret
      exact ⟨by rw [HY.out]; rfl, rfl⟩

theorem unso_any (m : List Bool) (l : List Int) (D B : Option Addr) (d db b b3 : Nat) (w : World) (hm : m.length ≤ 140737488355328) (hl : l.length ≤ 140737488355328) (hx : ∀ x ∈ l, x ≠ 0 ∧ x ≤ m.length ∧ -(m.length : Int) ≤ x) (hc : w.cell? ⟨b, 0, none⟩ = some (.slice B m.length db)) (hq : Vals w w.heap.size B (bools m)) (hf : w.cell? ⟨b3, 0, none⟩ = some (.func (.func 81) #[] #[.pointer (some ⟨b, 0, none⟩)])) (hv : Vals w w.heap.size D (i64s l)) :
    Calls Try.prog 83 #[.slice D l.length d, .pointer (some ⟨b3, 0, none⟩)] w (fun e w' => e = .returned (.bool (!l.any (soX m))) ∧ w' = w) := by
  have hnot := @not_run Try.prog
  have HV := Lib.hid hv
  have HQ := Lib.hid hq
  have HX := Lib.hid hx
  clear hv hq hx
  go_enter Try.func83, Try.ntmps83
  go_wp2_with fail
  refine (has_ints _ en_is _ (soX m) l D d _ hl HV.out (fun x hx' => is_any m x B db b _ hm (HX.out x hx') hc HQ.out)).mono ?_
  rintro e w2 ⟨rfl, rfl⟩
  go_wp2_with fail
  go_ret
  exact ⟨rfl, rfl⟩

set_option maxHeartbeats 2000000 in
theorem cso_any (v : Int) (cs : List (List Int)) (m : List Bool) (A B : Option Addr) (c d : Nat) (w : World) (hl : cs.length ≤ 140737488355328) (hls : ∀ l ∈ cs, l.length ≤ 140737488355328) (hml : m.length ≤ 140737488355328) (hp : Cls w w.heap.size A cs) (hq : Vals w w.heap.size B (bools m)) :
    Calls Try.prog 50 #[.agg #[.int .i64 v, .slice A cs.length c], .slice B m.length d] w (Ret w (.bool (soC v cs m))) := by
  have hnot := @not_run Try.prog
  have hmf : ∀ (fn : Fn) (first cap : Array Value) (w : World), (Instr.makeFunc fn first cap).run Try.prog w = .ok (.func fn first cap) w := fun _ _ _ _ => rfl
  have B0 := (Blk.new w 57 #[.int .i64 v, .slice A cs.length c]).alloc (.cells #[.slice B m.length d] 102)
  have B1 := Blk.new (w.alloc (.cells #[.int .i64 v, .slice A cs.length c] 57)) 102 #[.slice B m.length d]
  rw [World.size_alloc] at B1
  have hB0 : Below w.heap.size w ((w.alloc (.cells #[.int .i64 v, .slice A cs.length c] 57)).alloc (.cells #[.slice B m.length d] 102)) := ((Below.refl _ w).alloc (Nat.le_refl _) _).alloc (by simp) _
  have HP := Lib.hid hp
  have HQ := Lib.hid hq
  have HLS := Lib.hid hls
  have HB := Lib.hid hB0
  have HK := Lib.hid B0
  have HJ := Lib.hid B1
  clear hp hq hls hB0 B0 B1
  go_enter Try.func50, Try.ntmps50
  go_wp2_with fail
  refine (cright_any v cs A c _ hl HLS.out (HP.out.after HB.out)).mono ?_
  rintro e w1 ⟨rfl, hb1⟩
  have HB1 := Lib.hid (below2 HB.out HB.out.size hb1)
  have HK1 := Lib.hid (HK.out.below hb1 HK.out.lt)
  have HJ1 := Lib.hid (HJ.out.below hb1 HJ.out.lt)
  clear hb1 HB HK HJ
  have c0 := HK1.out.cell 0
  have c1 := HK1.out.cell 1
  have d0 := HJ1.out.cell 0
  cases hr : rightC v cs
  · have HF : Hid (soC v cs m = false) := by show soC v cs m = false; unfold soC; rw [hr]; rfl
    clear hr
    go_wp2_with fail
    go_ret
    exact ⟨by rw [HF.out]; rfl, HB1.out⟩
  · by_cases hn : (m.length : Int) = v
    · subst hn
      have HE : Hid (soC m.length cs m = !cs.any (fun l => !l.any (soX m))) := by show soC _ cs m = _; unfold soC; rw [hr, decide_eq_true rfl]; rfl
      have HR := Lib.hid hr
      have hn' : ((m.length : Int) != (m.length : Int)) = false := by simp
      have HB2 := Lib.hid (below2 HB1.out HB1.out.size (stepA w1 (.cells #[.func (.func 81) #[] #[.pointer (some ⟨w.heap.size + 1, 0, none⟩)]] 77)))
      have HN := Lib.hid (Blk.new w1 77 #[.func (.func 81) #[] #[.pointer (some ⟨w.heap.size + 1, 0, none⟩)]])
      have HJ2 := Lib.hid (HJ1.out.alloc (.cells #[.func (.func 81) #[] #[.pointer (some ⟨w.heap.size + 1, 0, none⟩)]] 77))
      have HK2 := Lib.hid (HK1.out.alloc (.cells #[.func (.func 81) #[] #[.pointer (some ⟨w.heap.size + 1, 0, none⟩)]] 77))
      have hs1 : w.heap.size < w1.heap.size := HK1.out.lt
      clear hr
      go_wp2_with fail
      refine (has_cls _ en_unso _ (fun l => !l.any (soX m)) cs A c _ hl (HP.out.after HB2.out) (fun l hl' D d' hv => unso_any m l D B d' d (w.heap.size + 1) w1.heap.size _ hml (HLS.out l hl') ((rightC_iff.1 HR.out).2.2.2 l hl') (HJ2.out.cell 0) (HQ.out.after HB2.out) (HN.out.cell 0) hv)).mono ?_
      rintro e w2 ⟨rfl, rfl⟩
      go_wp2_with fail
      go_ret
      exact ⟨by rw [HE.out]; rfl, HB2.out⟩
    · have HF : Hid (soC v cs m = false) := by show soC v cs m = false; unfold soC; rw [hr, decide_eq_false hn]; rfl
      have hn' : ((m.length : Int) != v) = true := by simpa using hn
      clear hr hn
      go_wp2_with fail
      go_ret
      exact ⟨by rw [HF.out]; rfl, HB1.out⟩
end Go.Proofs.Ytbdhkagcbncefaa

set_option linter.unusedVariables false
set_option linter.unusedSimpArgs false
namespace Go.Proofs.Ytbdhkagcbncefaa
open Go.RowKit Go.Maps

/-- A clause with the block in which it lies. -/
abbrev Zs := List (Nat × List Int)
def slot (z : Nat × List Int) : Value := .slice (some ⟨z.1, 0, none⟩) z.2.length z.2.length

/-- A row of clauses of the call's own. -/
structure CB (w : World) (base : Nat) (A : Option Addr) (c : Nat) (zs : Zs) : Prop where
  own : w.ownsRow base 26 1 (.slice A zs.length c) zs.length (zs.map slot)
  inner : ∀ z ∈ zs, Blk w z.1 3 (i64s z.2).toArray

section
variable {w w' : World} {base : Nat} {A : Option Addr} {c : Nat} {zs : Zs}
theorem CB.nil (w : World) (base : Nat) : CB w base none 0 [] := ⟨⟨by simp, .inl ⟨rfl, rfl⟩⟩, fun z hz => by cases hz⟩
theorem CB.below (h : CB w base A c zs) (hb : Below w.heap.size w w') : CB w' base A c zs := ⟨own_below h.own hb, fun z hz => (h.inner z hz).below hb (h.inner z hz).lt⟩
theorem CB.alloc (h : CB w base A c zs) (o : Obj) : CB (w.alloc o) base A c zs := h.below (stepA w o)
theorem CB.drew (h : CB w base A c zs) : CB w.drew base A c zs := h.below (stepD1 w)
theorem slot_one (zs : Zs) : ∀ u ∈ zs.map slot, u.oneCell' = true := by
  intro u hu
  obtain ⟨z, _, rfl⟩ := List.mem_map.1 hu
  rfl
/-- The row grows by clauses that lie there already. -/
theorem CB.grow (h : CB w base A c zs) {A' : Option Addr} {c' : Nat} {ys : Zs} (hg : w.grownBy w' (Value.slice A zs.length c).ownBlock)
    (ho : w'.ownsRow base 26 1 (.slice A' (zs ++ ys).length c') (zs ++ ys).length ((zs ++ ys).map slot)) (hy : ∀ y ∈ ys, Blk w y.1 3 (i64s y.2).toArray) : CB w' base A' c' (zs ++ ys) := by
  refine ⟨ho, fun z hz => ?_⟩
  have hb : Blk w z.1 3 (i64s z.2).toArray := by
    rcases List.mem_append.1 hz with h1 | h1
    · exact h.inner z h1
    · exact hy z h1
  exact hb.by_ hg (own_ne h.own hb (by decide))
theorem CB.set (h : CB w base A c zs) {b : Nat} {t : TypeId} {cs : Array Value} (hb : Blk w b t cs) (h1 : 26 ≠ t) (h2 : 3 ≠ t) (i : Nat) (u : Value) : CB (w.setCell ⟨b, i, none⟩ u) base A c zs :=
  ⟨own_set h.own hb h1 i u, fun z hz => (h.inner z hz).far (p := ⟨b, i, none⟩) (by
    have hz' := h.inner z hz
    intro e
    unfold Blk at hz' hb
    simp only at e
    rw [← e, hz'] at hb
    injection hb with hb
    injection hb with _ hb
    exact h2 hb) u⟩
theorem CB.cls (h : CB w base A c zs) : Cls w w.heap.size A (zs.map (·.2)) := fun i x hi => by
  rw [List.getElem?_map] at hi
  obtain ⟨z, hz, rfl⟩ := Option.map_eq_some_iff.1 hi
  have hv := Vals.of_own h.own
  obtain ⟨b, o, e, hb, hc⟩ := hv i (slot z) (by rw [List.getElem?_map, hz]; rfl)
  exact ⟨b, o, _, _, e, hb, hc, Nat.le_refl _, vals_of_blk (h.inner z (List.mem_of_getElem? hz))⟩
theorem CB.cap (h : CB w base A c zs) : zs.length ≤ c := own_cap h.own
end

theorem rowInfo : (Try.prog.info? 26).map (fun i => (i.zero, i.size, i.bytes)) = some (some (.slice none 0 0), 1, 24) := by kernel_rfl

set_option maxRecDepth 100000 in
set_option maxHeartbeats 2000000 in
theorem put_any (w : World) (base p : Nat) (v : Int) (A : Option Addr) (c : Nat) (zs : Zs) (b : Nat) (l : List Int) (n : Nat) (hn : n = l.length) (hbase : base ≤ p) (hz : zs.length ≤ 100000) (hcb : CB w base A c zs) (hp : Blk w p 106 #[.int .i64 v, .slice A zs.length c]) (hl : Blk w b 3 (i64s l).toArray) :
    Calls Try.prog 78 #[.pointer (some ⟨p, 0, none⟩), .slice (some ⟨b, 0, none⟩) n n] w (fun e w' => (∃ r, e = .returned r) ∧ ∃ A' c', CB w' base A' c' (zs ++ [(b, l)]) ∧ Blk w' p 106 #[.int .i64 v, .slice A' (zs ++ [(b, l)]).length c'] ∧ Below base w w') := by
  subst hn
  obtain ⟨i0, hi0, hz0, hz1, hz2⟩ := info_parts rowInfo
  have k1 := hp.cell 1
  have hs : p < w.heap.size := hp.lt
  have HC := Lib.hid hcb
  have HP := Lib.hid hp
  have HL := Lib.hid hl
  clear hcb hp hl
  have HC1 := Lib.hid (HC.out.alloc (.cells #[slot (b, l)] 26))
  go_enter Try.func78, Try.ntmps78
  go_wp2_with (first
    | (at_builtin; refine wpList_append_vals _ rfl (.tmp 9) (.tmp 11) _ rfl base 26 i0 _ 1 24 Try.underlying55 hi0 hz0 hz1 hz2 rfl (by omega) (.slice A zs.length c) zs.length (zs.map slot) rfl HC1.out.own _ _ 1 1 [slot (b, l)] rfl rfl (vals_new w [slot (b, l)] 26) (slot_one [(b, l)]) (by unfold maxLen; omega) (by omega) (by simp; omega) ?_; intro v5 w5 hown5 hg5; obtain ⟨A6, c6, rfl, hcap6⟩ := own_form hown5; have HG := Lib.hid hg5; have HO5 := Lib.hid hown5; have HP5 := Lib.hid ((HP.out.alloc (.cells #[slot (b, l)] 26)).by_ hg5 (own_ne HC1.out.own (HP.out.alloc _) (by decide))); clear hown5 hg5 k1; have k1 := HP5.out.cell 1; have f1 := HP5.out.frozen 1))
  go_end0
  have e1 : (zs ++ [(b, l)]).length = zs.length + 1 := by simp
  have e2 : (zs ++ [(b, l)]).map slot = zs.map slot ++ [slot (b, l)] := by simp
  have hcb : CB w5 base A6 c6 (zs ++ [(b, l)]) := HC1.out.grow HG.out (by rw [e1, e2]; exact HO5.out) (fun y hy => by
    obtain rfl := List.mem_singleton.1 hy
    exact HL.out.alloc _)
  refine ⟨⟨_, rfl⟩, A6, c6, hcb.set HP5.out (by decide) (by decide) 1 _, ?_, ?_⟩
  · rw [e1]
    exact HP5.out.set_ 1 _
  · exact ((((Below.refl base w).alloc (by omega) _).grown HG.out (by simp; omega) (own_block HC1.out.own))).setCell (p := ⟨p, 1, none⟩) hbase _
end Go.Proofs.Ytbdhkagcbncefaa

set_option linter.unusedVariables false
set_option linter.unusedSimpArgs false
namespace Go.Proofs.Ytbdhkagcbncefaa
open Go.RowKit Go.Maps

/-- Clauses and an error are handed back. -/
def RetC (w : World) (r : Int × List (List Int) × Int) (e : Ending) (w' : World) : Prop :=
  ∃ A c, e = .returned (.tuple #[.agg #[.int .i64 r.1, .slice A r.2.1.length c], .int .i64 r.2.2]) ∧ r.2.1.length ≤ c ∧ Cls w' w'.heap.size A r.2.1 ∧ Below w.heap.size w w'

abbrev ofW (w : World) (g : Gr) (A : Option Addr) (c : Nat) : World :=
  (w.alloc (.cells #[.int .i64 g.n, .slice A g.as.length c] 24)).alloc (.cells #[.int .i64 0, .slice none 0 0] 57)

/-- The graph's box and the result's cell stand, and all that was there before. -/
structure OfSt (w wr : World) (g : Gr) (A : Option Addr) (c : Nat) : Prop where
  below : Below (w.heap.size + 2) (ofW w g A c) wr

section
variable {w wr wr' : World} {g : Gr} {A : Option Addr} {c : Nat}
theorem ofW_size : (ofW w g A c).heap.size = w.heap.size + 2 := by simp [ofW]
theorem OfSt.begin_ : OfSt w (ofW w g A c) g A c := ⟨Below.refl _ _⟩
theorem OfSt.size (h : OfSt w wr g A c) : w.heap.size + 2 ≤ wr.heap.size := by have := h.below.size; rw [ofW_size] at this; exact this
theorem OfSt.gb (h : OfSt w wr g A c) : Blk wr w.heap.size 24 #[.int .i64 g.n, .slice A g.as.length c] := ((Blk.new w _ _).alloc _).below h.below (by omega)
theorem OfSt.rb (h : OfSt w wr g A c) : Blk wr (w.heap.size + 1) 57 #[.int .i64 0, .slice none 0 0] := by
  have := Blk.new (w.alloc (.cells #[.int .i64 g.n, .slice A g.as.length c] 24)) 57 #[.int .i64 0, .slice none 0 0]
  rw [World.size_alloc] at this
  exact this.below h.below (by omega)
theorem OfSt.low (h : OfSt w wr g A c) : Below w.heap.size w wr := (((Below.refl _ _).alloc (Nat.le_refl _) _).alloc (by simp) _).trans (h.below.mono (by omega))
theorem OfSt.step (h : OfSt w wr g A c) {B : Nat} (hB : w.heap.size + 2 ≤ B) (hb : Below B wr wr') : OfSt w wr' g A c := ⟨h.below.trans (hb.mono hB)⟩
theorem OfSt.after (h : OfSt w wr g A c) (hb : Below wr.heap.size wr wr') : OfSt w wr' g A c := h.step h.size hb
theorem OfSt.prs (h : OfSt w wr g A c) (hp : Prs w w.heap.size A g.as) : Prs wr wr.heap.size A g.as := hp.after h.low
end

theorem litC_even (v : Int) : litC (2 * v) = v + 1 := by
  unfold litC
  rw [if_neg (by omega)]
  omega
theorem litC_bound {l : Int} (h0 : 0 ≤ l) (h1 : l ≤ 4001) : -2001 ≤ litC l ∧ litC l ≤ 2001 := by
  unfold litC
  split <;> omega
end Go.Proofs.Ytbdhkagcbncefaa

set_option linter.unusedVariables false
set_option linter.unusedSimpArgs false
namespace Go.Proofs.Ytbdhkagcbncefaa
open Go.RowKit Go.Maps

set_option maxRecDepth 100000 in
set_option maxHeartbeats 4000000 in
theorem cof_any (g : Gr) (l : Int) (A : Option Addr) (c : Nat) (w : World) (hg : GOk g) (hl : l ≤ 9223372036854775807) (hp : Prs w w.heap.size A g.as) :
    Calls Try.prog 47 #[.agg #[.int .i64 g.n, .slice A g.as.length c], .int .i64 l] w (RetC w (cnfG g l)) := by
  have hnot := @not_run Try.prog
  have hgl : g.as.length ≤ 8796093022208 := hg.2.1
  have HP := Lib.hid hp
  have HG := Lib.hid hg
  have H0 := Lib.hid (OfSt.begin_ (w := w) (g := g) (A := A) (c := c))
  clear hp hg
  go_enter Try.func47, Try.ntmps47
  go_wp2_with fail
  refine (Right_any g A c _ HG.out (H0.out.prs HP.out)).mono ?_
  rintro e w1 ⟨rfl, hb1⟩
  have H1 := Lib.hid (H0.out.after hb1)
  clear hb1 H0
  have c0 := H1.out.gb.cell 0
  have c1 := H1.out.gb.cell 1
  have d0 := H1.out.rb.cell 0
  have d1 := H1.out.rb.cell 1
  have f0 := H1.out.rb.frozen 0
  have f1 := H1.out.rb.frozen 1
  cases hr : rightB g
  · have HE : Hid (cnfG g l = (0, [], 1)) := cnfG_no1 hr
    clear hr
    go_wp2_with fail
    refine bodyPost_ret (v := .tuple #[.agg #[.int .i64 0, .slice none 0 0], .int .i64 1]) (by simp [results, Try.results47, go_sem, d0, d1]) rfl ?_
    rw [HE.out]
    exact ⟨none, 0, rfl, Nat.le_refl _, Cls.nil, (H1.out.low.setCell (p := ⟨w.heap.size + 1, 0, none⟩) (by simp) _).setCell (p := ⟨w.heap.size + 1, 1, none⟩) (by simp) _⟩
  · have HR := Lib.hid hr
    clear hr
    go_wp2_with fail
    refine (lit_any g l A c _ hgl hl).mono ?_
    rintro e w2 ⟨rfl, hb2⟩
    have H2 := Lib.hid (H1.out.after hb2)
    clear hb2 H1 c0 c1 d0 d1 f0 f1
    have c0 := H2.out.gb.cell 0
    have c1 := H2.out.gb.cell 1
    have d0 := H2.out.rb.cell 0
    have d1 := H2.out.rb.cell 1
    have f0 := H2.out.rb.frozen 0
    have f1 := H2.out.rb.frozen 1
    cases hlb : litB g l
    · have HE : Hid (cnfG g l = (0, [], 1)) := cnfG_no2 hlb
      clear hlb
      go_wp2_with fail
      refine bodyPost_ret (v := .tuple #[.agg #[.int .i64 0, .slice none 0 0], .int .i64 1]) (by simp [results, Try.results47, go_sem, d0, d1]) rfl ?_
      rw [HE.out]
      exact ⟨none, 0, rfl, Nat.le_refl _, Cls.nil, (H2.out.low.setCell (p := ⟨w.heap.size + 1, 0, none⟩) (by simp) _).setCell (p := ⟨w.heap.size + 1, 1, none⟩) (by simp) _⟩
    · have HE : Hid (cnfG g l = (g.vars, clausesAt g l g.as.length, 0)) := cnfG_yes HR.out hlb
      obtain ⟨g0, g1, g2, g3⟩ := (size_iff g).1 (right_size HR.out)
      have HL := Lib.hid hlb
      clear hlb d0 d1 f0 f1
      go_wp2_with fail
      refine (cbelow_any g l A c _ HR.out HL.out (H2.out.prs HP.out)).mono ?_
      rintro e w3 ⟨B, d, rfl, hd, hv, hb3⟩
      have H3 := Lib.hid (H2.out.after hb3)
      have HV := Lib.hid hv
      have HBL : Hid (((belowG g l).length : Int) = g.n + 1 + g.as.length) := by show ((belowG g l).length : Int) = _; rw [belowG_length]; unfold Gr.vars; omega
      have hs3 := H3.out.size
      clear hb3 hv c0 c1 H2
      have HW4 := Lib.hid (Blk.new w3 106 #[.int .i64 ((belowG g l).length : Int), .slice none 0 0])
      have b4 := Blk.new (w3.alloc (.cells #[.int .i64 ((belowG g l).length : Int), .slice none 0 0] 106)) 3 #[.int .i64 (-1)]
      rw [World.size_alloc] at b4
      have HI4 := Lib.hid b4
      have HW5 := Lib.hid (HW4.out.alloc (.cells #[.int .i64 (-1)] 3))
      clear b4
      go_wp2_with fail
      refine (put_any ((w3.alloc (.cells #[.int .i64 ((belowG g l).length : Int), .slice none 0 0] 106)).alloc (.cells #[.int .i64 (-1)] 3)) w3.heap.size w3.heap.size ((belowG g l).length : Int) none 0 [] (w3.heap.size + 1) [-1] 1 rfl (Nat.le_refl _) (by simp) (CB.nil _ _) HW5.out HI4.out).mono ?_
      rintro e w4 ⟨⟨r4, rfl⟩, A4, c4, hcb4, hp4, hb4⟩
      have HB4 : Hid (Below w3.heap.size w3 w4) := (((Below.refl w3.heap.size w3).alloc (Nat.le_refl _) (.cells #[.int .i64 ((belowG g l).length : Int), .slice none 0 0] 106)).alloc (by simp) (.cells #[.int .i64 (-1)] 3)).trans hb4
      have HC4 := Lib.hid hcb4
      have HP4 := Lib.hid hp4
      have H4 := Lib.hid (H3.out.step hs3 HB4.out)
      clear hb4 hcb4 hp4 HW4 HI4 HW5
      have c1 := H4.out.gb.cell 1
      go_wp2_with fail
      have HC4' : Hid (∃ zs, zs.map (·.2) = clausesAt g l 0 ∧ CB w4 w3.heap.size A4 c4 zs ∧ Blk w4 w3.heap.size 106 #[.int .i64 ((belowG g l).length : Int), .slice A4 zs.length c4]) := ⟨[(w3.heap.size + 1, [-1])], rfl, HC4.out, HP4.out⟩
      go_loopw [38] (fun i wr => ∃ (k : Nat) (A' : Option Addr) (c' : Nat) (zs : Zs), k ≤ g.as.length ∧ i = .int .i64 k ∧ zs.map (·.2) = clausesAt g l k ∧ CB wr w3.heap.size A' c' zs ∧ BlkF wr w3.heap.size 106 #[.int .i64 ((belowG g l).length : Int), .slice A' zs.length c'] ∧ Below w3.heap.size w3 wr) (fun i _ => g.as.length - (intOf i).toNat)
      case atStart =>
        obtain ⟨zs, h1, h2, h3⟩ := HC4'.out
        exact ⟨0, A4, c4, zs, Nat.zero_le _, rfl, h1, h2, ⟨h3⟩, HB4.out⟩
      case round =>
        obtain ⟨k, A', c', zs, hk, rfl, hzs, hcb, hbw, hb⟩ := hrel
        have HC := Lib.hid hcb
        have HWB := Lib.hid hbw.p
        have HB := Lib.hid hb
        have HZ := Lib.hid hzs
        have HS := Lib.hid (H3.out.step hs3 hb)
        clear hcb hbw hb hzs c1 H4 HB4 HC4 HP4 HC4'
        have c0 := HS.out.gb.cell 0
        have c1 := HS.out.gb.cell 1
        have hws : w3.heap.size < wr.heap.size := HWB.out.lt
        have hzl : zs.length ≤ 1 + 3 * k := by
          have := clausesAt_length g l k
          rw [← HZ.out, List.length_map] at this
          exact this
        by_cases hlt : k < g.as.length
        · have hlt' : (k : Int) < (g.as.length : Int) := by omega
          obtain ⟨⟨p1, p2⟩, hpk⟩ : ∃ p, g.as[k]? = some p := ⟨_, List.getElem?_eq_getElem hlt⟩
          obtain ⟨b', o', rfl, hbs, q1, q2⟩ := (HS.out.prs HP.out) k _ hpk
          obtain ⟨r1, r2, r3, r4, r5, r6⟩ := gate_lits HR.out hpk
          simp only at r1 r2 r3 r4 r5 r6
          have i1 : 0 ≤ g.n + 1 + (k : Int) := by omega
          have i2 : g.n + 1 + (k : Int) < ((belowG g l).length : Int) := by rw [HBL.out]; omega
          obtain ⟨bit, hbit⟩ : ∃ y, (belowG g l)[(g.n + 1 + (k : Int)).toNat]? = some y := ⟨_, List.getElem?_eq_getElem (by omega)⟩
          have HCa := Lib.hid (HC.out.alloc (.cells #[.int .i64 p1, .int .i64 p2] 41))
          have HWa := Lib.hid (HWB.out.alloc (.cells #[.int .i64 p1, .int .i64 p2] 41))
          have HBa := Lib.hid (HB.out.alloc (Nat.le_of_lt hws) (.cells #[.int .i64 p1, .int .i64 p2] 41))
          have HSa := Lib.hid (H3.out.step hs3 HBa.out)
          have HPa := Lib.hid (Blk.new wr 41 #[.int .i64 p1, .int .i64 p2])
          obtain ⟨bv, ov, eB, hbv, qv⟩ := (HV.out.below HBa.out) _ _ (bools_get hbit)
          subst eB
          have HBT := Lib.hid hbit
          have HPK := Lib.hid hpk
          have e0 : (wr.alloc (.cells #[.int .i64 p1, .int .i64 p2] 41)).cell? ⟨w.heap.size, 0, none⟩ = some (.int .i64 g.n) := HSa.out.gb.cell 0
          clear hbit hpk c0
          cases bit
          · have HSN : Hid (clausesAt g l (k + 1) = clausesAt g l k) := clausesAt_no HPK.out HBT.out
            go_wp2_with fail
            go_roundw
            case rel => exact ⟨k + 1, A', c', zs, by omega, by go_num, by rw [HSN.out]; exact HZ.out, HCa.out, ⟨HWa.out⟩, HBa.out⟩
            case measure => simp [intOf]; omega
          · have HSN : Hid (clausesAt g l (k + 1) = clausesAt g l k ++ gateC g.n k (p1, p2)) := clausesAt_yes HPK.out HBT.out
            go_wp2_with fail
            generalize wr.alloc (.cells #[.int .i64 p1, .int .i64 p2] 41) = wa at HCa HWa HBa HSa HPa qv e0 ⊢
            generalize wr.heap.size = pb at HPa hws ⊢
            have hwm : IntKind.i64.wrap (2 * (g.n + 1 + (k : Int))) = 2 * (g.n + 1 + (k : Int)) := IntWalk.i64_in _ (by omega)
            have HPX : Hid (wa.drew.cell? ⟨pb, 0, none⟩ = some (.int .i64 p1) ∧ wa.drew.cell? ⟨pb, 1, none⟩ = some (.int .i64 p2)) := ⟨HPa.out.cell 0, HPa.out.cell 1⟩
            clear q1 q2 e0 qv c1 i1 i2
            refine wp_region_noPanic ?_
            refine wp_region_seq (fun W => W.cell? ⟨pb, 0, none⟩ = some (.int .i64 p1) ∧ W.cell? ⟨pb, 1, none⟩ = some (.int .i64 p2)) [0, 1, 3, 4, 6, 7, 2, 5, 8, 9, 10, 11] [0, 1, 3, 4, 6, 7, 9, 10, 11] [] (by kernel_rfl) (by kernel_rfl) rfl (by kernel_rfl) (by kernel_rfl) (fun _ _ _ _ _ h => h) ?_ (fun hSS => ?_)
            · exact HPX.out
            (refine wpSeq_mov rfl rfl ?_; intro o ho; simp only [List.getElem?_toArray, List.getElem?_cons_zero, List.getElem?_cons_succ, Option.some.injEq] at ho; subst ho; refine ⟨?_, Or.inl ⟨by rfl, fun W hSW => ?_⟩, ?_⟩; rotate_left; (focus (go_simp; first | done | with_reducible rfl)); try simp only [Act.put, List.setIfInBounds_toArray, List.set_cons_zero, List.set_cons_succ])
            (refine wpSeq_mov rfl rfl ?_; intro o ho; simp only [List.getElem?_toArray, List.getElem?_cons_zero, List.getElem?_cons_succ, Option.some.injEq] at ho; subst ho; refine ⟨?_, Or.inl ⟨by rfl, fun W hSW => ?_⟩, ?_⟩; rotate_left; (focus (go_simp; first | done | with_reducible rfl)); try simp only [Act.put, List.setIfInBounds_toArray, List.set_cons_zero, List.set_cons_succ])
            (refine wpSeq_mov rfl rfl ?_; intro o ho; simp only [List.getElem?_toArray, List.getElem?_cons_zero, List.getElem?_cons_succ, Option.some.injEq] at ho; subst ho; refine ⟨?_, Or.inl ⟨by rfl, fun W hSW => ?_⟩, ?_⟩; rotate_left; (focus (go_simp; first | done | with_reducible rfl)); try simp only [Act.put, List.setIfInBounds_toArray, List.set_cons_zero, List.set_cons_succ])
            (refine wpSeq_mov rfl rfl ?_; intro o ho; simp only [List.getElem?_toArray, List.getElem?_cons_zero, List.getElem?_cons_succ, Option.some.injEq] at ho; subst ho; refine ⟨?_, Or.inl ⟨by rfl, fun W hSW => ?_⟩, ?_⟩; rotate_left; (focus (go_simp; first | done | with_reducible rfl)); try simp only [Act.put, List.setIfInBounds_toArray, List.set_cons_zero, List.set_cons_succ])
            (refine wpSeq_mov rfl rfl ?_; intro o ho; simp only [List.getElem?_toArray, List.getElem?_cons_zero, List.getElem?_cons_succ, Option.some.injEq] at ho; subst ho; refine ⟨?_, Or.inl ⟨by rfl, fun W hSW => ?_⟩, ?_⟩; rotate_left; (focus (go_simp; first | done | with_reducible rfl)); try simp only [Act.put, List.setIfInBounds_toArray, List.set_cons_zero, List.set_cons_succ])
            (refine wpSeq_mov rfl rfl ?_; intro o ho; simp only [List.getElem?_toArray, List.getElem?_cons_zero, List.getElem?_cons_succ, Option.some.injEq] at ho; subst ho; refine ⟨?_, Or.inl ⟨by rfl, fun W hSW => ?_⟩, ?_⟩; rotate_left; (focus (go_simp; first | done | with_reducible rfl)); try simp only [Act.put, List.setIfInBounds_toArray, List.set_cons_zero, List.set_cons_succ])
            (refine wpSeq_fix rfl rfl ?_; intro o ho; simp only [List.getElem?_toArray, List.getElem?_cons_zero, List.getElem?_cons_succ, Option.some.injEq] at ho; subst ho; intro K hK)
            go_simp
            refine (clit_any (2 * (g.n + 1 + (k : Int))) _ (by omega) (by omega)).mono ?_
            rintro e w' ⟨rfl, rfl⟩
            (refine hK.out _ _ (fun _ => HPX.out) ?_; clear hK K; try simp only [Act.put, List.setIfInBounds_toArray, List.set_cons_zero, List.set_cons_succ])
            (refine wpSeq_fix rfl rfl ?_; intro o ho; simp only [List.getElem?_toArray, List.getElem?_cons_zero, List.getElem?_cons_succ, Option.some.injEq] at ho; subst ho; intro K hK)
            go_simp
            refine (clit_any p1 _ (by omega) (by omega)).mono ?_
            rintro e w' ⟨rfl, rfl⟩
            (refine hK.out _ _ (fun _ => HPX.out) ?_; clear hK K; try simp only [Act.put, List.setIfInBounds_toArray, List.set_cons_zero, List.set_cons_succ])
            (refine wpSeq_fix rfl rfl ?_; intro o ho; simp only [List.getElem?_toArray, List.getElem?_cons_zero, List.getElem?_cons_succ, Option.some.injEq] at ho; subst ho; intro K hK)
            go_simp
            refine (clit_any p2 _ (by omega) (by omega)).mono ?_
            rintro e w' ⟨rfl, rfl⟩
            (refine hK.out _ _ (fun _ => HPX.out) ?_; clear hK K; try simp only [Act.put, List.setIfInBounds_toArray, List.set_cons_zero, List.set_cons_succ])
            (refine wpSeq_mov rfl rfl ?_; intro o ho; simp only [List.getElem?_toArray, List.getElem?_cons_zero, List.getElem?_cons_succ, Option.some.injEq] at ho; subst ho; refine ⟨?_, Or.inl ⟨by rfl, fun W hSW => ?_⟩, ?_⟩; rotate_left; (focus (go_simp; first | done | with_reducible rfl)); try simp only [Act.put, List.setIfInBounds_toArray, List.set_cons_zero, List.set_cons_succ])
            (refine wpSeq_mov rfl rfl ?_; intro o ho; simp only [List.getElem?_toArray, List.getElem?_cons_zero, List.getElem?_cons_succ, Option.some.injEq] at ho; subst ho; refine ⟨?_, Or.inl ⟨by rfl, fun W hSW => ?_⟩, ?_⟩; rotate_left; (focus (go_simp; first | done | with_reducible rfl)); try simp only [Act.put, List.setIfInBounds_toArray, List.set_cons_zero, List.set_cons_succ])
            (refine wpSeq_mov rfl rfl ?_; intro o ho; simp only [List.getElem?_toArray, List.getElem?_cons_zero, List.getElem?_cons_succ, Option.some.injEq] at ho; subst ho; refine ⟨?_, Or.inl ⟨by rfl, fun W hSW => ?_⟩, ?_⟩; rotate_left; (focus (go_simp; first | done | with_reducible rfl)); try simp only [Act.put, List.setIfInBounds_toArray, List.set_cons_zero, List.set_cons_succ])
            refine wpSeq_done ?_
            rw [litC_even]
            obtain ⟨a1, a2⟩ := litC_bound r1 r5
            obtain ⟨b1, b2⟩ := litC_bound r3 r6
            have HGC : Hid (gateC g.n k (p1, p2) = [[-(g.n + 1 + k + 1), litC p1], [-(g.n + 1 + k + 1), litC p2], [g.n + 1 + k + 1, -litC p1, -litC p2]]) := rfl
            generalize litC p1 = x1 at a1 a2 HGC ⊢
            generalize litC p2 = x2 at b1 b2 HGC ⊢
            have HC0 := Lib.hid (HCa.out.drew)
            have HW0 := Lib.hid (HWa.out.drew)
            have HD0 : Hid (Below w3.heap.size w3 wa.drew) := HBa.out.drew
            generalize wa.drew = wb at HC0 HW0 HD0 ⊢
            have HI1 := Lib.hid (Blk.new wb 3 #[.int .i64 (-(g.n + 1 + (k : Int) + 1)), .int .i64 x1])
            have HC1 := Lib.hid (HC0.out.alloc (.cells #[.int .i64 (-(g.n + 1 + (k : Int) + 1)), .int .i64 x1] 3))
            have HW1 := Lib.hid (HW0.out.alloc (.cells #[.int .i64 (-(g.n + 1 + (k : Int) + 1)), .int .i64 x1] 3))
            have hsb : w3.heap.size ≤ wb.heap.size := HD0.out.size
            go_wp2_with fail
            refine (put_any (wb.alloc (.cells #[.int .i64 (-(g.n + 1 + (k : Int) + 1)), .int .i64 x1] 3)) w3.heap.size w3.heap.size ((belowG g l).length : Int) A' c' zs wb.heap.size [-(g.n + 1 + (k : Int) + 1), x1] 2 rfl (Nat.le_refl _) (by omega) HC1.out HW1.out HI1.out).mono ?_
            rintro e wc ⟨⟨rc, rfl⟩, A5, c5, hcb5, hp5, hb5⟩
            have HC2 := Lib.hid hcb5
            have HW2 := Lib.hid hp5
            have HD2 : Hid (Below w3.heap.size w3 wc) := (HD0.out.alloc hsb (.cells #[.int .i64 (-(g.n + 1 + (k : Int) + 1)), .int .i64 x1] 3)).trans hb5
            have hsc : w3.heap.size ≤ wc.heap.size := HD2.out.size
            have HI2 := Lib.hid (Blk.new wc 3 #[.int .i64 (-(g.n + 1 + (k : Int) + 1)), .int .i64 x2])
            have HC3 := Lib.hid (HC2.out.alloc (.cells #[.int .i64 (-(g.n + 1 + (k : Int) + 1)), .int .i64 x2] 3))
            have HW3 := Lib.hid (HW2.out.alloc (.cells #[.int .i64 (-(g.n + 1 + (k : Int) + 1)), .int .i64 x2] 3))
            have hz1 : (zs ++ [(wb.heap.size, [-(g.n + 1 + (k : Int) + 1), x1])]).length ≤ 100000 := by simp; omega
            clear hcb5 hp5 hb5 HI1 HC1 HW1 HC0 HW0
            go_wp2_with fail
            refine (put_any (wc.alloc (.cells #[.int .i64 (-(g.n + 1 + (k : Int) + 1)), .int .i64 x2] 3)) w3.heap.size w3.heap.size ((belowG g l).length : Int) A5 c5 _ wc.heap.size [-(g.n + 1 + (k : Int) + 1), x2] 2 rfl (Nat.le_refl _) hz1 HC3.out HW3.out HI2.out).mono ?_
            rintro e wd ⟨⟨rd, rfl⟩, A6, c6, hcb6, hp6, hb6⟩
            have HC4 := Lib.hid hcb6
            have HW4 := Lib.hid hp6
            have HD4 : Hid (Below w3.heap.size w3 wd) := (HD2.out.alloc hsc (.cells #[.int .i64 (-(g.n + 1 + (k : Int) + 1)), .int .i64 x2] 3)).trans hb6
            have hsd : w3.heap.size ≤ wd.heap.size := HD4.out.size
            have HI3 := Lib.hid (Blk.new wd 3 #[.int .i64 (g.n + 1 + (k : Int) + 1), .int .i64 (-x1), .int .i64 (-x2)])
            have HC5 := Lib.hid (HC4.out.alloc (.cells #[.int .i64 (g.n + 1 + (k : Int) + 1), .int .i64 (-x1), .int .i64 (-x2)] 3))
            have HW5 := Lib.hid (HW4.out.alloc (.cells #[.int .i64 (g.n + 1 + (k : Int) + 1), .int .i64 (-x1), .int .i64 (-x2)] 3))
            have hz2 : (zs ++ [(wb.heap.size, [-(g.n + 1 + (k : Int) + 1), x1])] ++ [(wc.heap.size, [-(g.n + 1 + (k : Int) + 1), x2])]).length ≤ 100000 := by simp; omega
            clear hcb6 hp6 hb6 HI2 HC3 HW3 HC2 HW2
            go_wp2_with fail
            refine (put_any (wd.alloc (.cells #[.int .i64 (g.n + 1 + (k : Int) + 1), .int .i64 (-x1), .int .i64 (-x2)] 3)) w3.heap.size w3.heap.size ((belowG g l).length : Int) A6 c6 _ wd.heap.size [g.n + 1 + (k : Int) + 1, -x1, -x2] 3 rfl (Nat.le_refl _) hz2 HC5.out HW5.out HI3.out).mono ?_
            rintro e we ⟨⟨re, rfl⟩, A7, c7, hcb7, hp7, hb7⟩
            have HC6 := Lib.hid hcb7
            have HW6 := Lib.hid hp7
            have HD6 : Hid (Below w3.heap.size w3 we) := (HD4.out.alloc hsd (.cells #[.int .i64 (g.n + 1 + (k : Int) + 1), .int .i64 (-x1), .int .i64 (-x2)] 3)).trans hb7
            clear hcb7 hp7 hb7
            go_wp2_with fail
            go_roundw
            case rel => exact ⟨k + 1, A7, c7, _, by omega, by go_num, by rw [HSN.out, HGC.out, ← HZ.out]; simp, HC6.out, ⟨HW6.out⟩, HD6.out⟩
            case measure => simp [intOf]; omega
        · obtain rfl : k = g.as.length := by omega
          have hlt' : ¬ ((g.as.length : Int) < (g.as.length : Int)) := by omega
          have k0 := HWB.out.cell 0
          have k1 := HWB.out.cell 1
          have d0 := HS.out.rb.cell 0
          have d1 := HS.out.rb.cell 1
          have f0 := HS.out.rb.frozen 0
          have f1 := HS.out.rb.frozen 1
          go_wp2_with fail
          have t0 : ((wr.setCell ⟨w.heap.size + 1, 0, none⟩ (.int .i64 ((belowG g l).length : Int))).setCell ⟨w.heap.size + 1, 1, none⟩ (.slice A' zs.length c')).cell? ⟨w.heap.size + 1, 0, none⟩ = some (.int .i64 ((belowG g l).length : Int)) := ((HS.out.rb.set_ 0 (.int .i64 ((belowG g l).length : Int))).set_ 1 (.slice A' zs.length c')).cell 0
          have t1 : ((wr.setCell ⟨w.heap.size + 1, 0, none⟩ (.int .i64 ((belowG g l).length : Int))).setCell ⟨w.heap.size + 1, 1, none⟩ (.slice A' zs.length c')).cell? ⟨w.heap.size + 1, 1, none⟩ = some (.slice A' zs.length c') := ((HS.out.rb.set_ 0 (.int .i64 ((belowG g l).length : Int))).set_ 1 (.slice A' zs.length c')).cell 1
          have HCF := Lib.hid ((HC.out.set HS.out.rb (by decide) (by decide) 0 (.int .i64 ((belowG g l).length : Int))).set (HS.out.rb.set_ 0 (.int .i64 ((belowG g l).length : Int))) (by decide) (by decide) 1 (.slice A' zs.length c'))
          have HLF : Hid (Below w.heap.size w ((wr.setCell ⟨w.heap.size + 1, 0, none⟩ (.int .i64 ((belowG g l).length : Int))).setCell ⟨w.heap.size + 1, 1, none⟩ (.slice A' zs.length c'))) := (HS.out.low.setCell (p := ⟨w.heap.size + 1, 0, none⟩) (by simp) _).setCell (p := ⟨w.heap.size + 1, 1, none⟩) (by simp) _
          generalize (wr.setCell ⟨w.heap.size + 1, 0, none⟩ (.int .i64 ((belowG g l).length : Int))).setCell ⟨w.heap.size + 1, 1, none⟩ (.slice A' zs.length c') = wz at t0 t1 HCF HLF ⊢
          refine bodyPost_ret (v := .tuple #[.agg #[.int .i64 ((belowG g l).length : Int), .slice A' zs.length c'], .int .i64 0]) (by simp [results, Try.results47, go_sem, t0, t1]) rfl ?_
          rw [HE.out]
          have hcls := HCF.out.cls
          have hlen : (clausesAt g l g.as.length).length = zs.length := by rw [← HZ.out, List.length_map]
          refine ⟨A', c', ?_, ?_, ?_, HLF.out⟩
          · show Ending.returned _ = Ending.returned (.tuple #[.agg #[.int .i64 g.vars, .slice A' (clausesAt g l g.as.length).length c'], .int .i64 0])
            rw [hlen, HBL.out]
            rfl
          · show (clausesAt g l g.as.length).length ≤ c'
            rw [hlen]
            exact HCF.out.cap
          · show Cls _ _ A' (clausesAt g l g.as.length)
            rw [← HZ.out]
            exact hcls
end Go.Proofs.Ytbdhkagcbncefaa

set_option linter.unusedVariables false
set_option linter.unusedSimpArgs false
namespace Go.Proofs.Ytbdhkagcbncefaa
open Go.RowKit Go.Maps

set_option maxRecDepth 100000 in
set_option maxHeartbeats 4000000 in
theorem rcof_any (g : Gr) (l : Int) (A : Option Addr) (c : Nat) (w : World) (hg : GOk g) (hl : l ≤ 9223372036854775807) (hp : Prs w w.heap.size A g.as) :
    Calls Try.prog 48 #[.agg #[.int .i64 g.n, .slice A g.as.length c], .int .i64 l] w (RetC w (cnfG g l)) := by
  have hnot := @not_run Try.prog
  have hgl : g.as.length ≤ 8796093022208 := hg.2.1
  have HP := Lib.hid hp
  have HG := Lib.hid hg
  have H0 := Lib.hid (OfSt.begin_ (w := w) (g := g) (A := A) (c := c))
  clear hp hg
  go_enter Try.func48, Try.ntmps48
  go_wp2_with fail
  refine (rright_any g A c _ HG.out (H0.out.prs HP.out)).mono ?_
  rintro e w1 ⟨rfl, hb1⟩
  have H1 := Lib.hid (H0.out.after hb1)
  clear hb1 H0
  have c0 := H1.out.gb.cell 0
  have c1 := H1.out.gb.cell 1
  have d0 := H1.out.rb.cell 0
  have d1 := H1.out.rb.cell 1
  have f0 := H1.out.rb.frozen 0
  have f1 := H1.out.rb.frozen 1
  cases hr : rightB g
  · have HE : Hid (cnfG g l = (0, [], 1)) := cnfG_no1 hr
    clear hr
    go_wp2_with fail
    refine bodyPost_ret (v := .tuple #[.agg #[.int .i64 0, .slice none 0 0], .int .i64 1]) (by simp [results, Try.results48, go_sem, d0, d1]) rfl ?_
    rw [HE.out]
    exact ⟨none, 0, rfl, Nat.le_refl _, Cls.nil, (H1.out.low.setCell (p := ⟨w.heap.size + 1, 0, none⟩) (by simp) _).setCell (p := ⟨w.heap.size + 1, 1, none⟩) (by simp) _⟩
  · have HR := Lib.hid hr
    clear hr
    go_wp2_with fail
    refine (rlit_any g l A c _ hgl hl).mono ?_
    rintro e w2 ⟨rfl, hb2⟩
    have H2 := Lib.hid (H1.out.after hb2)
    clear hb2 H1 c0 c1 d0 d1 f0 f1
    have c0 := H2.out.gb.cell 0
    have c1 := H2.out.gb.cell 1
    have d0 := H2.out.rb.cell 0
    have d1 := H2.out.rb.cell 1
    have f0 := H2.out.rb.frozen 0
    have f1 := H2.out.rb.frozen 1
    cases hlb : litB g l
    · have HE : Hid (cnfG g l = (0, [], 1)) := cnfG_no2 hlb
      clear hlb
      go_wp2_with fail
      refine bodyPost_ret (v := .tuple #[.agg #[.int .i64 0, .slice none 0 0], .int .i64 1]) (by simp [results, Try.results48, go_sem, d0, d1]) rfl ?_
      rw [HE.out]
      exact ⟨none, 0, rfl, Nat.le_refl _, Cls.nil, (H2.out.low.setCell (p := ⟨w.heap.size + 1, 0, none⟩) (by simp) _).setCell (p := ⟨w.heap.size + 1, 1, none⟩) (by simp) _⟩
    · have HE : Hid (cnfG g l = (g.vars, clausesAt g l g.as.length, 0)) := cnfG_yes HR.out hlb
      obtain ⟨g0, g1, g2, g3⟩ := (size_iff g).1 (right_size HR.out)
      have HL := Lib.hid hlb
      clear hlb d0 d1 f0 f1
      go_wp2_with fail
      refine (rvars_any _ _ _ _ _ g0 (by omega) (by omega)).mono ?_
      rintro e w3 ⟨rfl, hb3⟩
      have H3 := Lib.hid (H2.out.after hb3)
      have HBL : Hid (((belowG g l).length : Int) = g.n + 1 + g.as.length) := by show ((belowG g l).length : Int) = _; rw [belowG_length]; unfold Gr.vars; omega
      have hs3 := H3.out.size
      clear hb3 c0 c1 H2
      have c0 := H3.out.gb.cell 0
      have c1 := H3.out.gb.cell 1
      have i4 := ((Blk.new w3 3 #[.int .i64 (-1)]).alloc (.cells #[.slice (some ⟨w3.heap.size, 0, none⟩) 1 1] 26)).alloc (.cells #[.int .i64 (g.n + 1 + (g.as.length : Int)), .slice (some ⟨w3.heap.size + 1, 0, none⟩) 1 1] 57)
      have o4 := (World.ownsRow_lit (base := w3.heap.size) (e := 26) (size := 1) (w3.alloc (.cells #[.int .i64 (-1)] 3)) #[.slice (some ⟨w3.heap.size, 0, none⟩) 1 1] 1 (by simp) (by unfold maxLen; omega) rfl).alloc (.cells #[.int .i64 (g.n + 1 + (g.as.length : Int)), .slice (some ⟨w3.heap.size + 1, 0, none⟩) 1 1] 57)
      have p4 := Blk.new ((w3.alloc (.cells #[.int .i64 (-1)] 3)).alloc (.cells #[.slice (some ⟨w3.heap.size, 0, none⟩) 1 1] 26)) 57 #[.int .i64 (g.n + 1 + (g.as.length : Int)), .slice (some ⟨w3.heap.size + 1, 0, none⟩) 1 1]
      simp only [World.size_alloc] at o4 p4
      have HC3 : Hid (CB (((w3.alloc (.cells #[.int .i64 (-1)] 3)).alloc (.cells #[.slice (some ⟨w3.heap.size, 0, none⟩) 1 1] 26)).alloc (.cells #[.int .i64 (g.n + 1 + (g.as.length : Int)), .slice (some ⟨w3.heap.size + 1, 0, none⟩) 1 1] 57)) w3.heap.size (some ⟨w3.heap.size + 1, 0, none⟩) 1 [(w3.heap.size, [-1])]) := ⟨o4, fun z hz => by
        obtain rfl := List.mem_singleton.1 hz
        exact i4⟩
      have HW3 := Lib.hid p4
      have H3' := Lib.hid (((H3.out.after (stepA w3 (.cells #[.int .i64 (-1)] 3))).after (stepA _ (.cells #[.slice (some ⟨w3.heap.size, 0, none⟩) 1 1] 26))).after (stepA _ (.cells #[.int .i64 (g.n + 1 + (g.as.length : Int)), .slice (some ⟨w3.heap.size + 1, 0, none⟩) 1 1] 57)))
      have e0 : (((w3.alloc (.cells #[.int .i64 (-1)] 3)).alloc (.cells #[.slice (some ⟨w3.heap.size, 0, none⟩) 1 1] 26)).alloc (.cells #[.int .i64 (g.n + 1 + (g.as.length : Int)), .slice (some ⟨w3.heap.size + 1, 0, none⟩) 1 1] 57)).cell? ⟨w.heap.size, 0, none⟩ = some (.int .i64 g.n) := H3'.out.gb.cell 0
      have e1 : (((w3.alloc (.cells #[.int .i64 (-1)] 3)).alloc (.cells #[.slice (some ⟨w3.heap.size, 0, none⟩) 1 1] 26)).alloc (.cells #[.int .i64 (g.n + 1 + (g.as.length : Int)), .slice (some ⟨w3.heap.size + 1, 0, none⟩) 1 1] 57)).cell? ⟨w.heap.size, 1, none⟩ = some (.slice A g.as.length c) := H3'.out.gb.cell 1
      clear i4 o4 p4
      go_wp2_with fail
      refine (under_any g l A c _ HR.out HL.out (H3'.out.prs HP.out)).mono ?_
      rintro e w4 ⟨vb, rfl, hv, hb4⟩
      have HC4 := Lib.hid (HC3.out.below hb4)
      have HP4 := Lib.hid (HW3.out.below hb4 HW3.out.lt)
      have HV4 := Lib.hid hv
      have H4 := Lib.hid (H3'.out.after hb4)
      generalize hPd : w3.heap.size + 1 + 1 = P at HP4 ⊢
      have hsP : w3.heap.size ≤ P := by omega
      clear hb4 hv HC3 HW3 H3' e0 e1 c0 c1
      go_wp2_with fail
      go_loopw [8] (fun i wr => ∃ (k : Nat) (A' : Option Addr) (c' : Nat) (zs : Zs), k ≤ g.as.length ∧ i = .int .i64 k ∧ zs.map (·.2) = clausesAt g l k ∧ CB wr w3.heap.size A' c' zs ∧ BlkF wr P 57 #[.int .i64 (g.n + 1 + (g.as.length : Int)), .slice A' zs.length c'] ∧ BlkF wr vb 4 (bools (belowG g l)).toArray ∧ OfSt w wr g A c) (fun i _ => g.as.length - (intOf i).toNat)
      case atStart =>
        exact ⟨0, _, _, [(w3.heap.size, [-1])], Nat.zero_le _, rfl, rfl, HC4.out, ⟨HP4.out⟩, ⟨HV4.out⟩, H4.out⟩
      case round =>
        obtain ⟨k, A', c', zs, hk, rfl, hzs, hcb, hbw, hbv, hos⟩ := hrel
        have HC := Lib.hid hcb
        have HWB := Lib.hid hbw.p
        have HVB := Lib.hid hbv.p
        have HZ := Lib.hid hzs
        have HS := Lib.hid hos
        clear hcb hbw hbv hos hzs H4 HC4 HP4 HV4
        have c0 := HS.out.gb.cell 0
        have c1 := HS.out.gb.cell 1
        have hws : P < wr.heap.size := HWB.out.lt
        have hzl : zs.length ≤ 1 + 3 * k := by
          have := clausesAt_length g l k
          rw [← HZ.out, List.length_map] at this
          exact this
        by_cases hlt : k < g.as.length
        · have hlt' : (k : Int) < (g.as.length : Int) := by omega
          obtain ⟨⟨p1, p2⟩, hpk⟩ : ∃ p, g.as[k]? = some p := ⟨_, List.getElem?_eq_getElem hlt⟩
          obtain ⟨b', o', rfl, hbs, q1, q2⟩ := (HS.out.prs HP.out) k _ hpk
          obtain ⟨r1, r2, r3, r4, r5, r6⟩ := gate_lits HR.out hpk
          simp only at r1 r2 r3 r4 r5 r6
          have i0 : 0 ≤ 2 * (g.n + 1 + (k : Int)) := by omega
          have i1 : 0 ≤ 2 * (g.n + 1 + (k : Int)) / 2 := by omega
          have i2 : 2 * (g.n + 1 + (k : Int)) / 2 < ((belowG g l).length : Int) := by rw [HBL.out]; omega
          obtain ⟨bit, hbit⟩ : ∃ y, (belowG g l)[(g.n + 1 + (k : Int)).toNat]? = some y := ⟨_, List.getElem?_eq_getElem (by omega)⟩
          have qv : wr.cell? ⟨vb, (g.n + 1 + (k : Int)).toNat, none⟩ = some (.bool bit) := by
            rw [HVB.out.cell, List.getElem?_toArray]
            exact bools_get hbit
          have i3 : 0 ≤ g.n + 1 + (k : Int) := by omega
          have i4 : g.n + 1 + (k : Int) < ((belowG g l).length : Int) := by rw [HBL.out]; omega
          have HBT := Lib.hid hbit
          have HPK := Lib.hid hpk
          clear hbit hpk
          cases bit
          · have HSN : Hid (clausesAt g l (k + 1) = clausesAt g l k) := clausesAt_no HPK.out HBT.out
            go_wp2_with fail
            go_roundw
            case rel => exact ⟨k + 1, A', c', zs, by omega, by go_num, by rw [HSN.out]; exact HZ.out, HC.out, ⟨HWB.out⟩, ⟨HVB.out⟩, HS.out⟩
            case measure => simp [intOf]; omega
          · have HSN : Hid (clausesAt g l (k + 1) = clausesAt g l k ++ gateC g.n k (p1, p2)) := clausesAt_yes HPK.out HBT.out
            go_wp2_with fail
            have hwm : IntKind.i64.wrap (2 * (g.n + 1 + (k : Int))) = 2 * (g.n + 1 + (k : Int)) := IntWalk.i64_in _ (by omega)
            have HPX : Hid (wr.drew.cell? ⟨w.heap.size, 1, none⟩ = some (.slice (some ⟨b', o', none⟩) g.as.length c) ∧ wr.drew.cell? ⟨b', o' + k * 2, none⟩ = some (.int .i64 p1) ∧ wr.drew.cell? ⟨b', o' + k * 2 + 1, none⟩ = some (.int .i64 p2)) := ⟨HS.out.gb.cell 1, q1, q2⟩
            clear q1 q2 qv c0 c1 i0 i1 i2 i3 i4
            refine wp_region_noPanic ?_
            refine wp_region_seq (fun W => W.cell? ⟨w.heap.size, 1, none⟩ = some (.slice (some ⟨b', o', none⟩) g.as.length c) ∧ W.cell? ⟨b', o' + k * 2, none⟩ = some (.int .i64 p1) ∧ W.cell? ⟨b', o' + k * 2 + 1, none⟩ = some (.int .i64 p2)) [0, 2, 3, 4, 5, 6, 7, 9, 10, 11, 12, 13, 14, 1, 8, 15, 16, 17, 18] [0, 2, 3, 4, 5, 6, 7, 9, 10, 11, 12, 13, 14, 16, 17, 18] [] (by kernel_rfl) (by kernel_rfl) rfl (by kernel_rfl) (by kernel_rfl) (fun _ _ _ _ _ h => h) ?_ (fun hSS => ?_)
            · exact HPX.out
            (refine wpSeq_mov rfl rfl ?_; intro o ho; simp only [List.getElem?_toArray, List.getElem?_cons_zero, List.getElem?_cons_succ, Option.some.injEq] at ho; subst ho; refine ⟨?_, Or.inl ⟨by rfl, fun W hSW => ?_⟩, ?_⟩; rotate_left; (focus (go_simp; first | done | with_reducible rfl)); try simp only [Act.put, List.setIfInBounds_toArray, List.set_cons_zero, List.set_cons_succ])
            (refine wpSeq_mov rfl rfl ?_; intro o ho; simp only [List.getElem?_toArray, List.getElem?_cons_zero, List.getElem?_cons_succ, Option.some.injEq] at ho; subst ho; refine ⟨?_, Or.inl ⟨by rfl, fun W hSW => ?_⟩, ?_⟩; rotate_left; (focus (go_simp; first | done | with_reducible rfl)); try simp only [Act.put, List.setIfInBounds_toArray, List.set_cons_zero, List.set_cons_succ])
            (refine wpSeq_mov rfl rfl ?_; intro o ho; simp only [List.getElem?_toArray, List.getElem?_cons_zero, List.getElem?_cons_succ, Option.some.injEq] at ho; subst ho; refine ⟨?_, Or.inl ⟨by rfl, fun W hSW => ?_⟩, ?_⟩; rotate_left; (focus (go_simp; first | done | with_reducible rfl)); try simp only [Act.put, List.setIfInBounds_toArray, List.set_cons_zero, List.set_cons_succ])
            (refine wpSeq_mov rfl rfl ?_; intro o ho; simp only [List.getElem?_toArray, List.getElem?_cons_zero, List.getElem?_cons_succ, Option.some.injEq] at ho; subst ho; refine ⟨?_, Or.inl ⟨by rfl, fun W hSW => ?_⟩, ?_⟩; rotate_left; (focus (go_simp; first | done | with_reducible rfl)); try simp only [Act.put, List.setIfInBounds_toArray, List.set_cons_zero, List.set_cons_succ])
            (refine wpSeq_mov rfl rfl ?_; intro o ho; simp only [List.getElem?_toArray, List.getElem?_cons_zero, List.getElem?_cons_succ, Option.some.injEq] at ho; subst ho; refine ⟨?_, Or.inl ⟨by rfl, fun W hSW => ?_⟩, ?_⟩; rotate_left; (focus (go_simp; first | done | with_reducible rfl)); try simp only [Act.put, List.setIfInBounds_toArray, List.set_cons_zero, List.set_cons_succ])
            (refine wpSeq_mov rfl rfl ?_; intro o ho; simp only [List.getElem?_toArray, List.getElem?_cons_zero, List.getElem?_cons_succ, Option.some.injEq] at ho; subst ho; refine ⟨?_, Or.inl ⟨by rfl, fun W hSW => ?_⟩, ?_⟩; rotate_left; (focus (go_simp; first | done | with_reducible rfl)); try simp only [Act.put, List.setIfInBounds_toArray, List.set_cons_zero, List.set_cons_succ])
            (refine wpSeq_mov rfl rfl ?_; intro o ho; simp only [List.getElem?_toArray, List.getElem?_cons_zero, List.getElem?_cons_succ, Option.some.injEq] at ho; subst ho; refine ⟨?_, Or.inl ⟨by rfl, fun W hSW => ?_⟩, ?_⟩; rotate_left; (focus (go_simp; first | done | with_reducible rfl)); try simp only [Act.put, List.setIfInBounds_toArray, List.set_cons_zero, List.set_cons_succ])
            (refine wpSeq_mov rfl rfl ?_; intro o ho; simp only [List.getElem?_toArray, List.getElem?_cons_zero, List.getElem?_cons_succ, Option.some.injEq] at ho; subst ho; refine ⟨?_, Or.inl ⟨by rfl, fun W hSW => ?_⟩, ?_⟩; rotate_left; (focus (go_simp; first | done | with_reducible rfl)); try simp only [Act.put, List.setIfInBounds_toArray, List.set_cons_zero, List.set_cons_succ])
            (refine wpSeq_mov rfl rfl ?_; intro o ho; simp only [List.getElem?_toArray, List.getElem?_cons_zero, List.getElem?_cons_succ, Option.some.injEq] at ho; subst ho; refine ⟨?_, Or.inl ⟨by rfl, fun W hSW => ?_⟩, ?_⟩; rotate_left; (focus (go_simp; first | done | with_reducible rfl)); try simp only [Act.put, List.setIfInBounds_toArray, List.set_cons_zero, List.set_cons_succ])
            (refine wpSeq_mov rfl rfl ?_; intro o ho; simp only [List.getElem?_toArray, List.getElem?_cons_zero, List.getElem?_cons_succ, Option.some.injEq] at ho; subst ho; refine ⟨?_, Or.inl ⟨by rfl, fun W hSW => ?_⟩, ?_⟩; rotate_left; (focus (go_simp; first | done | with_reducible rfl)); try simp only [Act.put, List.setIfInBounds_toArray, List.set_cons_zero, List.set_cons_succ])
            (refine wpSeq_mov rfl rfl ?_; intro o ho; simp only [List.getElem?_toArray, List.getElem?_cons_zero, List.getElem?_cons_succ, Option.some.injEq] at ho; subst ho; refine ⟨?_, Or.inl ⟨by rfl, fun W hSW => ?_⟩, ?_⟩; rotate_left; (focus (go_simp; first | done | with_reducible rfl)); try simp only [Act.put, List.setIfInBounds_toArray, List.set_cons_zero, List.set_cons_succ])
            (refine wpSeq_mov rfl rfl ?_; intro o ho; simp only [List.getElem?_toArray, List.getElem?_cons_zero, List.getElem?_cons_succ, Option.some.injEq] at ho; subst ho; refine ⟨?_, Or.inl ⟨by rfl, fun W hSW => ?_⟩, ?_⟩; rotate_left; (focus (go_simp; first | done | with_reducible rfl)); try simp only [Act.put, List.setIfInBounds_toArray, List.set_cons_zero, List.set_cons_succ])
            (refine wpSeq_mov rfl rfl ?_; intro o ho; simp only [List.getElem?_toArray, List.getElem?_cons_zero, List.getElem?_cons_succ, Option.some.injEq] at ho; subst ho; refine ⟨?_, Or.inl ⟨by rfl, fun W hSW => ?_⟩, ?_⟩; rotate_left; (focus (go_simp; first | done | with_reducible rfl)); try simp only [Act.put, List.setIfInBounds_toArray, List.set_cons_zero, List.set_cons_succ])
            (refine wpSeq_fix rfl rfl ?_; intro o ho; simp only [List.getElem?_toArray, List.getElem?_cons_zero, List.getElem?_cons_succ, Option.some.injEq] at ho; subst ho; intro K hK)
            go_simp
            refine (rlitc_any (2 * (g.n + 1 + (k : Int))) _ (by omega) (by omega)).mono ?_
            rintro e w' ⟨rfl, rfl⟩
            (refine hK.out _ _ (fun _ => HPX.out) ?_; clear hK K; try simp only [Act.put, List.setIfInBounds_toArray, List.set_cons_zero, List.set_cons_succ])
            (refine wpSeq_fix rfl rfl ?_; intro o ho; simp only [List.getElem?_toArray, List.getElem?_cons_zero, List.getElem?_cons_succ, Option.some.injEq] at ho; subst ho; intro K hK)
            go_simp
            refine (rlitc_any p1 _ (by omega) (by omega)).mono ?_
            rintro e w' ⟨rfl, rfl⟩
            (refine hK.out _ _ (fun _ => HPX.out) ?_; clear hK K; try simp only [Act.put, List.setIfInBounds_toArray, List.set_cons_zero, List.set_cons_succ])
            (refine wpSeq_fix rfl rfl ?_; intro o ho; simp only [List.getElem?_toArray, List.getElem?_cons_zero, List.getElem?_cons_succ, Option.some.injEq] at ho; subst ho; intro K hK)
            go_simp
            refine (rlitc_any p2 _ (by omega) (by omega)).mono ?_
            rintro e w' ⟨rfl, rfl⟩
            (refine hK.out _ _ (fun _ => HPX.out) ?_; clear hK K; try simp only [Act.put, List.setIfInBounds_toArray, List.set_cons_zero, List.set_cons_succ])
            (refine wpSeq_mov rfl rfl ?_; intro o ho; simp only [List.getElem?_toArray, List.getElem?_cons_zero, List.getElem?_cons_succ, Option.some.injEq] at ho; subst ho; refine ⟨?_, Or.inl ⟨by rfl, fun W hSW => ?_⟩, ?_⟩; rotate_left; (focus (go_simp; first | done | with_reducible rfl)); try simp only [Act.put, List.setIfInBounds_toArray, List.set_cons_zero, List.set_cons_succ])
            (refine wpSeq_mov rfl rfl ?_; intro o ho; simp only [List.getElem?_toArray, List.getElem?_cons_zero, List.getElem?_cons_succ, Option.some.injEq] at ho; subst ho; refine ⟨?_, Or.inl ⟨by rfl, fun W hSW => ?_⟩, ?_⟩; rotate_left; (focus (go_simp; first | done | with_reducible rfl)); try simp only [Act.put, List.setIfInBounds_toArray, List.set_cons_zero, List.set_cons_succ])
            (refine wpSeq_mov rfl rfl ?_; intro o ho; simp only [List.getElem?_toArray, List.getElem?_cons_zero, List.getElem?_cons_succ, Option.some.injEq] at ho; subst ho; refine ⟨?_, Or.inl ⟨by rfl, fun W hSW => ?_⟩, ?_⟩; rotate_left; (focus (go_simp; first | done | with_reducible rfl)); try simp only [Act.put, List.setIfInBounds_toArray, List.set_cons_zero, List.set_cons_succ])
            refine wpSeq_done ?_
            rw [litC_even]
            obtain ⟨a1, a2⟩ := litC_bound r1 r5
            obtain ⟨b1, b2⟩ := litC_bound r3 r6
            have HGC : Hid (gateC g.n k (p1, p2) = [[-(g.n + 1 + k + 1), litC p1], [-(g.n + 1 + k + 1), litC p2], [g.n + 1 + k + 1, -litC p1, -litC p2]]) := rfl
            generalize litC p1 = x1 at a1 a2 HGC ⊢
            generalize litC p2 = x2 at b1 b2 HGC ⊢
            have HC0 := Lib.hid (HC.out.drew)
            have HW0 := Lib.hid (HWB.out.drew)
            have HV0 := Lib.hid (HVB.out.drew)
            have HS0 := Lib.hid (HS.out.after (stepD1 wr))
            have hwb : P < wr.drew.heap.size := hws
            generalize wr.drew = wb at HC0 HW0 HV0 HS0 hwb ⊢
            clear HPX HC HWB HVB HS hws hbs
            have HI1 := Lib.hid ((((Blk.new wb 3 #[.int .i64 (-(g.n + 1 + (k : Int) + 1)), .int .i64 x1]).alloc (.cells #[.int .i64 (-(g.n + 1 + (k : Int) + 1)), .int .i64 x2] 3)).alloc (.cells #[.int .i64 (g.n + 1 + (k : Int) + 1), .int .i64 (-x1), .int .i64 (-x2)] 3)).alloc (.cells #[slot (wb.heap.size, [-(g.n + 1 + (k : Int) + 1), x1]), slot (wb.heap.size + 1, [-(g.n + 1 + (k : Int) + 1), x2]), slot (wb.heap.size + 1 + 1, [g.n + 1 + (k : Int) + 1, -x1, -x2])] 26))
            have j2 := ((Blk.new (wb.alloc (.cells #[.int .i64 (-(g.n + 1 + (k : Int) + 1)), .int .i64 x1] 3)) 3 #[.int .i64 (-(g.n + 1 + (k : Int) + 1)), .int .i64 x2]).alloc (.cells #[.int .i64 (g.n + 1 + (k : Int) + 1), .int .i64 (-x1), .int .i64 (-x2)] 3)).alloc (.cells #[slot (wb.heap.size, [-(g.n + 1 + (k : Int) + 1), x1]), slot (wb.heap.size + 1, [-(g.n + 1 + (k : Int) + 1), x2]), slot (wb.heap.size + 1 + 1, [g.n + 1 + (k : Int) + 1, -x1, -x2])] 26)
            have j3 := (Blk.new ((wb.alloc (.cells #[.int .i64 (-(g.n + 1 + (k : Int) + 1)), .int .i64 x1] 3)).alloc (.cells #[.int .i64 (-(g.n + 1 + (k : Int) + 1)), .int .i64 x2] 3)) 3 #[.int .i64 (g.n + 1 + (k : Int) + 1), .int .i64 (-x1), .int .i64 (-x2)]).alloc (.cells #[slot (wb.heap.size, [-(g.n + 1 + (k : Int) + 1), x1]), slot (wb.heap.size + 1, [-(g.n + 1 + (k : Int) + 1), x2]), slot (wb.heap.size + 1 + 1, [g.n + 1 + (k : Int) + 1, -x1, -x2])] 26)
            simp only [World.size_alloc] at j2 j3
            have HI2 := Lib.hid j2
            have HI3 := Lib.hid j3
            have HC1 := Lib.hid ((((HC0.out.alloc (.cells #[.int .i64 (-(g.n + 1 + (k : Int) + 1)), .int .i64 x1] 3)).alloc (.cells #[.int .i64 (-(g.n + 1 + (k : Int) + 1)), .int .i64 x2] 3)).alloc (.cells #[.int .i64 (g.n + 1 + (k : Int) + 1), .int .i64 (-x1), .int .i64 (-x2)] 3)).alloc (.cells #[slot (wb.heap.size, [-(g.n + 1 + (k : Int) + 1), x1]), slot (wb.heap.size + 1, [-(g.n + 1 + (k : Int) + 1), x2]), slot (wb.heap.size + 1 + 1, [g.n + 1 + (k : Int) + 1, -x1, -x2])] 26))
            have HW1 := Lib.hid ((((HW0.out.alloc (.cells #[.int .i64 (-(g.n + 1 + (k : Int) + 1)), .int .i64 x1] 3)).alloc (.cells #[.int .i64 (-(g.n + 1 + (k : Int) + 1)), .int .i64 x2] 3)).alloc (.cells #[.int .i64 (g.n + 1 + (k : Int) + 1), .int .i64 (-x1), .int .i64 (-x2)] 3)).alloc (.cells #[slot (wb.heap.size, [-(g.n + 1 + (k : Int) + 1), x1]), slot (wb.heap.size + 1, [-(g.n + 1 + (k : Int) + 1), x2]), slot (wb.heap.size + 1 + 1, [g.n + 1 + (k : Int) + 1, -x1, -x2])] 26))
            have HV1 := Lib.hid ((((HV0.out.alloc (.cells #[.int .i64 (-(g.n + 1 + (k : Int) + 1)), .int .i64 x1] 3)).alloc (.cells #[.int .i64 (-(g.n + 1 + (k : Int) + 1)), .int .i64 x2] 3)).alloc (.cells #[.int .i64 (g.n + 1 + (k : Int) + 1), .int .i64 (-x1), .int .i64 (-x2)] 3)).alloc (.cells #[slot (wb.heap.size, [-(g.n + 1 + (k : Int) + 1), x1]), slot (wb.heap.size + 1, [-(g.n + 1 + (k : Int) + 1), x2]), slot (wb.heap.size + 1 + 1, [g.n + 1 + (k : Int) + 1, -x1, -x2])] 26))
            have HS1 := Lib.hid ((((HS0.out.after (stepA _ (.cells #[.int .i64 (-(g.n + 1 + (k : Int) + 1)), .int .i64 x1] 3))).after (stepA _ (.cells #[.int .i64 (-(g.n + 1 + (k : Int) + 1)), .int .i64 x2] 3))).after (stepA _ (.cells #[.int .i64 (g.n + 1 + (k : Int) + 1), .int .i64 (-x1), .int .i64 (-x2)] 3))).after (stepA _ (.cells #[slot (wb.heap.size, [-(g.n + 1 + (k : Int) + 1), x1]), slot (wb.heap.size + 1, [-(g.n + 1 + (k : Int) + 1), x2]), slot (wb.heap.size + 1 + 1, [g.n + 1 + (k : Int) + 1, -x1, -x2])] 26)))
            have hvn := vals_new (((wb.alloc (.cells #[.int .i64 (-(g.n + 1 + (k : Int) + 1)), .int .i64 x1] 3)).alloc (.cells #[.int .i64 (-(g.n + 1 + (k : Int) + 1)), .int .i64 x2] 3)).alloc (.cells #[.int .i64 (g.n + 1 + (k : Int) + 1), .int .i64 (-x1), .int .i64 (-x2)] 3)) [slot (wb.heap.size, [-(g.n + 1 + (k : Int) + 1), x1]), slot (wb.heap.size + 1, [-(g.n + 1 + (k : Int) + 1), x2]), slot (wb.heap.size + 1 + 1, [g.n + 1 + (k : Int) + 1, -x1, -x2])] 26
            simp only [World.size_alloc] at hvn
            have HVN := Lib.hid hvn
            clear hvn
            have k1 := HW0.out.cell 1
            clear j2 j3 HC0 HW0 HV0 HS0
            obtain ⟨i0, hi0, hz0, hz1, hz2⟩ := info_parts rowInfo
            go_wp2_with (first
              | (at_builtin; refine wpList_append_vals _ rfl (.tmp 67) (.tmp 82) _ rfl w3.heap.size 26 i0 _ 1 24 Try.underlying55 hi0 hz0 hz1 hz2 rfl (by omega) (.slice A' zs.length c') zs.length (zs.map slot) rfl HC1.out.own _ _ 3 3 [slot (wb.heap.size, [-(g.n + 1 + (k : Int) + 1), x1]), slot (wb.heap.size + 1, [-(g.n + 1 + (k : Int) + 1), x2]), slot (wb.heap.size + 1 + 1, [g.n + 1 + (k : Int) + 1, -x1, -x2])] rfl rfl HVN.out (slot_one [(wb.heap.size, [-(g.n + 1 + (k : Int) + 1), x1]), (wb.heap.size + 1, [-(g.n + 1 + (k : Int) + 1), x2]), (wb.heap.size + 1 + 1, [g.n + 1 + (k : Int) + 1, -x1, -x2])]) (by unfold maxLen; omega) (by omega) (by simp; omega) ?_; intro v5 w5 hown5 hg5; obtain ⟨A6, c6, rfl, hcap6⟩ := own_form hown5; have HG := Lib.hid hg5; have HO5 := Lib.hid hown5; have HP5 := Lib.hid (HW1.out.by_ hg5 (own_ne HC1.out.own HW1.out (by decide))); have HV5 := Lib.hid (HV1.out.by_ hg5 (own_ne HC1.out.own HV1.out (by decide))); clear hown5 hg5 k1; have k1 := HP5.out.cell 1; have f1 := HP5.out.frozen 1))
            have e1 : (zs ++ [(wb.heap.size, [-(g.n + 1 + (k : Int) + 1), x1]), (wb.heap.size + 1, [-(g.n + 1 + (k : Int) + 1), x2]), (wb.heap.size + 1 + 1, [g.n + 1 + (k : Int) + 1, -x1, -x2])]).length = zs.length + 3 := by simp
            have e2 : (zs ++ [(wb.heap.size, [-(g.n + 1 + (k : Int) + 1), x1]), (wb.heap.size + 1, [-(g.n + 1 + (k : Int) + 1), x2]), (wb.heap.size + 1 + 1, [g.n + 1 + (k : Int) + 1, -x1, -x2])]).map slot = zs.map slot ++ [slot (wb.heap.size, [-(g.n + 1 + (k : Int) + 1), x1]), slot (wb.heap.size + 1, [-(g.n + 1 + (k : Int) + 1), x2]), slot (wb.heap.size + 1 + 1, [g.n + 1 + (k : Int) + 1, -x1, -x2])] := by simp
            have hcb : CB w5 w3.heap.size A6 c6 (zs ++ [(wb.heap.size, [-(g.n + 1 + (k : Int) + 1), x1]), (wb.heap.size + 1, [-(g.n + 1 + (k : Int) + 1), x2]), (wb.heap.size + 1 + 1, [g.n + 1 + (k : Int) + 1, -x1, -x2])]) := HC1.out.grow HG.out (by rw [e1, e2]; exact HO5.out) (fun y hy => by
              simp only [List.mem_cons, List.not_mem_nil, or_false] at hy
              rcases hy with rfl | rfl | rfl
              · exact HI1.out
              · exact HI2.out
              · exact HI3.out)
            have HC6 := Lib.hid (hcb.set HP5.out (by decide) (by decide) 1 (.slice A6 (zs.length + 3) c6))
            have HW6 := Lib.hid (HP5.out.set_ 1 (.slice A6 (zs.length + 3) c6))
            have hvp : vb ≠ P := by
              intro e
              have h1 := HV5.out
              have h2 := HP5.out
              unfold Blk at h1 h2
              rw [e, h2] at h1
              injection h1 with h1
              injection h1 with _ h1
              exact absurd h1 (by decide)
            have HV6 := Lib.hid (HV5.out.far (p := ⟨P, 1, none⟩) hvp (.slice A6 (zs.length + 3) c6))
            have HS6 : Hid (OfSt w (w5.setCell ⟨P, 1, none⟩ (.slice A6 (zs.length + 3) c6)) g (some ⟨b', o', none⟩) c) := ⟨(HS1.out.below.grown HG.out HS1.out.size (fun q hq => by have := own_block HC1.out.own q hq; omega)).setCell (p := ⟨P, 1, none⟩) (by show w.heap.size + 2 ≤ P; omega) _⟩
            go_roundw
            case rel =>
              refine ⟨k + 1, A6, c6, zs ++ [(wb.heap.size, [-(g.n + 1 + (k : Int) + 1), x1]), (wb.heap.size + 1, [-(g.n + 1 + (k : Int) + 1), x2]), (wb.heap.size + 1 + 1, [g.n + 1 + (k : Int) + 1, -x1, -x2])], by omega, by go_num, by rw [HSN.out, HGC.out, ← HZ.out]; simp, HC6.out, ⟨?_⟩, ⟨HV6.out⟩, HS6.out⟩
              rw [e1]
              exact HW6.out
            case measure => simp [intOf]; omega
        · obtain rfl : k = g.as.length := by omega
          have hlt' : ¬ ((g.as.length : Int) < (g.as.length : Int)) := by omega
          have k0 := HWB.out.cell 0
          have k1 := HWB.out.cell 1
          have d0 := HS.out.rb.cell 0
          have d1 := HS.out.rb.cell 1
          have f0 := HS.out.rb.frozen 0
          have f1 := HS.out.rb.frozen 1
          go_wp2_with fail
          have t0 : ((wr.setCell ⟨w.heap.size + 1, 0, none⟩ (.int .i64 (g.n + 1 + (g.as.length : Int)))).setCell ⟨w.heap.size + 1, 1, none⟩ (.slice A' zs.length c')).cell? ⟨w.heap.size + 1, 0, none⟩ = some (.int .i64 (g.n + 1 + (g.as.length : Int))) := ((HS.out.rb.set_ 0 (.int .i64 (g.n + 1 + (g.as.length : Int)))).set_ 1 (.slice A' zs.length c')).cell 0
          have t1 : ((wr.setCell ⟨w.heap.size + 1, 0, none⟩ (.int .i64 (g.n + 1 + (g.as.length : Int)))).setCell ⟨w.heap.size + 1, 1, none⟩ (.slice A' zs.length c')).cell? ⟨w.heap.size + 1, 1, none⟩ = some (.slice A' zs.length c') := ((HS.out.rb.set_ 0 (.int .i64 (g.n + 1 + (g.as.length : Int)))).set_ 1 (.slice A' zs.length c')).cell 1
          have HCF := Lib.hid ((HC.out.set HS.out.rb (by decide) (by decide) 0 (.int .i64 (g.n + 1 + (g.as.length : Int)))).set (HS.out.rb.set_ 0 (.int .i64 (g.n + 1 + (g.as.length : Int)))) (by decide) (by decide) 1 (.slice A' zs.length c'))
          have HLF : Hid (Below w.heap.size w ((wr.setCell ⟨w.heap.size + 1, 0, none⟩ (.int .i64 (g.n + 1 + (g.as.length : Int)))).setCell ⟨w.heap.size + 1, 1, none⟩ (.slice A' zs.length c'))) := (HS.out.low.setCell (p := ⟨w.heap.size + 1, 0, none⟩) (by simp) _).setCell (p := ⟨w.heap.size + 1, 1, none⟩) (by simp) _
          generalize (wr.setCell ⟨w.heap.size + 1, 0, none⟩ (.int .i64 (g.n + 1 + (g.as.length : Int)))).setCell ⟨w.heap.size + 1, 1, none⟩ (.slice A' zs.length c') = wz at t0 t1 HCF HLF ⊢
          refine bodyPost_ret (v := .tuple #[.agg #[(.int .i64 (g.n + 1 + (g.as.length : Int))), .slice A' zs.length c'], .int .i64 0]) (by simp [results, Try.results48, go_sem, t0, t1]) rfl ?_
          rw [HE.out]
          have hcls := HCF.out.cls
          have hlen : (clausesAt g l g.as.length).length = zs.length := by rw [← HZ.out, List.length_map]
          refine ⟨A', c', ?_, ?_, ?_, HLF.out⟩
          · show Ending.returned _ = Ending.returned (.tuple #[.agg #[.int .i64 g.vars, .slice A' (clausesAt g l g.as.length).length c'], .int .i64 0])
            rw [hlen]
            rfl
          · show (clausesAt g l g.as.length).length ≤ c'
            rw [hlen]
            exact HCF.out.cap
          · show Cls _ _ A' (clausesAt g l g.as.length)
            rw [← HZ.out]
            exact hcls
end Go.Proofs.Ytbdhkagcbncefaa

set_option linter.unusedVariables false
set_option linter.unusedSimpArgs false
namespace Go.Proofs.Ytbdhkagcbncefaa
open Go.RowKit Go.Maps

/-- Clauses by their blocks. -/
theorem cls_of_blks {w : World} {b : Nat} {zs : Zs} (h : Blk w b 26 (zs.map slot).toArray) (hi : ∀ z ∈ zs, Blk w z.1 3 (i64s z.2).toArray) : Cls w w.heap.size (some ⟨b, 0, none⟩) (zs.map (·.2)) := fun i x hx => by
  rw [List.getElem?_map] at hx
  obtain ⟨z, hz, rfl⟩ := Option.map_eq_some_iff.1 hx
  obtain ⟨b', o, e, hb, hc⟩ := vals_of_blk h i (slot z) (by rw [List.getElem?_map, hz]; rfl)
  exact ⟨b', o, _, _, e, hb, hc, Nat.le_refl _, vals_of_blk (hi z (List.mem_of_getElem? hz))⟩

theorem cf_g1 : cnfG g1 6 = (4, [[-1], [-4, 3], [-4, 2], [4, -3, -2]], 0) := by kernel_rfl
theorem cf_g1' : cnfG g1 8 = (0, [], 1) := by kernel_rfl
theorem so_g1 : soC 4 [[-1], [-4, 3], [-4, 2], [4, -3, -2]] [false, true, true, true] = true := by kernel_rfl
theorem so_g1' : soC 4 [[-1], [-4, 3], [-4, 2], [4, -3, -2]] [false, true, true, false] = false := by kernel_rfl
theorem so_g1'' : soC 4 [[-1], [-4, 3], [-4, 2], [4, -3, -2]] [] = false := by kernel_rfl
theorem lit_7 : litC 7 = -4 := by kernel_rfl

theorem cls_lit (W : World) : Cls (((((W.alloc (.cells #[.int .i64 (-1)] 3)).alloc (.cells #[.int .i64 (-4), .int .i64 3] 3)).alloc (.cells #[.int .i64 (-4), .int .i64 2] 3)).alloc (.cells #[.int .i64 4, .int .i64 (-3), .int .i64 (-2)] 3)).alloc (.cells #[.slice (some ⟨W.heap.size, 0, none⟩) 1 1, .slice (some ⟨W.heap.size + 1, 0, none⟩) 2 2, .slice (some ⟨W.heap.size + 1 + 1, 0, none⟩) 2 2, .slice (some ⟨W.heap.size + 1 + 1 + 1, 0, none⟩) 3 3] 26)) (W.heap.size + 1 + 1 + 1 + 1 + 1) (some ⟨W.heap.size + 1 + 1 + 1 + 1, 0, none⟩) [[-1], [-4, 3], [-4, 2], [4, -3, -2]] := by
  have i1 := ((((Blk.new W 3 #[.int .i64 (-1)]).alloc (.cells #[.int .i64 (-4), .int .i64 3] 3)).alloc (.cells #[.int .i64 (-4), .int .i64 2] 3)).alloc (.cells #[.int .i64 4, .int .i64 (-3), .int .i64 (-2)] 3)).alloc (.cells #[.slice (some ⟨W.heap.size, 0, none⟩) 1 1, .slice (some ⟨W.heap.size + 1, 0, none⟩) 2 2, .slice (some ⟨W.heap.size + 1 + 1, 0, none⟩) 2 2, .slice (some ⟨W.heap.size + 1 + 1 + 1, 0, none⟩) 3 3] 26)
  have i2 := (((Blk.new (W.alloc (.cells #[.int .i64 (-1)] 3)) 3 #[.int .i64 (-4), .int .i64 3]).alloc (.cells #[.int .i64 (-4), .int .i64 2] 3)).alloc (.cells #[.int .i64 4, .int .i64 (-3), .int .i64 (-2)] 3)).alloc (.cells #[.slice (some ⟨W.heap.size, 0, none⟩) 1 1, .slice (some ⟨W.heap.size + 1, 0, none⟩) 2 2, .slice (some ⟨W.heap.size + 1 + 1, 0, none⟩) 2 2, .slice (some ⟨W.heap.size + 1 + 1 + 1, 0, none⟩) 3 3] 26)
  have i3 := ((Blk.new ((W.alloc (.cells #[.int .i64 (-1)] 3)).alloc (.cells #[.int .i64 (-4), .int .i64 3] 3)) 3 #[.int .i64 (-4), .int .i64 2]).alloc (.cells #[.int .i64 4, .int .i64 (-3), .int .i64 (-2)] 3)).alloc (.cells #[.slice (some ⟨W.heap.size, 0, none⟩) 1 1, .slice (some ⟨W.heap.size + 1, 0, none⟩) 2 2, .slice (some ⟨W.heap.size + 1 + 1, 0, none⟩) 2 2, .slice (some ⟨W.heap.size + 1 + 1 + 1, 0, none⟩) 3 3] 26)
  have i4 := (Blk.new (((W.alloc (.cells #[.int .i64 (-1)] 3)).alloc (.cells #[.int .i64 (-4), .int .i64 3] 3)).alloc (.cells #[.int .i64 (-4), .int .i64 2] 3)) 3 #[.int .i64 4, .int .i64 (-3), .int .i64 (-2)]).alloc (.cells #[.slice (some ⟨W.heap.size, 0, none⟩) 1 1, .slice (some ⟨W.heap.size + 1, 0, none⟩) 2 2, .slice (some ⟨W.heap.size + 1 + 1, 0, none⟩) 2 2, .slice (some ⟨W.heap.size + 1 + 1 + 1, 0, none⟩) 3 3] 26)
  have o := Blk.new ((((W.alloc (.cells #[.int .i64 (-1)] 3)).alloc (.cells #[.int .i64 (-4), .int .i64 3] 3)).alloc (.cells #[.int .i64 (-4), .int .i64 2] 3)).alloc (.cells #[.int .i64 4, .int .i64 (-3), .int .i64 (-2)] 3)) 26 #[.slice (some ⟨W.heap.size, 0, none⟩) 1 1, .slice (some ⟨W.heap.size + 1, 0, none⟩) 2 2, .slice (some ⟨W.heap.size + 1 + 1, 0, none⟩) 2 2, .slice (some ⟨W.heap.size + 1 + 1 + 1, 0, none⟩) 3 3]
  simp only [World.size_alloc] at i2 i3 i4 o
  have h := cls_of_blks (zs := [(W.heap.size, [-1]), (W.heap.size + 1, [-4, 3]), (W.heap.size + 1 + 1, [-4, 2]), (W.heap.size + 1 + 1 + 1, [4, -3, -2])]) o (fun z hz => by
    simp only [List.mem_cons, List.not_mem_nil, or_false] at hz
    rcases hz with rfl | rfl | rfl | rfl
    · exact i1
    · exact i2
    · exact i3
    · exact i4)
  simp only [World.size_alloc] at h
  exact h

set_option maxRecDepth 100000 in
set_option maxHeartbeats 2000000 in
theorem awake14_any (w : World) : Calls Try.prog 46 #[] w (Ret w (.bool true)) := by
  have hnot := @not_run Try.prog
  have n1 : g1.n = 2 := rfl
  have l1 : g1.as.length = 1 := rfl
  have HC1 := Lib.hid (fun (l : Int) (hl : l ≤ 9223372036854775807) (A : Option Addr) (W : World) (hp : Prs W W.heap.size A g1.as) => cof_any g1 l A 1 W g1_ok hl hp)
  have HG : Hid (GBox ((w.alloc (.cells #[.int .i64 4, .int .i64 2] 41)).alloc (.cells #[.int .i64 2, .slice (some ⟨w.heap.size, 0, none⟩) 1 1] 24)) (w.heap.size + 1) g1 (some ⟨w.heap.size, 0, none⟩) 1) := by
    have h1 : Prs (w.alloc (.cells #[.int .i64 4, .int .i64 2] 41)) (w.alloc (.cells #[.int .i64 4, .int .i64 2] 41)).heap.size (some ⟨w.heap.size, 0, none⟩) g1.as := Prs.of_vals (vals_new' w [.int .i64 4, .int .i64 2] 41)
    have h2 := GBox.new (g := g1) (d := 1) (w := w.alloc (.cells #[.int .i64 4, .int .i64 2] 41)) (by simp [g1]) h1
    rw [World.size_alloc] at h2
    exact h2
  have HL := Lib.hid (((Low.refl w).step (stepA w (.cells #[.int .i64 4, .int .i64 2] 41))).step (stepA _ (.cells #[.int .i64 2, .slice (some ⟨w.heap.size, 0, none⟩) 1 1] 24)))
  go_enter Try.func46, Try.ntmps46
  go_wp2_with fail
  refine (HC1.out 6 (by omega) _ _ HG.out.prs).mono ?_
  rintro e w1 ⟨A1, c1, rfl, hc1, hcl, hb⟩
  replace HG := Lib.hid (HG.out.step hb); replace HL := Lib.hid (HL.out.step hb)
  rw [cf_g1] at hc1 hcl ⊢
  have HK := Lib.hid (BlkF.new w1 57 #[.int .i64 4, .slice A1 4 c1])
  have HCL : Hid (Cls _ _ A1 _) := hcl.after (stepA w1 (.cells #[.int .i64 4, .slice A1 4 c1] 57))
  replace HG := Lib.hid (HG.out.step (stepA w1 (.cells #[.int .i64 4, .slice A1 4 c1] 57))); replace HL := Lib.hid (HL.out.step (stepA w1 (.cells #[.int .i64 4, .slice A1 4 c1] 57)))
  clear hb hcl
  have c0 := HG.out.c0
  have c1' := HG.out.c1
  go_wp2_with fail
  refine (HC1.out 8 (by omega) _ _ HG.out.prs).mono ?_
  rintro e w2 ⟨A2, c2, rfl, hc2, _, hb⟩
  replace HG := Lib.hid (HG.out.step hb); replace HL := Lib.hid (HL.out.step hb); replace HK := Lib.hid (HK.out.step hb)
  replace HCL := Lib.hid (HCL.out.after hb)
  rw [cf_g1'] at hc2 ⊢
  clear hb c0 c1'
  replace HG := Lib.hid (HG.out.step (stepA w2 (.cells #[.int .i64 0, .slice A2 0 c2] 57))); replace HL := Lib.hid (HL.out.step (stepA w2 (.cells #[.int .i64 0, .slice A2 0 c2] 57))); replace HK := Lib.hid (HK.out.step (stepA w2 (.cells #[.int .i64 0, .slice A2 0 c2] 57)))
  replace HCL := Lib.hid (HCL.out.after (stepA w2 (.cells #[.int .i64 0, .slice A2 0 c2] 57)))
  have k0 := HK.out.cell 0
  have k1 := HK.out.cell 1
  go_wp2_with fail
  have hlit := cls_lit (w2.alloc (.cells #[.int .i64 0, .slice A2 0 c2] 57))
  simp only [World.size_alloc] at hlit
  replace HG := Lib.hid (HG.out.step (stepA _ (.cells #[.int .i64 (-1)] 3))); replace HL := Lib.hid (HL.out.step (stepA _ (.cells #[.int .i64 (-1)] 3))); replace HK := Lib.hid (HK.out.step (stepA _ (.cells #[.int .i64 (-1)] 3)))
  replace HG := Lib.hid (HG.out.step (stepA _ (.cells #[.int .i64 (-4), .int .i64 3] 3))); replace HL := Lib.hid (HL.out.step (stepA _ (.cells #[.int .i64 (-4), .int .i64 3] 3))); replace HK := Lib.hid (HK.out.step (stepA _ (.cells #[.int .i64 (-4), .int .i64 3] 3)))
  replace HG := Lib.hid (HG.out.step (stepA _ (.cells #[.int .i64 (-4), .int .i64 2] 3))); replace HL := Lib.hid (HL.out.step (stepA _ (.cells #[.int .i64 (-4), .int .i64 2] 3))); replace HK := Lib.hid (HK.out.step (stepA _ (.cells #[.int .i64 (-4), .int .i64 2] 3)))
  replace HG := Lib.hid (HG.out.step (stepA _ (.cells #[.int .i64 4, .int .i64 (-3), .int .i64 (-2)] 3))); replace HL := Lib.hid (HL.out.step (stepA _ (.cells #[.int .i64 4, .int .i64 (-3), .int .i64 (-2)] 3))); replace HK := Lib.hid (HK.out.step (stepA _ (.cells #[.int .i64 4, .int .i64 (-3), .int .i64 (-2)] 3)))
  replace HG := Lib.hid (HG.out.step (stepA _ (.cells #[.slice (some ⟨w2.heap.size + 1, 0, none⟩) 1 1, .slice (some ⟨w2.heap.size + 1 + 1, 0, none⟩) 2 2, .slice (some ⟨w2.heap.size + 1 + 1 + 1, 0, none⟩) 2 2, .slice (some ⟨w2.heap.size + 1 + 1 + 1 + 1, 0, none⟩) 3 3] 26))); replace HL := Lib.hid (HL.out.step (stepA _ (.cells #[.slice (some ⟨w2.heap.size + 1, 0, none⟩) 1 1, .slice (some ⟨w2.heap.size + 1 + 1, 0, none⟩) 2 2, .slice (some ⟨w2.heap.size + 1 + 1 + 1, 0, none⟩) 2 2, .slice (some ⟨w2.heap.size + 1 + 1 + 1 + 1, 0, none⟩) 3 3] 26))); replace HK := Lib.hid (HK.out.step (stepA _ (.cells #[.slice (some ⟨w2.heap.size + 1, 0, none⟩) 1 1, .slice (some ⟨w2.heap.size + 1 + 1, 0, none⟩) 2 2, .slice (some ⟨w2.heap.size + 1 + 1 + 1, 0, none⟩) 2 2, .slice (some ⟨w2.heap.size + 1 + 1 + 1 + 1, 0, none⟩) 3 3] 26)))
  replace HCL := Lib.hid (((((HCL.out.after (stepA _ (.cells #[.int .i64 (-1)] 3))).after (stepA _ (.cells #[.int .i64 (-4), .int .i64 3] 3))).after (stepA _ (.cells #[.int .i64 (-4), .int .i64 2] 3))).after (stepA _ (.cells #[.int .i64 4, .int .i64 (-3), .int .i64 (-2)] 3))).after (stepA _ (.cells #[.slice (some ⟨w2.heap.size + 1, 0, none⟩) 1 1, .slice (some ⟨w2.heap.size + 1 + 1, 0, none⟩) 2 2, .slice (some ⟨w2.heap.size + 1 + 1 + 1, 0, none⟩) 2 2, .slice (some ⟨w2.heap.size + 1 + 1 + 1 + 1, 0, none⟩) 3 3] 26)))
  have hls : ∀ l ∈ ([[-1], [-4, 3], [-4, 2], [4, -3, -2]] : List (List Int)), l.length ≤ 140737488355328 := by
    intro l hl
    simp at hl
    rcases hl with rfl | rfl | rfl | rfl <;> simp
  refine (csame_any 4 [[-1], [-4, 3], [-4, 2], [4, -3, -2]] A1 _ c1 4 _ (by simp) hls HCL.out (by simp only [World.size_alloc]; exact hlit)).mono ?_
  rintro e w3 ⟨rfl, hb⟩
  replace HG := Lib.hid (HG.out.step hb); replace HL := Lib.hid (HL.out.step hb); replace HK := Lib.hid (HK.out.step hb)
  replace HCL := Lib.hid (HCL.out.after hb)
  clear hb k0 k1 hlit
  have HLS := Lib.hid hls
  clear hls
  go_wp2_with fail
  refine (clit_any 7 _ (by omega) (by omega)).mono ?_
  rintro e w4 ⟨rfl, rfl⟩
  rw [lit_7]
  have k0 := HK.out.cell 0
  have k1 := HK.out.cell 1
  go_wp2_with fail
  replace HG := Lib.hid (HG.out.step (stepA _ (.cells #[.bool false, .bool true, .bool true, .bool true] 4))); replace HL := Lib.hid (HL.out.step (stepA _ (.cells #[.bool false, .bool true, .bool true, .bool true] 4))); replace HK := Lib.hid (HK.out.step (stepA _ (.cells #[.bool false, .bool true, .bool true, .bool true] 4)))
  replace HCL := Lib.hid (HCL.out.after (stepA _ (.cells #[.bool false, .bool true, .bool true, .bool true] 4)))
  refine (cso_any 4 [[-1], [-4, 3], [-4, 2], [4, -3, -2]] [false, true, true, true] A1 _ c1 4 _ (by simp) HLS.out (by simp) HCL.out (vals_new' _ [.bool false, .bool true, .bool true, .bool true] _)).mono ?_
  rintro e w5 ⟨rfl, hb⟩
  replace HG := Lib.hid (HG.out.step hb); replace HL := Lib.hid (HL.out.step hb); replace HK := Lib.hid (HK.out.step hb)
  replace HCL := Lib.hid (HCL.out.after hb)
  rw [so_g1]
  clear hb
  replace k0 := HK.out.cell 0
  replace k1 := HK.out.cell 1
  go_wp2_with fail
  replace HG := Lib.hid (HG.out.step (stepA _ (.cells #[.bool false, .bool true, .bool true, .bool false] 4))); replace HL := Lib.hid (HL.out.step (stepA _ (.cells #[.bool false, .bool true, .bool true, .bool false] 4))); replace HK := Lib.hid (HK.out.step (stepA _ (.cells #[.bool false, .bool true, .bool true, .bool false] 4)))
  replace HCL := Lib.hid (HCL.out.after (stepA _ (.cells #[.bool false, .bool true, .bool true, .bool false] 4)))
  refine (cso_any 4 [[-1], [-4, 3], [-4, 2], [4, -3, -2]] [false, true, true, false] A1 _ c1 4 _ (by simp) HLS.out (by simp) HCL.out (vals_new' _ [.bool false, .bool true, .bool true, .bool false] _)).mono ?_
  rintro e w6 ⟨rfl, hb⟩
  replace HG := Lib.hid (HG.out.step hb); replace HL := Lib.hid (HL.out.step hb); replace HK := Lib.hid (HK.out.step hb)
  replace HCL := Lib.hid (HCL.out.after hb)
  rw [so_g1']
  clear hb
  replace k0 := HK.out.cell 0
  replace k1 := HK.out.cell 1
  go_wp2_with fail
  refine (cso_any 4 [[-1], [-4, 3], [-4, 2], [4, -3, -2]] [] A1 none c1 0 _ (by simp) HLS.out (by simp) HCL.out Vals.nil).mono ?_
  rintro e w7 ⟨rfl, hb⟩
  replace HG := Lib.hid (HG.out.step hb); replace HL := Lib.hid (HL.out.step hb); replace HK := Lib.hid (HK.out.step hb)
  rw [so_g1'']
  clear hb
  go_wp2_with fail
  go_ret
  exact ⟨rfl, HL.out.b⟩
end Go.Proofs.Ytbdhkagcbncefaa
