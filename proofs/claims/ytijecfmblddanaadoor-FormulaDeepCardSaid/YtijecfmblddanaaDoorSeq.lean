/- A region that draws its order, walked once in an order of ours: what yields in every world that meets S may come at any time before S falls; what is left is forced. -/
import Derived.Deep.RegionHeld3
import Derived.StillTail
import Derived.WalkKit
namespace Go.Proofs.YtijecfmblddanaaDoor
open Go.RowKit Go

section
variable {P : Program} {ops : Array Oper} {Q : Exit → Act → World → Prop} {md : Region.Mode} {S : World → Prop} {late mov : Nat → Bool}

/-- Whatever order is picked from here on; S holds behind every operation that is not late. -/
def wpAnyL (P : Program) (md : Region.Mode) (ops : Array Oper) (Q : Exit → Act → World → Prop) (S : World → Prop) (late : Nat → Bool) : Nat → Array Bool → Act → World → Prop
  | 0, listed, a, w => Region.ready md ops listed = [] ∧ Q .normal a w
  | fuel + 1, listed, a, w =>
    (Region.ready md ops listed = [] → Q .normal a w) ∧
    ∀ i ∈ Region.ready md ops listed, wpOp P ops Q i (fun a' w' => (late i = false → S w') ∧ wpAnyL P md ops Q S late fuel (listed.setIfInBounds i true) a' w') a w

theorem wpAny_of_L : ∀ (fuel : Nat) (listed : Array Bool) (a : Act) (w : World), wpAnyL P md ops Q S late fuel listed a w → wpAny P md ops Q fuel listed a w
  | 0, _, _, _, h => h
  | fuel + 1, _, _, _, h => ⟨h.1, fun i hi => wpOp_mono (fun a' w' h' => wpAny_of_L fuel _ a' w' h'.2) (h.2 i hi)⟩

theorem wpAnyL_first {i : Nat} {oi : Oper} {v : Value} (hi : ops[i]? = some oi) (hsel : ∀ (j : Nat) (o : Oper) cs b, ops[j]? = some o → o.op ≠ .select cs b)
    (hQ : ∀ c a w, Q (.panic c) (a.put oi.dst v) w → Q (.panic c) a w)
    (hlate : ∀ j, late j = true → Region.waitsFor md ops j i = true) :
    ∀ (fuel : Nat) (listed : Array Bool) (a : Act) (w : World),
      (∀ j oj, ops[j]? = some oj → j ≠ i → listed.getD j true = false → (∀ e ∈ oj.after, Region.binds md e = true → e.on ≠ i) → oi.apart ops oj = true) →
      i ∈ Region.ready md ops listed → YieldsIf P ops S oi v a → S w →
      wpAnyL P md ops Q S late fuel (listed.setIfInBounds i true) (a.put oi.dst v) w → wpAnyL P md ops Q S late (fuel + 1) listed a w := by
  intro fuel
  induction fuel with
  | zero =>
    intro listed a w _ hr hy hS H
    refine ⟨fun h => (by rw [h] at hr; cases hr), fun j hj => ?_⟩
    by_cases hji : j = i
    · subst hji; exact hy.wpOp hi hS ⟨fun _ => hS, H⟩
    · have := ready_mono hj hji
      rw [H.1] at this
      cases this
  | succ fuel ih =>
    intro listed a w hfree hr hy hS H
    refine ⟨fun h => (by rw [h] at hr; cases hr), fun j hj => ?_⟩
    by_cases hji : j = i
    · subst hji; exact hy.wpOp hi hS ⟨fun _ => hS, H⟩
    · have h1 := H.2 j (ready_mono hj hji)
      obtain ⟨hjun, oj, hoj, hall⟩ := mem_ready.1 hj
      have hnot : ∀ e ∈ oj.after, Region.binds md e = true → e.on ≠ i := fun e he hb heq => by
        have h1 := hall e he hb
        have h0 := (mem_ready.1 hr).1
        rw [heq] at h1
        rcases Nat.lt_or_ge i listed.size with h' | h'
        · simp [h'] at h0 h1; rw [h0] at h1; cases h1
        · simp [Array.getElem?_eq_none h'] at h1
      have hl : late j = false := by
        cases hl : late j with
        | false => rfl
        | true =>
          obtain ⟨o2, ho2, e, he, hb, heq⟩ := Region.waitsFor_spec (hlate j hl)
          rw [hoj] at ho2
          cases ho2
          exact absurd heq (hnot e he hb)
      have h2 := wpOp_putIf hoj (hfree j oj hoj hji hjun hnot) (fun cs b => hsel i oi cs b hi) (fun cs b => hsel j oj cs b hoj) hQ hy h1
      have hfree' : ∀ k ok, ops[k]? = some ok → k ≠ i → (listed.setIfInBounds j true).getD k true = false →
          (∀ e ∈ ok.after, Region.binds md e = true → e.on ≠ i) → oi.apart ops ok = true := fun k ok hk hki hun hno => by
        refine hfree k ok hk hki ?_ hno
        by_cases hjk : j = k
        · subst hjk; exact hjun
        · rw [getD_set_ne true hjk] at hun; exact hun
      refine wpOp_mono (fun a' w' h3 => ⟨h3.2.1, ih (listed.setIfInBounds j true) a' w' hfree' (ready_mono hr (Ne.symm hji)) h3.1 (h3.2.1 hl) ?_⟩) h2
      rw [Array.setIfInBounds_comm _ _ hji]
      exact h3.2.2

/-- The region's operations in an order of ours. -/
def wpSeq (P : Program) (ops : Array Oper) (Q : Exit → Act → World → Prop) (S : World → Prop) (mov late : Nat → Bool) : List Nat → Act → World → Prop
  | [], a, w => Q .normal a w
  | i :: is, a, w =>
    (mov i = true ∧ ∃ o v, ops[i]? = some o ∧ YieldsIf P ops S o v a ∧ wpSeq P ops Q S mov late is (a.put o.dst v) w) ∨
    (mov i = false ∧ wpOp P ops Q i (fun a' w' => (late i = false → S w') ∧ wpSeq P ops Q S mov late is a' w') a w)

/-- Is our order one that serves? -/
def seqB (md : Region.Mode) (ops : Array Oper) (mov late : Nat → Bool) : Bool → List Nat → Array Bool → Bool
  | _, [], listed => (Region.ready md ops listed).isEmpty
  | f, i :: is, listed =>
    bif mov i then f && ((Region.ready md ops listed).contains i && (Region.free md ops listed i && ((List.range ops.size).all (fun j => !late j || Region.waitsFor md ops j i) && seqB md ops mov late f is (listed.setIfInBounds i true))))
    else (Region.ready md ops listed == [i]) && seqB md ops mov late (f && !late i) is (listed.setIfInBounds i true)

theorem wpAnyL_seq (hsel : Region.noSelect ops = true) (hlt : ∀ j, late j = true → j < ops.size) (hQ : ∀ c a d v w, Q (.panic c) (Act.put a d v) w → Q (.panic c) a w) :
    ∀ (is : List Nat) (f : Bool) (listed : Array Bool) (a : Act) (w : World), seqB md ops mov late f is listed = true → (f = true → S w) → wpSeq P ops Q S mov late is a w → wpAnyL P md ops Q S late is.length listed a w
  | [], f, listed, a, w, hb, _, h => ⟨by simpa [seqB] using hb, h⟩
  | i :: is, f, listed, a, w, hb, hf, h => by
    rcases h with ⟨hm, o, v, ho, hy, h⟩ | ⟨hm, h⟩
    · rw [seqB, hm] at hb
      simp only [cond_true, Bool.and_eq_true] at hb
      obtain ⟨hf1, hr, hfr, hl, hb⟩ := hb
      refine wpAnyL_first ho (Region.noSelect_spec hsel) (fun c a w h => hQ c a _ v w h) (fun j hj => ?_) is.length listed a w (Region.free_spec ho hfr) (by simpa using hr) hy (hf hf1) ?_
      · have := List.all_eq_true.1 hl j (List.mem_range.2 (hlt j hj))
        rw [hj] at this
        simpa using this
      · exact wpAnyL_seq hsel hlt hQ is f _ _ _ hb hf h
    · rw [seqB, hm] at hb
      simp only [cond_false, Bool.and_eq_true, beq_iff_eq] at hb
      obtain ⟨hr, hb⟩ := hb
      refine ⟨fun h0 => (by rw [hr] at h0; cases h0), fun j hj => ?_⟩
      rw [hr] at hj
      obtain rfl : j = i := by simpa using hj
      refine wpOp_mono (fun a' w' h3 => ⟨h3.1, wpAnyL_seq hsel hlt hQ is (f && !late j) _ a' w' hb (fun h4 => ?_) h3.2⟩) h
      simp only [Bool.and_eq_true, Bool.not_eq_true'] at h4
      exact h3.1 h4.2

/-- A walk with fuel to spare. -/
theorem wpAny_fuel : ∀ (fuel k : Nat) (listed : Array Bool) (a : Act) (w : World), wpAny P md ops Q fuel listed a w → wpAny P md ops Q (fuel + k) listed a w
  | 0, 0, _, _, _, h => h
  | 0, k + 1, listed, a, w, h => by
    rw [Nat.zero_add]
    exact ⟨fun _ => h.2, fun i hi => by rw [h.1] at hi; cases hi⟩
  | fuel + 1, k, listed, a, w, h => by
    rw [Nat.add_right_comm]
    exact ⟨h.1, fun i hi => wpOp_mono (fun a' w' h' => wpAny_fuel fuel k _ a' w' h') (h.2 i hi)⟩

theorem wp_region_seq {id : Nat} {a : Act} {w : World} (S : World → Prop) (order movs lates : List Nat) (hm : P.follows .mixedOrders = true) (hsel : Region.noSelect ops = true)
    (hn : order.length = ops.size) (hlt : lates.all (fun j => decide (j < ops.size)) = true)
    (hb : seqB .any ops (fun i => movs.contains i) (fun i => lates.contains i) true order (Array.replicate ops.size false) = true)
    (hQ : ∀ c a d v w, Q (.panic c) (Act.put a d v) w → Q (.panic c) a w)
    (hS : S w.drew) (h : S w.drew → wpSeq P ops Q S (fun i => movs.contains i) (fun i => lates.contains i) order a w.drew) : (Code.region id ops true).wp P Q a w := by
  refine wp_region_any hm (wpAny_of_L (S := S) (late := fun i => lates.contains i) _ _ _ _ ?_)
  rw [← hn]
  refine wpAnyL_seq (mov := fun i => movs.contains i) hsel (fun j hj => ?_) hQ order true _ a _ (by rw [hn]; exact hb) (fun _ => hS) (h hS)
  have := List.all_eq_true.1 hlt j (by simpa using hj)
  simpa using this

theorem wpSeq_done {a : Act} {w : World} (h : Q .normal a w) : wpSeq P ops (NoPanic Q) S mov late [] a w := NoPanic.normal h
theorem wpSeq_mov {i : Nat} {is : List Nat} {a : Act} {w : World} (hm : mov i = true) (hi : (ops[i]?).isSome = true) (h : ∀ o, ops[i]? = some o → ∃ v, YieldsIf P ops S o v a ∧ wpSeq P ops Q S mov late is (a.put o.dst v) w) : wpSeq P ops Q S mov late (i :: is) a w := by
  obtain ⟨o, ho⟩ := Option.isSome_iff_exists.1 hi
  obtain ⟨v, hy, h⟩ := h o ho
  exact .inl ⟨hm, o, v, ho, hy, h⟩
theorem wpSeq_fix {i : Nat} {is : List Nat} {a : Act} {w : World} (hm : mov i = false) (hi : (ops[i]?).isSome = true)
    (h : ∀ o, ops[i]? = some o → ∀ K' : Act → World → Prop, Shut (∀ a w, (late i = false → S w) → wpSeq P ops Q S mov late is a w → K' a w) → if Region.wanted o (yielded ops a.tmps) = true then Oper.wp P o a w K' Q else K' (a.put o.dst undef) w) : wpSeq P ops Q S mov late (i :: is) a w := by
  obtain ⟨o, ho⟩ := Option.isSome_iff_exists.1 hi
  exact .inr ⟨hm, wpOp_step ho (fun K' hK => h o ho K' (fun a w h1 h2 => hK a w ⟨h1, h2⟩))⟩
end
end Go.Proofs.YtijecfmblddanaaDoor
