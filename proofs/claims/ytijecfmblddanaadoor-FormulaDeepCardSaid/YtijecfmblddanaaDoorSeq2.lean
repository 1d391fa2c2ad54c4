/- As XSeq, with two facts on memory: S for most operations, R for a few; an operation may end R while those that need S are still to come. -/
import Derived.Test.YtijecfmblddanaaDoorSeq
namespace Go.Proofs.YtijecfmblddanaaDoor
open Go.RowKit Go

section
variable {P : Program} {ops : Array Oper} {Q : Exit → Act → World → Prop} {md : Region.Mode} {S R : World → Prop} {late lateR mov movR : Nat → Bool}

/-- Whatever order is picked from here on; each operation that does not end S (or R) keeps it. -/
def wpAnyG (P : Program) (md : Region.Mode) (ops : Array Oper) (Q : Exit → Act → World → Prop) (S R : World → Prop) (late lateR : Nat → Bool) : Nat → Array Bool → Act → World → Prop
  | 0, listed, a, w => Region.ready md ops listed = [] ∧ Q .normal a w
  | fuel + 1, listed, a, w =>
    (Region.ready md ops listed = [] → Q .normal a w) ∧
    ∀ i ∈ Region.ready md ops listed, wpOp P ops Q i (fun a' w' => (late i = false → S w → S w') ∧ (lateR i = false → R w → R w') ∧ wpAnyG P md ops Q S R late lateR fuel (listed.setIfInBounds i true) a' w') a w

theorem wpAny_of_G : ∀ (fuel : Nat) (listed : Array Bool) (a : Act) (w : World), wpAnyG P md ops Q S R late lateR fuel listed a w → wpAny P md ops Q fuel listed a w
  | 0, _, _, _, h => h
  | fuel + 1, _, _, _, h => ⟨h.1, fun i hi => wpOp_mono (fun a' w' h' => wpAny_of_G fuel _ a' w' h'.2.2) (h.2 i hi)⟩

theorem wpAnyG_swap : ∀ (fuel : Nat) (listed : Array Bool) (a : Act) (w : World), wpAnyG P md ops Q S R late lateR fuel listed a w → wpAnyG P md ops Q R S lateR late fuel listed a w
  | 0, _, _, _, h => h
  | fuel + 1, _, _, _, h => ⟨h.1, fun i hi => wpOp_mono (fun a' w' h' => ⟨h'.2.1, h'.1, wpAnyG_swap fuel _ a' w' h'.2.2⟩) (h.2 i hi)⟩

theorem wpAnyG_first {i : Nat} {oi : Oper} {v : Value} (hi : ops[i]? = some oi) (hsel : ∀ (j : Nat) (o : Oper) cs b, ops[j]? = some o → o.op ≠ .select cs b)
    (hQ : ∀ c a w, Q (.panic c) (a.put oi.dst v) w → Q (.panic c) a w)
    (hlate : ∀ j, late j = true → Region.waitsFor md ops j i = true) :
    ∀ (fuel : Nat) (listed : Array Bool) (a : Act) (w : World),
      (∀ j oj, ops[j]? = some oj → j ≠ i → listed.getD j true = false → (∀ e ∈ oj.after, Region.binds md e = true → e.on ≠ i) → oi.apart ops oj = true) →
      i ∈ Region.ready md ops listed → YieldsIf P ops S oi v a → S w →
      wpAnyG P md ops Q S R late lateR fuel (listed.setIfInBounds i true) (a.put oi.dst v) w → wpAnyG P md ops Q S R late lateR (fuel + 1) listed a w := by
  intro fuel
  induction fuel with
  | zero =>
    intro listed a w _ hr hy hS H
    refine ⟨fun h => (by rw [h] at hr; cases hr), fun j hj => ?_⟩
    by_cases hji : j = i
    · subst hji; exact hy.wpOp hi hS ⟨fun _ h => h, fun _ h => h, H⟩
    · have := ready_mono hj hji
      rw [H.1] at this
      cases this
  | succ fuel ih =>
    intro listed a w hfree hr hy hS H
    refine ⟨fun h => (by rw [h] at hr; cases hr), fun j hj => ?_⟩
    by_cases hji : j = i
    · subst hji; exact hy.wpOp hi hS ⟨fun _ h => h, fun _ h => h, H⟩
    · have h1 := H.2 j (ready_mono hj hji)
      obtain ⟨hjun, oj, hoj, hall⟩ := mem_ready.1 hj
      have hnot : ∀ e ∈ oj.after, Region.binds md e = true → e.on ≠ i := fun e he hb heq => by
        have h1 := hall e he hb
        have h0 := (mem_ready.1 hr).1
        rw [heq] at h1
        rcases Nat.lt_or_ge i listed.size with h' | h'
        · simp [h'] at h0 h1; rw [h0] at h1; cases h1
        · simp [Array.getElem?_eq_none h'] at h1
      have hl : late j = false := by
        cases hl : late j with
        | false => rfl
        | true =>
          obtain ⟨o2, ho2, e, he, hb, heq⟩ := Region.waitsFor_spec (hlate j hl)
          rw [hoj] at ho2
          cases ho2
          exact absurd heq (hnot e he hb)
      have h2 := wpOp_putIf hoj (hfree j oj hoj hji hjun hnot) (fun cs b => hsel i oi cs b hi) (fun cs b => hsel j oj cs b hoj) hQ hy h1
      have hfree' : ∀ k ok, ops[k]? = some ok → k ≠ i → (listed.setIfInBounds j true).getD k true = false →
          (∀ e ∈ ok.after, Region.binds md e = true → e.on ≠ i) → oi.apart ops ok = true := fun k ok hk hki hun hno => by
        refine hfree k ok hk hki ?_ hno
        by_cases hjk : j = k
        · subst hjk; exact hjun
        · rw [getD_set_ne true hjk] at hun; exact hun
      refine wpOp_mono (fun a' w' h3 => ⟨h3.2.1, h3.2.2.1, ih (listed.setIfInBounds j true) a' w' hfree' (ready_mono hr (Ne.symm hji)) h3.1 (h3.2.1 hl hS) ?_⟩) h2
      rw [Array.setIfInBounds_comm _ _ hji]
      exact h3.2.2.2

/-- The region's operations in an order of ours. -/
def wpSeqG (P : Program) (ops : Array Oper) (Q : Exit → Act → World → Prop) (S R : World → Prop) (mov movR late lateR : Nat → Bool) : List Nat → Act → World → Prop
  | [], a, w => Q .normal a w
  | i :: is, a, w =>
    (mov i = true ∧ ∃ o v, ops[i]? = some o ∧ YieldsIf P ops S o v a ∧ wpSeqG P ops Q S R mov movR late lateR is (a.put o.dst v) w) ∨
    (mov i = false ∧ movR i = true ∧ ∃ o v, ops[i]? = some o ∧ YieldsIf P ops R o v a ∧ wpSeqG P ops Q S R mov movR late lateR is (a.put o.dst v) w) ∨
    (mov i = false ∧ movR i = false ∧ wpOp P ops Q i (fun a' w' => (late i = false → S w → S w') ∧ (lateR i = false → R w → R w') ∧ wpSeqG P ops Q S R mov movR late lateR is a' w') a w)

/-- Is our order one that serves? -/
def seqGB (md : Region.Mode) (ops : Array Oper) (mov movR late lateR : Nat → Bool) : Bool → Bool → List Nat → Array Bool → Bool
  | _, _, [], listed => (Region.ready md ops listed).isEmpty
  | f, g, i :: is, listed =>
    bif mov i then f && ((Region.ready md ops listed).contains i && (Region.free md ops listed i && ((List.range ops.size).all (fun j => !late j || Region.waitsFor md ops j i) && seqGB md ops mov movR late lateR f g is (listed.setIfInBounds i true))))
    else bif movR i then g && ((Region.ready md ops listed).contains i && (Region.free md ops listed i && ((List.range ops.size).all (fun j => !lateR j || Region.waitsFor md ops j i) && seqGB md ops mov movR late lateR f g is (listed.setIfInBounds i true))))
    else (Region.ready md ops listed == [i]) && seqGB md ops mov movR late lateR (f && !late i) (g && !lateR i) is (listed.setIfInBounds i true)

theorem wpAnyG_seq (hsel : Region.noSelect ops = true) (hlt : ∀ j, late j = true → j < ops.size) (hltR : ∀ j, lateR j = true → j < ops.size) (hQ : ∀ c a d v w, Q (.panic c) (Act.put a d v) w → Q (.panic c) a w) :
    ∀ (is : List Nat) (f g : Bool) (listed : Array Bool) (a : Act) (w : World), seqGB md ops mov movR late lateR f g is listed = true → (f = true → S w) → (g = true → R w) → wpSeqG P ops Q S R mov movR late lateR is a w → wpAnyG P md ops Q S R late lateR is.length listed a w
  | [], f, g, listed, a, w, hb, _, _, h => ⟨by simpa [seqGB] using hb, h⟩
  | i :: is, f, g, listed, a, w, hb, hf, hg, h => by
    rcases h with ⟨hm, o, v, ho, hy, h⟩ | ⟨hm, hmR, o, v, ho, hy, h⟩ | ⟨hm, hmR, h⟩
    · rw [seqGB, hm] at hb
      simp only [cond_true, Bool.and_eq_true] at hb
      obtain ⟨hf1, hr, hfr, hl, hb⟩ := hb
      refine wpAnyG_first ho (Region.noSelect_spec hsel) (fun c a w h => hQ c a _ v w h) (fun j hj => ?_) is.length listed a w (Region.free_spec ho hfr) (by simpa using hr) hy (hf hf1) ?_
      · have := List.all_eq_true.1 hl j (List.mem_range.2 (hlt j hj))
        rw [hj] at this
        simpa using this
      · exact wpAnyG_seq hsel hlt hltR hQ is f g _ _ _ hb hf hg h
    · rw [seqGB, hm, hmR] at hb
      simp only [cond_true, cond_false, Bool.and_eq_true] at hb
      obtain ⟨hg1, hr, hfr, hl, hb⟩ := hb
      refine wpAnyG_swap _ _ _ _ (wpAnyG_first ho (Region.noSelect_spec hsel) (fun c a w h => hQ c a _ v w h) (fun j hj => ?_) is.length listed a w (Region.free_spec ho hfr) (by simpa using hr) hy (hg hg1) (wpAnyG_swap _ _ _ _ ?_))
      · have := List.all_eq_true.1 hl j (List.mem_range.2 (hltR j hj))
        rw [hj] at this
        simpa using this
      · exact wpAnyG_seq hsel hlt hltR hQ is f g _ _ _ hb hf hg h
    · rw [seqGB, hm, hmR] at hb
      simp only [cond_false, Bool.and_eq_true, beq_iff_eq] at hb
      obtain ⟨hr, hb⟩ := hb
      refine ⟨fun h0 => (by rw [hr] at h0; cases h0), fun j hj => ?_⟩
      rw [hr] at hj
      obtain rfl : j = i := by simpa using hj
      refine wpOp_mono (fun a' w' h3 => ⟨h3.1, h3.2.1, wpAnyG_seq hsel hlt hltR hQ is (f && !late j) (g && !lateR j) _ a' w' hb (fun h4 => ?_) (fun h4 => ?_) h3.2.2⟩) h
      · simp only [Bool.and_eq_true, Bool.not_eq_true'] at h4
        exact h3.1 h4.2 (hf h4.1)
      · simp only [Bool.and_eq_true, Bool.not_eq_true'] at h4
        exact h3.2.1 h4.2 (hg h4.1)

theorem wp_region_seqG {id : Nat} {a : Act} {w : World} (S R : World → Prop) (order movs movRs lates lateRs : List Nat) (hm : P.follows .mixedOrders = true) (hsel : Region.noSelect ops = true)
    (hn : order.length = ops.size) (hlt : lates.all (fun j => decide (j < ops.size)) = true) (hltR : lateRs.all (fun j => decide (j < ops.size)) = true)
    (hb : seqGB .any ops (fun i => movs.contains i) (fun i => movRs.contains i) (fun i => lates.contains i) (fun i => lateRs.contains i) true true order (Array.replicate ops.size false) = true)
    (hQ : ∀ c a d v w, Q (.panic c) (Act.put a d v) w → Q (.panic c) a w)
    (hS : S w.drew ∧ R w.drew) (h : S w.drew → R w.drew → wpSeqG P ops Q S R (fun i => movs.contains i) (fun i => movRs.contains i) (fun i => lates.contains i) (fun i => lateRs.contains i) order a w.drew) : (Code.region id ops true).wp P Q a w := by
  refine wp_region_any hm (wpAny_of_G (S := S) (R := R) (late := fun i => lates.contains i) (lateR := fun i => lateRs.contains i) _ _ _ _ ?_)
  rw [← hn]
  refine wpAnyG_seq (mov := fun i => movs.contains i) (movR := fun i => movRs.contains i) hsel (fun j hj => ?_) (fun j hj => ?_) hQ order true true _ a _ (by rw [hn]; exact hb) (fun _ => hS.1) (fun _ => hS.2) (h hS.1 hS.2)
  · have := List.all_eq_true.1 hlt j (by simpa using hj)
    simpa using this
  · have := List.all_eq_true.1 hltR j (by simpa using hj)
    simpa using this

theorem wpSeqG_done {a : Act} {w : World} (h : Q .normal a w) : wpSeqG P ops (NoPanic Q) S R mov movR late lateR [] a w := NoPanic.normal h
theorem wpSeqG_mov {i : Nat} {is : List Nat} {a : Act} {w : World} (hm : mov i = true) (hi : (ops[i]?).isSome = true) (h : ∀ o, ops[i]? = some o → ∃ v, YieldsIf P ops S o v a ∧ wpSeqG P ops Q S R mov movR late lateR is (a.put o.dst v) w) : wpSeqG P ops Q S R mov movR late lateR (i :: is) a w := by
  obtain ⟨o, ho⟩ := Option.isSome_iff_exists.1 hi
  obtain ⟨v, hy, h⟩ := h o ho
  exact .inl ⟨hm, o, v, ho, hy, h⟩
theorem wpSeqG_movR {i : Nat} {is : List Nat} {a : Act} {w : World} (hm : mov i = false) (hmR : movR i = true) (hi : (ops[i]?).isSome = true) (h : ∀ o, ops[i]? = some o → ∃ v, YieldsIf P ops R o v a ∧ wpSeqG P ops Q S R mov movR late lateR is (a.put o.dst v) w) : wpSeqG P ops Q S R mov movR late lateR (i :: is) a w := by
  obtain ⟨o, ho⟩ := Option.isSome_iff_exists.1 hi
  obtain ⟨v, hy, h⟩ := h o ho
  exact .inr (.inl ⟨hm, hmR, o, v, ho, hy, h⟩)
theorem wpSeqG_fix {i : Nat} {is : List Nat} {a : Act} {w : World} (hm : mov i = false) (hmR : movR i = false) (hi : (ops[i]?).isSome = true)
    (h : ∀ o, ops[i]? = some o → ∀ K' : Act → World → Prop, Shut (∀ a w', (late i = false → S w → S w') → (lateR i = false → R w → R w') → wpSeqG P ops Q S R mov movR late lateR is a w' → K' a w') → if Region.wanted o (yielded ops a.tmps) = true then Oper.wp P o a w K' Q else K' (a.put o.dst undef) w) : wpSeqG P ops Q S R mov movR late lateR (i :: is) a w := by
  obtain ⟨o, ho⟩ := Option.isSome_iff_exists.1 hi
  exact .inr (.inr ⟨hm, hmR, wpOp_step ho (fun K' hK => h o ho K' (fun a w' h1 h2 h3 => hK a w' ⟨h1, h2, h3⟩))⟩)
end
/-- An order, with forks: where two operations are ready that do not commute, both ways. -/
inductive Ord where
  | done : Ord
  | step : Nat → Ord → Ord
  | fork : Nat → Ord → Nat → Ord → Ord

def Ord.ofList : List Nat → Ord → Ord
  | [], o => o
  | i :: is, o => .step i (Ord.ofList is o)

/-- All ways are so long. -/
def Ord.long : Ord → Nat → Bool
  | .done, n => n == 0
  | .step _ o, n => match n with
    | 0 => false
    | n + 1 => o.long n
  | .fork _ o _ p, n => match n with
    | 0 => false
    | n + 1 => o.long n && p.long n

section
variable {P : Program} {ops : Array Oper} {Q : Exit → Act → World → Prop} {md : Region.Mode} {S R : World → Prop} {late lateR mov movR : Nat → Bool}

/-- What an operation that stays in its place has to show. -/
abbrev fixW (P : Program) (ops : Array Oper) (Q : Exit → Act → World → Prop) (S R : World → Prop) (late lateR : Nat → Bool) (i : Nat) (K : Act → World → Prop) (a : Act) (w : World) : Prop :=
  wpOp P ops Q i (fun a' w' => (late i = false → S w → S w') ∧ (lateR i = false → R w → R w') ∧ K a' w') a w

def wpTree (P : Program) (ops : Array Oper) (Q : Exit → Act → World → Prop) (S R : World → Prop) (mov movR late lateR : Nat → Bool) : Ord → Act → World → Prop
  | .done, a, w => Q .normal a w
  | .step i is, a, w =>
    (mov i = true ∧ ∃ o v, ops[i]? = some o ∧ YieldsIf P ops S o v a ∧ wpTree P ops Q S R mov movR late lateR is (a.put o.dst v) w) ∨
    (mov i = false ∧ movR i = true ∧ ∃ o v, ops[i]? = some o ∧ YieldsIf P ops R o v a ∧ wpTree P ops Q S R mov movR late lateR is (a.put o.dst v) w) ∨
    (mov i = false ∧ movR i = false ∧ fixW P ops Q S R late lateR i (wpTree P ops Q S R mov movR late lateR is) a w)
  | .fork i is j js, a, w => fixW P ops Q S R late lateR i (wpTree P ops Q S R mov movR late lateR is) a w ∧ fixW P ops Q S R late lateR j (wpTree P ops Q S R mov movR late lateR js) a w

def treeB (md : Region.Mode) (ops : Array Oper) (mov movR late lateR : Nat → Bool) : Bool → Bool → Ord → Array Bool → Bool
  | _, _, .done, listed => (Region.ready md ops listed).isEmpty
  | f, g, .step i is, listed =>
    bif mov i then f && ((Region.ready md ops listed).contains i && (Region.free md ops listed i && ((List.range ops.size).all (fun j => !late j || Region.waitsFor md ops j i) && treeB md ops mov movR late lateR f g is (listed.setIfInBounds i true))))
    else bif movR i then g && ((Region.ready md ops listed).contains i && (Region.free md ops listed i && ((List.range ops.size).all (fun j => !lateR j || Region.waitsFor md ops j i) && treeB md ops mov movR late lateR f g is (listed.setIfInBounds i true))))
    else (Region.ready md ops listed == [i]) && treeB md ops mov movR late lateR (f && !late i) (g && !lateR i) is (listed.setIfInBounds i true)
  | f, g, .fork i is j js, listed => (Region.ready md ops listed == [i, j]) && (treeB md ops mov movR late lateR (f && !late i) (g && !lateR i) is (listed.setIfInBounds i true) && treeB md ops mov movR late lateR (f && !late j) (g && !lateR j) js (listed.setIfInBounds j true))

theorem wpAnyG_tree (hsel : Region.noSelect ops = true) (hlt : ∀ j, late j = true → j < ops.size) (hltR : ∀ j, lateR j = true → j < ops.size) (hQ : ∀ c a d v w, Q (.panic c) (Act.put a d v) w → Q (.panic c) a w) :
    ∀ (is : Ord) (n : Nat) (f g : Bool) (listed : Array Bool) (a : Act) (w : World), is.long n = true → treeB md ops mov movR late lateR f g is listed = true → (f = true → S w) → (g = true → R w) → wpTree P ops Q S R mov movR late lateR is a w → wpAnyG P md ops Q S R late lateR n listed a w
  | .done, n, f, g, listed, a, w, hn, hb, _, _, h => by
    have hn' : n = 0 := by simpa [Ord.long] using hn
    subst hn'
    exact ⟨by simpa [treeB] using hb, h⟩
  | .step i is, 0, f, g, listed, a, w, hn, hb, hf, hg, h => by simp [Ord.long] at hn
  | .step i is, n + 1, f, g, listed, a, w, hn, hb, hf, hg, h => by
    have hn' : is.long n = true := hn
    rcases h with ⟨hm, o, v, ho, hy, h⟩ | ⟨hm, hmR, o, v, ho, hy, h⟩ | ⟨hm, hmR, h⟩
    · rw [treeB, hm] at hb
      simp only [cond_true, Bool.and_eq_true] at hb
      obtain ⟨hf1, hr, hfr, hl, hb⟩ := hb
      refine wpAnyG_first ho (Region.noSelect_spec hsel) (fun c a w h => hQ c a _ v w h) (fun j hj => ?_) n listed a w (Region.free_spec ho hfr) (by simpa using hr) hy (hf hf1) ?_
      · have := List.all_eq_true.1 hl j (List.mem_range.2 (hlt j hj))
        rw [hj] at this
        simpa using this
      · exact wpAnyG_tree hsel hlt hltR hQ is n f g _ _ _ hn' hb hf hg h
    · rw [treeB, hm, hmR] at hb
      simp only [cond_true, cond_false, Bool.and_eq_true] at hb
      obtain ⟨hg1, hr, hfr, hl, hb⟩ := hb
      refine wpAnyG_swap _ _ _ _ (wpAnyG_first ho (Region.noSelect_spec hsel) (fun c a w h => hQ c a _ v w h) (fun j hj => ?_) n listed a w (Region.free_spec ho hfr) (by simpa using hr) hy (hg hg1) (wpAnyG_swap _ _ _ _ ?_))
      · have := List.all_eq_true.1 hl j (List.mem_range.2 (hltR j hj))
        rw [hj] at this
        simpa using this
      · exact wpAnyG_tree hsel hlt hltR hQ is n f g _ _ _ hn' hb hf hg h
    · rw [treeB, hm, hmR] at hb
      simp only [cond_false, Bool.and_eq_true, beq_iff_eq] at hb
      obtain ⟨hr, hb⟩ := hb
      refine ⟨fun h0 => (by rw [hr] at h0; cases h0), fun j hj => ?_⟩
      rw [hr] at hj
      obtain rfl : j = i := by simpa using hj
      refine wpOp_mono (fun a' w' h3 => ⟨h3.1, h3.2.1, wpAnyG_tree hsel hlt hltR hQ is n (f && !late j) (g && !lateR j) _ a' w' hn' hb (fun h4 => ?_) (fun h4 => ?_) h3.2.2⟩) h
      · simp only [Bool.and_eq_true, Bool.not_eq_true'] at h4
        exact h3.1 h4.2 (hf h4.1)
      · simp only [Bool.and_eq_true, Bool.not_eq_true'] at h4
        exact h3.2.1 h4.2 (hg h4.1)
  | .fork i is k js, 0, f, g, listed, a, w, hn, hb, hf, hg, h => by simp [Ord.long] at hn
  | .fork i is k js, n + 1, f, g, listed, a, w, hn, hb, hf, hg, h => by
    have hn' : (is.long n && js.long n) = true := hn
    rw [Bool.and_eq_true] at hn'
    rw [treeB] at hb
    simp only [Bool.and_eq_true, beq_iff_eq] at hb
    obtain ⟨hr, hb1, hb2⟩ := hb
    refine ⟨fun h0 => (by rw [hr] at h0; cases h0), fun j hj => ?_⟩
    rw [hr] at hj
    have hj' : j = i ∨ j = k := by simpa using hj
    rcases hj' with rfl | rfl
    · refine wpOp_mono (fun a' w' h3 => ⟨h3.1, h3.2.1, wpAnyG_tree hsel hlt hltR hQ is n (f && !late j) (g && !lateR j) _ a' w' hn'.1 hb1 (fun h4 => ?_) (fun h4 => ?_) h3.2.2⟩) h.1
      · simp only [Bool.and_eq_true, Bool.not_eq_true'] at h4
        exact h3.1 h4.2 (hf h4.1)
      · simp only [Bool.and_eq_true, Bool.not_eq_true'] at h4
        exact h3.2.1 h4.2 (hg h4.1)
    · refine wpOp_mono (fun a' w' h3 => ⟨h3.1, h3.2.1, wpAnyG_tree hsel hlt hltR hQ js n (f && !late j) (g && !lateR j) _ a' w' hn'.2 hb2 (fun h4 => ?_) (fun h4 => ?_) h3.2.2⟩) h.2
      · simp only [Bool.and_eq_true, Bool.not_eq_true'] at h4
        exact h3.1 h4.2 (hf h4.1)
      · simp only [Bool.and_eq_true, Bool.not_eq_true'] at h4
        exact h3.2.1 h4.2 (hg h4.1)

theorem wp_region_tree {id : Nat} {a : Act} {w : World} (S R : World → Prop) (order : Ord) (movs movRs lates lateRs : List Nat) (hm : P.follows .mixedOrders = true) (hsel : Region.noSelect ops = true)
    (hn : order.long ops.size = true) (hlt : lates.all (fun j => decide (j < ops.size)) = true) (hltR : lateRs.all (fun j => decide (j < ops.size)) = true)
    (hb : treeB .any ops (fun i => movs.contains i) (fun i => movRs.contains i) (fun i => lates.contains i) (fun i => lateRs.contains i) true true order (Array.replicate ops.size false) = true)
    (hQ : ∀ c a d v w, Q (.panic c) (Act.put a d v) w → Q (.panic c) a w)
    (hS : S w.drew ∧ R w.drew) (h : S w.drew → R w.drew → wpTree P ops Q S R (fun i => movs.contains i) (fun i => movRs.contains i) (fun i => lates.contains i) (fun i => lateRs.contains i) order a w.drew) : (Code.region id ops true).wp P Q a w := by
  refine wp_region_any hm (wpAny_of_G (S := S) (R := R) (late := fun i => lates.contains i) (lateR := fun i => lateRs.contains i) _ _ _ _ ?_)
  refine wpAnyG_tree (mov := fun i => movs.contains i) (movR := fun i => movRs.contains i) hsel (fun j hj => ?_) (fun j hj => ?_) hQ order _ true true _ a _ hn hb (fun _ => hS.1) (fun _ => hS.2) (h hS.1 hS.2)
  · have := List.all_eq_true.1 hlt j (by simpa using hj)
    simpa using this
  · have := List.all_eq_true.1 hltR j (by simpa using hj)
    simpa using this

theorem wpTree_done {a : Act} {w : World} (h : Q .normal a w) : wpTree P ops (NoPanic Q) S R mov movR late lateR .done a w := NoPanic.normal h
theorem wpTree_mov {i : Nat} {is : Ord} {a : Act} {w : World} (hm : mov i = true) (hi : (ops[i]?).isSome = true) (h : ∀ o, ops[i]? = some o → ∃ v, YieldsIf P ops S o v a ∧ wpTree P ops Q S R mov movR late lateR is (a.put o.dst v) w) : wpTree P ops Q S R mov movR late lateR (.step i is) a w := by
  obtain ⟨o, ho⟩ := Option.isSome_iff_exists.1 hi
  obtain ⟨v, hy, h⟩ := h o ho
  exact .inl ⟨hm, o, v, ho, hy, h⟩
theorem wpTree_movR {i : Nat} {is : Ord} {a : Act} {w : World} (hm : mov i = false) (hmR : movR i = true) (hi : (ops[i]?).isSome = true) (h : ∀ o, ops[i]? = some o → ∃ v, YieldsIf P ops R o v a ∧ wpTree P ops Q S R mov movR late lateR is (a.put o.dst v) w) : wpTree P ops Q S R mov movR late lateR (.step i is) a w := by
  obtain ⟨o, ho⟩ := Option.isSome_iff_exists.1 hi
  obtain ⟨v, hy, h⟩ := h o ho
  exact .inr (.inl ⟨hm, hmR, o, v, ho, hy, h⟩)
theorem fixW_of {i : Nat} {a : Act} {w : World} {K : Act → World → Prop} (hi : (ops[i]?).isSome = true)
    (h : ∀ o, ops[i]? = some o → ∀ K' : Act → World → Prop, Shut (∀ a w', (late i = false → S w → S w') → (lateR i = false → R w → R w') → K a w' → K' a w') → if Region.wanted o (yielded ops a.tmps) = true then Oper.wp P o a w K' Q else K' (a.put o.dst undef) w) : fixW P ops Q S R late lateR i K a w := by
  obtain ⟨o, ho⟩ := Option.isSome_iff_exists.1 hi
  exact wpOp_step ho (fun K' hK => h o ho K' (fun a w' h1 h2 h3 => hK a w' ⟨h1, h2, h3⟩))
theorem wpTree_fix {i : Nat} {is : Ord} {a : Act} {w : World} (hm : mov i = false) (hmR : movR i = false) (hi : (ops[i]?).isSome = true)
    (h : ∀ o, ops[i]? = some o → ∀ K' : Act → World → Prop, Shut (∀ a w', (late i = false → S w → S w') → (lateR i = false → R w → R w') → wpTree P ops Q S R mov movR late lateR is a w' → K' a w') → if Region.wanted o (yielded ops a.tmps) = true then Oper.wp P o a w K' Q else K' (a.put o.dst undef) w) : wpTree P ops Q S R mov movR late lateR (.step i is) a w :=
  .inr (.inr ⟨hm, hmR, fixW_of hi h⟩)
theorem wpTree_fork {i j : Nat} {is js : Ord} {a : Act} {w : World} (h : fixW P ops Q S R late lateR i (wpTree P ops Q S R mov movR late lateR is) a w) (h' : fixW P ops Q S R late lateR j (wpTree P ops Q S R mov movR late lateR js) a w) : wpTree P ops Q S R mov movR late lateR (.fork i is j js) a w := ⟨h, h'⟩
end
end Go.Proofs.YtijecfmblddanaaDoor
