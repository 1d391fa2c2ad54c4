/- As XSeq2's orders with forks, with forks of three. -/
import Derived.Test.YtbdhkagcbncefaaG5
namespace Go.Proofs.Ytbdhkagcbncefaa
open Go.RowKit Go

/-- An order, with forks: where two operations are ready that do not commute, both ways. -/
inductive Ord3 where
  | done : Ord3
  | step : Nat → Ord3 → Ord3
  | fork : Nat → Ord3 → Nat → Ord3 → Ord3
  | fork3 : Nat → Ord3 → Nat → Ord3 → Nat → Ord3 → Ord3

def Ord3.ofList : List Nat → Ord3 → Ord3
  | [], o => o
  | i :: is, o => .step i (Ord3.ofList is o)

/-- All ways are so long. -/
def Ord3.long : Ord3 → Nat → Bool
  | .done, n => n == 0
  | .step _ o, n => match n with
    | 0 => false
    | n + 1 => o.long n
  | .fork _ o _ p, n => match n with
    | 0 => false
    | n + 1 => o.long n && p.long n
  | .fork3 _ o _ p _ q, n => match n with
    | 0 => false
    | n + 1 => o.long n && (p.long n && q.long n)

section
variable {P : Program} {ops : Array Oper} {Q : Exit → Act → World → Prop} {md : Region.Mode} {S R : World → Prop} {late lateR mov movR : Nat → Bool}

def wpTri (P : Program) (ops : Array Oper) (Q : Exit → Act → World → Prop) (S R : World → Prop) (mov movR late lateR : Nat → Bool) : Ord3 → Act → World → Prop
  | .done, a, w => Q .normal a w
  | .step i is, a, w =>
    (mov i = true ∧ ∃ o v, ops[i]? = some o ∧ YieldsIf P ops S o v a ∧ wpTri P ops Q S R mov movR late lateR is (a.put o.dst v) w) ∨
    (mov i = false ∧ movR i = true ∧ ∃ o v, ops[i]? = some o ∧ YieldsIf P ops R o v a ∧ wpTri P ops Q S R mov movR late lateR is (a.put o.dst v) w) ∨
    (mov i = false ∧ movR i = false ∧ fixW P ops Q S R late lateR i (wpTri P ops Q S R mov movR late lateR is) a w)
  | .fork i is j js, a, w => fixW P ops Q S R late lateR i (wpTri P ops Q S R mov movR late lateR is) a w ∧ fixW P ops Q S R late lateR j (wpTri P ops Q S R mov movR late lateR js) a w
  | .fork3 i is j js k ks, a, w => fixW P ops Q S R late lateR i (wpTri P ops Q S R mov movR late lateR is) a w ∧ (fixW P ops Q S R late lateR j (wpTri P ops Q S R mov movR late lateR js) a w ∧ fixW P ops Q S R late lateR k (wpTri P ops Q S R mov movR late lateR ks) a w)

def triB (md : Region.Mode) (ops : Array Oper) (mov movR late lateR : Nat → Bool) : Bool → Bool → Ord3 → Array Bool → Bool
  | _, _, .done, listed => (Region.ready md ops listed).isEmpty
  | f, g, .step i is, listed =>
    bif mov i then f && ((Region.ready md ops listed).contains i && (Region.free md ops listed i && ((List.range ops.size).all (fun j => !late j || Region.waitsFor md ops j i) && triB md ops mov movR late lateR f g is (listed.setIfInBounds i true))))
    else bif movR i then g && ((Region.ready md ops listed).contains i && (Region.free md ops listed i && ((List.range ops.size).all (fun j => !lateR j || Region.waitsFor md ops j i) && triB md ops mov movR late lateR f g is (listed.setIfInBounds i true))))
    else (Region.ready md ops listed == [i]) && triB md ops mov movR late lateR (f && !late i) (g && !lateR i) is (listed.setIfInBounds i true)
  | f, g, .fork i is j js, listed => (Region.ready md ops listed == [i, j]) && (triB md ops mov movR late lateR (f && !late i) (g && !lateR i) is (listed.setIfInBounds i true) && triB md ops mov movR late lateR (f && !late j) (g && !lateR j) js (listed.setIfInBounds j true))
  | f, g, .fork3 i is j js k ks, listed => (Region.ready md ops listed == [i, j, k]) && (triB md ops mov movR late lateR (f && !late i) (g && !lateR i) is (listed.setIfInBounds i true) && (triB md ops mov movR late lateR (f && !late j) (g && !lateR j) js (listed.setIfInBounds j true) && triB md ops mov movR late lateR (f && !late k) (g && !lateR k) ks (listed.setIfInBounds k true)))

theorem wpAnyG_tri (hsel : Region.noSelect ops = true) (hlt : ∀ j, late j = true → j < ops.size) (hltR : ∀ j, lateR j = true → j < ops.size) (hQ : ∀ c a d v w, Q (.panic c) (Act.put a d v) w → Q (.panic c) a w) :
    ∀ (is : Ord3) (n : Nat) (f g : Bool) (listed : Array Bool) (a : Act) (w : World), is.long n = true → triB md ops mov movR late lateR f g is listed = true → (f = true → S w) → (g = true → R w) → wpTri P ops Q S R mov movR late lateR is a w → wpAnyG P md ops Q S R late lateR n listed a w
  | .done, n, f, g, listed, a, w, hn, hb, _, _, h => by
    have hn' : n = 0 := by simpa [Ord3.long] using hn
    subst hn'
    exact ⟨by simpa [triB] using hb, h⟩
  | .step i is, 0, f, g, listed, a, w, hn, hb, hf, hg, h => by simp [Ord3.long] at hn
  | .step i is, n + 1, f, g, listed, a, w, hn, hb, hf, hg, h => by
    have hn' : is.long n = true := hn
    rcases h with ⟨hm, o, v, ho, hy, h⟩ | ⟨hm, hmR, o, v, ho, hy, h⟩ | ⟨hm, hmR, h⟩
    · rw [triB, hm] at hb
      simp only [cond_true, Bool.and_eq_true] at hb
      obtain ⟨hf1, hr, hfr, hl, hb⟩ := hb
      refine wpAnyG_first ho (Region.noSelect_spec hsel) (fun c a w h => hQ c a _ v w h) (fun j hj => ?_) n listed a w (Region.free_spec ho hfr) (by simpa using hr) hy (hf hf1) ?_
      · have := List.all_eq_true.1 hl j (List.mem_range.2 (hlt j hj))
        rw [hj] at this
        simpa using this
      · exact wpAnyG_tri hsel hlt hltR hQ is n f g _ _ _ hn' hb hf hg h
    · rw [triB, hm, hmR] at hb
      simp only [cond_true, cond_false, Bool.and_eq_true] at hb
      obtain ⟨hg1, hr, hfr, hl, hb⟩ := hb
      refine wpAnyG_swap _ _ _ _ (wpAnyG_first ho (Region.noSelect_spec hsel) (fun c a w h => hQ c a _ v w h) (fun j hj => ?_) n listed a w (Region.free_spec ho hfr) (by simpa using hr) hy (hg hg1) (wpAnyG_swap _ _ _ _ ?_))
      · have := List.all_eq_true.1 hl j (List.mem_range.2 (hltR j hj))
        rw [hj] at this
        simpa using this
      · exact wpAnyG_tri hsel hlt hltR hQ is n f g _ _ _ hn' hb hf hg h
    · rw [triB, hm, hmR] at hb
      simp only [cond_false, Bool.and_eq_true, beq_iff_eq] at hb
      obtain ⟨hr, hb⟩ := hb
      refine ⟨fun h0 => (by rw [hr] at h0; cases h0), fun j hj => ?_⟩
      rw [hr] at hj
      obtain rfl : j = i := by simpa using hj
      refine wpOp_mono (fun a' w' h3 => ⟨h3.1, h3.2.1, wpAnyG_tri hsel hlt hltR hQ is n (f && !late j) (g && !lateR j) _ a' w' hn' hb (fun h4 => ?_) (fun h4 => ?_) h3.2.2⟩) h
      · simp only [Bool.and_eq_true, Bool.not_eq_true'] at h4
        exact h3.1 h4.2 (hf h4.1)
      · simp only [Bool.and_eq_true, Bool.not_eq_true'] at h4
        exact h3.2.1 h4.2 (hg h4.1)
  | .fork i is k js, 0, f, g, listed, a, w, hn, hb, hf, hg, h => by simp [Ord3.long] at hn
  | .fork i is k js, n + 1, f, g, listed, a, w, hn, hb, hf, hg, h => by
    have hn' : (is.long n && js.long n) = true := hn
    rw [Bool.and_eq_true] at hn'
    rw [triB] at hb
    simp only [Bool.and_eq_true, beq_iff_eq] at hb
    obtain ⟨hr, hb1, hb2⟩ := hb
    refine ⟨fun h0 => (by rw [hr] at h0; cases h0), fun j hj => ?_⟩
    rw [hr] at hj
    have hj' : j = i ∨ j = k := by simpa using hj
    rcases hj' with rfl | rfl
    · refine wpOp_mono (fun a' w' h3 => ⟨h3.1, h3.2.1, wpAnyG_tri hsel hlt hltR hQ is n (f && !late j) (g && !lateR j) _ a' w' hn'.1 hb1 (fun h4 => ?_) (fun h4 => ?_) h3.2.2⟩) h.1
      · simp only [Bool.and_eq_true, Bool.not_eq_true'] at h4
        exact h3.1 h4.2 (hf h4.1)
      · simp only [Bool.and_eq_true, Bool.not_eq_true'] at h4
        exact h3.2.1 h4.2 (hg h4.1)
    · refine wpOp_mono (fun a' w' h3 => ⟨h3.1, h3.2.1, wpAnyG_tri hsel hlt hltR hQ js n (f && !late j) (g && !lateR j) _ a' w' hn'.2 hb2 (fun h4 => ?_) (fun h4 => ?_) h3.2.2⟩) h.2
      · simp only [Bool.and_eq_true, Bool.not_eq_true'] at h4
        exact h3.1 h4.2 (hf h4.1)
      · simp only [Bool.and_eq_true, Bool.not_eq_true'] at h4
        exact h3.2.1 h4.2 (hg h4.1)
  | .fork3 i is k js m ks, 0, f, g, listed, a, w, hn, hb, hf, hg, h => by simp [Ord3.long] at hn
  | .fork3 i is k js m ks, n + 1, f, g, listed, a, w, hn, hb, hf, hg, h => by
    have hn' : (is.long n && (js.long n && ks.long n)) = true := hn
    simp only [Bool.and_eq_true] at hn'
    rw [triB] at hb
    simp only [Bool.and_eq_true, beq_iff_eq] at hb
    obtain ⟨hr, hb1, hb2, hb3⟩ := hb
    refine ⟨fun h0 => (by rw [hr] at h0; cases h0), fun j hj => ?_⟩
    rw [hr] at hj
    have hj' : j = i ∨ j = k ∨ j = m := by simpa using hj
    rcases hj' with rfl | rfl | rfl
    · refine wpOp_mono (fun a' w' h3 => ⟨h3.1, h3.2.1, wpAnyG_tri hsel hlt hltR hQ is n (f && !late j) (g && !lateR j) _ a' w' hn'.1 hb1 (fun h4 => ?_) (fun h4 => ?_) h3.2.2⟩) h.1
      · simp only [Bool.and_eq_true, Bool.not_eq_true'] at h4
        exact h3.1 h4.2 (hf h4.1)
      · simp only [Bool.and_eq_true, Bool.not_eq_true'] at h4
        exact h3.2.1 h4.2 (hg h4.1)
    · refine wpOp_mono (fun a' w' h3 => ⟨h3.1, h3.2.1, wpAnyG_tri hsel hlt hltR hQ js n (f && !late j) (g && !lateR j) _ a' w' hn'.2.1 hb2 (fun h4 => ?_) (fun h4 => ?_) h3.2.2⟩) h.2.1
      · simp only [Bool.and_eq_true, Bool.not_eq_true'] at h4
        exact h3.1 h4.2 (hf h4.1)
      · simp only [Bool.and_eq_true, Bool.not_eq_true'] at h4
        exact h3.2.1 h4.2 (hg h4.1)
    · refine wpOp_mono (fun a' w' h3 => ⟨h3.1, h3.2.1, wpAnyG_tri hsel hlt hltR hQ ks n (f && !late j) (g && !lateR j) _ a' w' hn'.2.2 hb3 (fun h4 => ?_) (fun h4 => ?_) h3.2.2⟩) h.2.2
      · simp only [Bool.and_eq_true, Bool.not_eq_true'] at h4
        exact h3.1 h4.2 (hf h4.1)
      · simp only [Bool.and_eq_true, Bool.not_eq_true'] at h4
        exact h3.2.1 h4.2 (hg h4.1)

theorem wp_region_tri {id : Nat} {a : Act} {w : World} (S R : World → Prop) (order : Ord3) (movs movRs lates lateRs : List Nat) (hm : P.follows .mixedOrders = true) (hsel : Region.noSelect ops = true)
    (hn : order.long ops.size = true) (hlt : lates.all (fun j => decide (j < ops.size)) = true) (hltR : lateRs.all (fun j => decide (j < ops.size)) = true)
    (hb : triB .any ops (fun i => movs.contains i) (fun i => movRs.contains i) (fun i => lates.contains i) (fun i => lateRs.contains i) true true order (Array.replicate ops.size false) = true)
    (hQ : ∀ c a d v w, Q (.panic c) (Act.put a d v) w → Q (.panic c) a w)
    (hS : S w.drew ∧ R w.drew) (h : S w.drew → R w.drew → wpTri P ops Q S R (fun i => movs.contains i) (fun i => movRs.contains i) (fun i => lates.contains i) (fun i => lateRs.contains i) order a w.drew) : (Code.region id ops true).wp P Q a w := by
  refine wp_region_any hm (wpAny_of_G (S := S) (R := R) (late := fun i => lates.contains i) (lateR := fun i => lateRs.contains i) _ _ _ _ ?_)
  refine wpAnyG_tri (mov := fun i => movs.contains i) (movR := fun i => movRs.contains i) hsel (fun j hj => ?_) (fun j hj => ?_) hQ order _ true true _ a _ hn hb (fun _ => hS.1) (fun _ => hS.2) (h hS.1 hS.2)
  · have := List.all_eq_true.1 hlt j (by simpa using hj)
    simpa using this
  · have := List.all_eq_true.1 hltR j (by simpa using hj)
    simpa using this

theorem wpTri_done {a : Act} {w : World} (h : Q .normal a w) : wpTri P ops (NoPanic Q) S R mov movR late lateR .done a w := NoPanic.normal h
theorem wpTri_mov {i : Nat} {is : Ord3} {a : Act} {w : World} (hm : mov i = true) (hi : (ops[i]?).isSome = true) (h : ∀ o, ops[i]? = some o → ∃ v, YieldsIf P ops S o v a ∧ wpTri P ops Q S R mov movR late lateR is (a.put o.dst v) w) : wpTri P ops Q S R mov movR late lateR (.step i is) a w := by
  obtain ⟨o, ho⟩ := Option.isSome_iff_exists.1 hi
  obtain ⟨v, hy, h⟩ := h o ho
  exact .inl ⟨hm, o, v, ho, hy, h⟩
theorem wpTri_movR {i : Nat} {is : Ord3} {a : Act} {w : World} (hm : mov i = false) (hmR : movR i = true) (hi : (ops[i]?).isSome = true) (h : ∀ o, ops[i]? = some o → ∃ v, YieldsIf P ops R o v a ∧ wpTri P ops Q S R mov movR late lateR is (a.put o.dst v) w) : wpTri P ops Q S R mov movR late lateR (.step i is) a w := by
  obtain ⟨o, ho⟩ := Option.isSome_iff_exists.1 hi
  obtain ⟨v, hy, h⟩ := h o ho
  exact .inr (.inl ⟨hm, hmR, o, v, ho, hy, h⟩)
theorem wpTri_fix {i : Nat} {is : Ord3} {a : Act} {w : World} (hm : mov i = false) (hmR : movR i = false) (hi : (ops[i]?).isSome = true)
    (h : ∀ o, ops[i]? = some o → ∀ K' : Act → World → Prop, Shut (∀ a w', (late i = false → S w → S w') → (lateR i = false → R w → R w') → wpTri P ops Q S R mov movR late lateR is a w' → K' a w') → if Region.wanted o (yielded ops a.tmps) = true then Oper.wp P o a w K' Q else K' (a.put o.dst undef) w) : wpTri P ops Q S R mov movR late lateR (.step i is) a w :=
  .inr (.inr ⟨hm, hmR, fixW_of hi h⟩)
theorem wpTri_fork3 {i j k : Nat} {is js ks : Ord3} {a : Act} {w : World} (h : fixW P ops Q S R late lateR i (wpTri P ops Q S R mov movR late lateR is) a w) (h' : fixW P ops Q S R late lateR j (wpTri P ops Q S R mov movR late lateR js) a w) (h'' : fixW P ops Q S R late lateR k (wpTri P ops Q S R mov movR late lateR ks) a w) : wpTri P ops Q S R mov movR late lateR (.fork3 i is j js k ks) a w := ⟨h, h', h''⟩
theorem wpTri_fork {i j : Nat} {is js : Ord3} {a : Act} {w : World} (h : fixW P ops Q S R late lateR i (wpTri P ops Q S R mov movR late lateR is) a w) (h' : fixW P ops Q S R late lateR j (wpTri P ops Q S R mov movR late lateR js) a w) : wpTri P ops Q S R mov movR late lateR (.fork i is j js) a w := ⟨h, h'⟩
end
end Go.Proofs.Ytbdhkagcbncefaa
