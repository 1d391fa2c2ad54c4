/- A region that draws its order, walked in orders of ours (with forks), with a fact on memory that may grow as the region goes on: behind an operation that stays in its place more may be known (a block that it made). No operation ends it. -/
import Derived.Test.YtijecfmblddanaaDoorSeq2
namespace Go.Proofs.YtijecfmblddanaaDoor
open Go.RowKit Go

section
variable {P : Program} {ops : Array Oper} {Q : Exit → Act → World → Prop} {md : Region.Mode} {S S' : World → Prop} {mov : Nat → Bool}

abbrev noLate : Nat → Bool := fun _ => false

theorem wpAnyL_weak (hi : ∀ W, S' W → S W) : ∀ (fuel : Nat) (listed : Array Bool) (a : Act) (w : World), wpAnyL P md ops Q S' noLate fuel listed a w → wpAnyL P md ops Q S noLate fuel listed a w
  | 0, _, _, _, h => h
  | fuel + 1, _, _, _, h => ⟨h.1, fun i hr => wpOp_mono (fun a' w' h' => ⟨fun e => hi _ (h'.1 e), wpAnyL_weak hi fuel _ a' w' h'.2⟩) (h.2 i hr)⟩

/-- What an operation that stays in its place has to show. -/
abbrev growW (P : Program) (ops : Array Oper) (Q : Exit → Act → World → Prop) (S : World → Prop) (i : Nat) (K : (World → Prop) → Act → World → Prop) (a : Act) (w : World) : Prop :=
  wpOp P ops Q i (fun a' w' => ∃ S' : World → Prop, (∀ W, S' W → S W) ∧ S' w' ∧ K S' a' w') a w

def wpGrow (P : Program) (ops : Array Oper) (Q : Exit → Act → World → Prop) (mov : Nat → Bool) : Ord → (World → Prop) → Act → World → Prop
  | .done, _, a, w => Q .normal a w
  | .step i is, S, a, w =>
    (mov i = true ∧ ∃ o v, ops[i]? = some o ∧ YieldsIf P ops S o v a ∧ wpGrow P ops Q mov is S (a.put o.dst v) w) ∨
    (mov i = false ∧ growW P ops Q S i (wpGrow P ops Q mov is) a w)
  | .fork i is j js, S, a, w => growW P ops Q S i (wpGrow P ops Q mov is) a w ∧ growW P ops Q S j (wpGrow P ops Q mov js) a w

def growB (md : Region.Mode) (ops : Array Oper) (mov : Nat → Bool) : Ord → Array Bool → Bool
  | .done, listed => (Region.ready md ops listed).isEmpty
  | .step i is, listed =>
    bif mov i then (Region.ready md ops listed).contains i && (Region.free md ops listed i && growB md ops mov is (listed.setIfInBounds i true))
    else (Region.ready md ops listed == [i]) && growB md ops mov is (listed.setIfInBounds i true)
  | .fork i is j js, listed => (Region.ready md ops listed == [i, j]) && (growB md ops mov is (listed.setIfInBounds i true) && growB md ops mov js (listed.setIfInBounds j true))

theorem wpAnyL_grow (hsel : Region.noSelect ops = true) (hQ : ∀ c a d v w, Q (.panic c) (Act.put a d v) w → Q (.panic c) a w) :
    ∀ (is : Ord) (n : Nat) (S : World → Prop) (listed : Array Bool) (a : Act) (w : World), is.long n = true → growB md ops mov is listed = true → S w → wpGrow P ops Q mov is S a w → wpAnyL P md ops Q S noLate n listed a w
  | .done, n, S, listed, a, w, hn, hb, _, h => by
    have hn' : n = 0 := by simpa [Ord.long] using hn
    subst hn'
    exact ⟨by simpa [growB] using hb, h⟩
  | .step i is, 0, S, listed, a, w, hn, hb, hS, h => by simp [Ord.long] at hn
  | .step i is, n + 1, S, listed, a, w, hn, hb, hS, h => by
    have hn' : is.long n = true := hn
    rcases h with ⟨hm, o, v, ho, hy, h⟩ | ⟨hm, h⟩
    · rw [growB, hm] at hb
      simp only [cond_true, Bool.and_eq_true] at hb
      obtain ⟨hr, hfr, hb⟩ := hb
      exact wpAnyL_first ho (Region.noSelect_spec hsel) (fun c a w h => hQ c a _ v w h) (fun j hj => by cases hj) n listed a w (Region.free_spec ho hfr) (by simpa using hr) hy hS (wpAnyL_grow hsel hQ is n S _ _ _ hn' hb hS h)
    · rw [growB, hm] at hb
      simp only [cond_false, Bool.and_eq_true, beq_iff_eq] at hb
      obtain ⟨hr, hb⟩ := hb
      refine ⟨fun h0 => (by rw [hr] at h0; cases h0), fun j hj => ?_⟩
      rw [hr] at hj
      obtain rfl : j = i := by simpa using hj
      refine wpOp_mono (fun a' w' h3 => ?_) h
      obtain ⟨S', h4, h5, h6⟩ := h3
      exact ⟨fun _ => h4 _ h5, wpAnyL_weak h4 _ _ _ _ (wpAnyL_grow hsel hQ is n S' _ a' w' hn' hb h5 h6)⟩
  | .fork i is k js, 0, S, listed, a, w, hn, hb, hS, h => by simp [Ord.long] at hn
  | .fork i is k js, n + 1, S, listed, a, w, hn, hb, hS, h => by
    have hn' : (is.long n && js.long n) = true := hn
    rw [Bool.and_eq_true] at hn'
    rw [growB] at hb
    simp only [Bool.and_eq_true, beq_iff_eq] at hb
    obtain ⟨hr, hb1, hb2⟩ := hb
    refine ⟨fun h0 => (by rw [hr] at h0; cases h0), fun j hj => ?_⟩
    rw [hr] at hj
    have hj' : j = i ∨ j = k := by simpa using hj
    rcases hj' with rfl | rfl
    · refine wpOp_mono (fun a' w' h3 => ?_) h.1
      obtain ⟨S', h4, h5, h6⟩ := h3
      exact ⟨fun _ => h4 _ h5, wpAnyL_weak h4 _ _ _ _ (wpAnyL_grow hsel hQ is n S' _ a' w' hn'.1 hb1 h5 h6)⟩
    · refine wpOp_mono (fun a' w' h3 => ?_) h.2
      obtain ⟨S', h4, h5, h6⟩ := h3
      exact ⟨fun _ => h4 _ h5, wpAnyL_weak h4 _ _ _ _ (wpAnyL_grow hsel hQ js n S' _ a' w' hn'.2 hb2 h5 h6)⟩

theorem wp_region_grow {id : Nat} {a : Act} {w : World} (S : World → Prop) (order : Ord) (movs : List Nat) (hm : P.follows .mixedOrders = true) (hsel : Region.noSelect ops = true)
    (hn : order.long ops.size = true) (hb : growB .any ops (fun i => movs.contains i) order (Array.replicate ops.size false) = true)
    (hQ : ∀ c a d v w, Q (.panic c) (Act.put a d v) w → Q (.panic c) a w)
    (hS : S w.drew) (h : S w.drew → wpGrow P ops Q (fun i => movs.contains i) order S a w.drew) : (Code.region id ops true).wp P Q a w := by
  refine wp_region_any hm (wpAny_of_L (S := S) (late := noLate) _ _ _ _ ?_)
  exact wpAnyL_grow hsel hQ order _ S _ a _ hn hb hS (h hS)

theorem wpGrow_done {a : Act} {w : World} (h : Q .normal a w) : wpGrow P ops (NoPanic Q) mov .done S a w := NoPanic.normal h
theorem wpGrow_mov {i : Nat} {is : Ord} {a : Act} {w : World} (hm : mov i = true) (hi : (ops[i]?).isSome = true) (h : ∀ o, ops[i]? = some o → ∃ v, YieldsIf P ops S o v a ∧ wpGrow P ops Q mov is S (a.put o.dst v) w) : wpGrow P ops Q mov (.step i is) S a w := by
  obtain ⟨o, ho⟩ := Option.isSome_iff_exists.1 hi
  obtain ⟨v, hy, h⟩ := h o ho
  exact .inl ⟨hm, o, v, ho, hy, h⟩
theorem growW_of {i : Nat} {a : Act} {w : World} {K : (World → Prop) → Act → World → Prop} (hi : (ops[i]?).isSome = true)
    (h : ∀ o, ops[i]? = some o → ∀ K' : Act → World → Prop, Shut (∀ a w', (∃ S' : World → Prop, (∀ W, S' W → S W) ∧ S' w' ∧ K S' a w') → K' a w') → if Region.wanted o (yielded ops a.tmps) = true then Oper.wp P o a w K' Q else K' (a.put o.dst undef) w) : growW P ops Q S i K a w := by
  obtain ⟨o, ho⟩ := Option.isSome_iff_exists.1 hi
  exact wpOp_step ho (fun K' hK => h o ho K' hK)
theorem wpGrow_fix {i : Nat} {is : Ord} {a : Act} {w : World} (hm : mov i = false) (hi : (ops[i]?).isSome = true)
    (h : ∀ o, ops[i]? = some o → ∀ K' : Act → World → Prop, Shut (∀ a w', (∃ S' : World → Prop, (∀ W, S' W → S W) ∧ S' w' ∧ wpGrow P ops Q mov is S' a w') → K' a w') → if Region.wanted o (yielded ops a.tmps) = true then Oper.wp P o a w K' Q else K' (a.put o.dst undef) w) : wpGrow P ops Q mov (.step i is) S a w :=
  .inr ⟨hm, growW_of hi h⟩
theorem wpGrow_fork {i j : Nat} {is js : Ord} {a : Act} {w : World} (h : growW P ops Q S i (wpGrow P ops Q mov is) a w) (h' : growW P ops Q S j (wpGrow P ops Q mov js) a w) : wpGrow P ops Q mov (.fork i is j js) S a w := ⟨h, h'⟩
end
end Go.Proofs.YtijecfmblddanaaDoor
