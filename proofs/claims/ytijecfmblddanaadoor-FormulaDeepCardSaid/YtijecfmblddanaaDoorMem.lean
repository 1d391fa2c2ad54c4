/- Words for memory: a slice of pairs that reads as a list, slices of ints and bools, what a call leaves. -/
import Derived.WalkKit
import Derived.WalkLawsBesides
import Derived.WalkSpells
import Derived.Test.YtijecfmblddanaaDoorPure
namespace Go.Proofs.YtijecfmblddanaaDoor
open Go.RowKit

/-- The call hands v back and turns nothing that was there. -/
def Ret (w : World) (v : Value) (e : Ending) (w' : World) : Prop := e = .returned v ∧ Below w.heap.size w w'

theorem Ret.mk {w w' : World} {v v' : Value} (h : v = v') (hb : Below w.heap.size w w') : Ret w v' (.returned v) w' := ⟨by rw [h], hb⟩
theorem vbool {a b : Bool} (h : a = b) : Value.bool a = Value.bool b := by rw [h]
theorem vint {k : IntKind} {a b : Int} (h : a = b) : Value.int k a = Value.int k b := by rw [h]

theorem bcell {B : Nat} {w w1 : World} (hb : Below B w w1) : (∀ b o, b < B → w1.cell? ⟨b, o, none⟩ = w.cell? ⟨b, o, none⟩) ∧ (∀ b o, b < B → w1.frozen? ⟨b, o, none⟩ = w.frozen? ⟨b, o, none⟩) :=
  ⟨fun b o h => hb.cell (p := ⟨b, o, none⟩) h, fun b o h => hb.frozen (p := ⟨b, o, none⟩) h⟩

/-- Two calls, one behind the other. -/
theorem below2 {B : Nat} {w w1 w2 : World} (h : Below B w w1) (hB : B ≤ w1.heap.size) (h2 : Below w1.heap.size w1 w2) : Below B w w2 := h.trans (h2.mono hB)

theorem below_drewN {B : Nat} {a w : World} (h : Below B a w) (n : Nat) : Below B a (w.drewN n) := ⟨h.os, h.tape, h.output, h.size, h.block⟩

theorem not_run {P : Program} : ∀ (x : Bool) (w : World), (Op.unary .not (.bool x)).run P w = .ok (.bool (!x)) w := fun _ _ => rfl

/-- An int of 64 bits. -/
def I64 (x : Int) : Prop := -9223372036854775808 ≤ x ∧ x ≤ 9223372036854775807

/-- The slice at A reads as these pairs; it lies below block B. -/
def Prs (w : World) (B : Nat) (A : Option Addr) (ps : List Pr) : Prop :=
  ∀ i p, ps[i]? = some p → ∃ b o, A = some ⟨b, o, none⟩ ∧ b < B ∧ w.cell? ⟨b, o + i * 2, none⟩ = some (.int .i64 p.1) ∧ w.cell? ⟨b, o + i * 2 + 1, none⟩ = some (.int .i64 p.2)

/-- The slice at A reads as these values of one cell; it lies below block B. -/
def Vals (w : World) (B : Nat) (A : Option Addr) (xs : List Value) : Prop :=
  ∀ i x, xs[i]? = some x → ∃ b o, A = some ⟨b, o, none⟩ ∧ b < B ∧ w.cell? ⟨b, o + i, none⟩ = some x

section
variable {w w' : World} {B B' : Nat} {A : Option Addr} {ps : List Pr} {xs : List Value}

theorem Prs.nil : Prs w B A [] := fun i p h => by simp at h
theorem Prs.keep (h : Prs w B A ps) (hk : ∀ b o, b < B → w'.cell? ⟨b, o, none⟩ = w.cell? ⟨b, o, none⟩) : Prs w' B A ps := fun i p hi => by
  obtain ⟨b, o, e, hb, h1, h2⟩ := h i p hi
  exact ⟨b, o, e, hb, by rw [hk _ _ hb, h1], by rw [hk _ _ hb, h2]⟩
theorem Prs.more (h : Prs w B A ps) (hB : B ≤ B') : Prs w B' A ps := fun i p hi => by
  obtain ⟨b, o, e, hb, h1, h2⟩ := h i p hi
  exact ⟨b, o, e, by omega, h1, h2⟩
theorem Prs.below (h : Prs w B A ps) (hb : Below B w w') : Prs w' B A ps := h.keep (bcell hb).1
/-- Behind a call. -/
theorem Prs.after (h : Prs w w.heap.size A ps) (hb : Below w.heap.size w w') : Prs w' w'.heap.size A ps := (h.below hb).more hb.size
theorem Prs.at_ (h : Prs w B A ps) {k : Nat} (hk : k < ps.length) : ∃ b o, A = some ⟨b, o, none⟩ ∧ b < B ∧ w.cell? ⟨b, o + k * 2, none⟩ = some (.int .i64 ps[k].1) ∧ w.cell? ⟨b, o + k * 2 + 1, none⟩ = some (.int .i64 ps[k].2) :=
  h k _ (List.getElem?_eq_getElem hk)
theorem Prs.alloc (h : Prs w B A ps) (hB : B ≤ w.heap.size) (o : Obj) : Prs (w.alloc o) B A ps := h.below ((Below.refl _ _).alloc hB o)

theorem Vals.nil : Vals w B A [] := fun i p h => by simp at h
theorem Vals.keep (h : Vals w B A xs) (hk : ∀ b o, b < B → w'.cell? ⟨b, o, none⟩ = w.cell? ⟨b, o, none⟩) : Vals w' B A xs := fun i p hi => by
  obtain ⟨b, o, e, hb, h1⟩ := h i p hi
  exact ⟨b, o, e, hb, by rw [hk _ _ hb, h1]⟩
theorem Vals.more (h : Vals w B A xs) (hB : B ≤ B') : Vals w B' A xs := fun i p hi => by
  obtain ⟨b, o, e, hb, h1⟩ := h i p hi
  exact ⟨b, o, e, by omega, h1⟩
theorem Vals.below (h : Vals w B A xs) (hb : Below B w w') : Vals w' B A xs := h.keep (bcell hb).1
theorem Vals.after (h : Vals w w.heap.size A xs) (hb : Below w.heap.size w w') : Vals w' w'.heap.size A xs := (h.below hb).more hb.size
theorem Vals.at_ (h : Vals w B A xs) {k : Nat} (hk : k < xs.length) : ∃ b o, A = some ⟨b, o, none⟩ ∧ b < B ∧ w.cell? ⟨b, o + k, none⟩ = some xs[k] :=
  h k _ (List.getElem?_eq_getElem hk)
theorem Vals.alloc (h : Vals w B A xs) (hB : B ≤ w.heap.size) (o : Obj) : Vals (w.alloc o) B A xs := h.below ((Below.refl _ _).alloc hB o)

/-- The cells of pairs, one behind the other. -/
def flat (ps : List Pr) : List Value := ps.flatMap fun p => [.int .i64 p.1, .int .i64 p.2]

theorem flat_nil : flat [] = [] := rfl
theorem flat_cons (p : Pr) (ps : List Pr) : flat (p :: ps) = .int .i64 p.1 :: .int .i64 p.2 :: flat ps := rfl
theorem flat_append (ps qs : List Pr) : flat (ps ++ qs) = flat ps ++ flat qs := by simp [flat]
theorem flat_length : ∀ ps : List Pr, (flat ps).length = ps.length * 2
  | [] => rfl
  | p :: ps => by rw [flat_cons]; simp [flat_length ps]; omega
theorem flat_at : ∀ (ps : List Pr) (i : Nat) (p : Pr), ps[i]? = some p → (flat ps)[i * 2]? = some (.int .i64 p.1) ∧ (flat ps)[i * 2 + 1]? = some (.int .i64 p.2)
  | [], i, p, h => by simp at h
  | q :: ps, 0, p, h => by
    simp at h
    subst h
    exact ⟨rfl, rfl⟩
  | q :: ps, i + 1, p, h => by
    have := flat_at ps i p (by simpa using h)
    rw [flat_cons]
    have e : (i + 1) * 2 = i * 2 + 1 + 1 := by omega
    rw [e]
    simpa using this
theorem flat_one (ps : List Pr) : ∀ u ∈ flat ps, u.oneCell' = true := by
  intro u hu
  obtain ⟨p, _, hp⟩ := List.mem_flatMap.1 hu
  simp at hp
  rcases hp with rfl | rfl <;> rfl

theorem Prs.of_vals (h : Vals w B A (flat ps)) : Prs w B A ps := fun i p hi => by
  obtain ⟨h1, h2⟩ := flat_at ps i p hi
  obtain ⟨b, o, e, hb, c1⟩ := h _ _ h1
  obtain ⟨b', o', e', _, c2⟩ := h _ _ h2
  subst e
  injection e' with e'
  injection e' with e1 e2
  subst e1
  subst e2
  exact ⟨b, o, rfl, hb, c1, by rw [Nat.add_assoc]; exact c2⟩

/-- What the call itself has built by append reads as its cells. -/
theorem Vals.of_own {base : Nat} {e : TypeId} {size n : Nat} {c : Nat} (h : w.ownsRow base e size (.slice A n c) n xs) : Vals w w.heap.size A xs := by
  intro i x hi
  have hlen := h.1
  rcases h.2 with ⟨_, hn⟩ | ⟨g, cap, cur, hv, hg, hh, hnc, hcm, hcs, htk⟩
  · subst hn
    have : xs = [] := List.eq_nil_of_length_eq_zero (by simpa using hlen)
    subst this
    simp at hi
  · injection hv with hA
    subst hA
    refine ⟨g, 0, rfl, ?_, ?_⟩
    · rcases Nat.lt_or_ge g w.heap.size with hlt | hge
      · exact hlt
      · rw [Array.getElem?_eq_none hge] at hh
        cases hh
    · rw [cell_of_row w g (0 + i) cur e (0, 0) hh, Nat.zero_add]
      rw [← htk] at hi
      rw [List.getElem?_take] at hi
      split at hi
      · simpa using hi
      · cases hi
theorem own_cap {base : Nat} {e : TypeId} {size n : Nat} {c : Nat} (h : w.ownsRow base e size (.slice A n c) n xs) : n ≤ c := by
  rcases h.2 with ⟨hv, hn⟩ | ⟨g, cap, cur, hv, hg, hh, hnc, _⟩
  · omega
  · injection hv with _ _ hc
    omega
theorem own_form {base : Nat} {e : TypeId} {size n : Nat} {v : Value} (h : w.ownsRow base e size v n xs) : ∃ A c, v = .slice A n c ∧ n ≤ c := by
  rcases h.2 with ⟨rfl, rfl⟩ | ⟨g, cap, cur, rfl, _, _, hnc, _⟩
  · exact ⟨_, _, rfl, Nat.le_refl _⟩
  · exact ⟨_, _, rfl, hnc⟩
theorem Prs.none_ (h : Prs w B A ps) (hA : A = none) : ps = [] := by
  cases ps with
  | nil => rfl
  | cons p ps =>
    obtain ⟨b, o, e, _⟩ := h 0 p rfl
    rw [hA] at e
    cases e
theorem Vals.none_ (h : Vals w B A xs) (hA : A = none) : xs = [] := by
  cases xs with
  | nil => rfl
  | cons p ps =>
    obtain ⟨b, o, e, _⟩ := h 0 p rfl
    rw [hA] at e
    cases e
theorem Vals.cells (h : Vals w B A xs) : ∀ b, A = some b → ∀ j u, xs[j]? = some u → w.cell? (b.add j) = some u := by
  intro b hA j u hu
  obtain ⟨b', o', e, _, hc⟩ := h j u hu
  rw [hA] at e
  cases e
  rw [Addr.add_lit]
  exact hc
theorem Prs.vals (h : Prs w B A ps) : Vals w B A (flat ps) := by
  intro j u hu
  have hl : j < (flat ps).length := (List.getElem?_eq_some_iff.1 hu).1
  rw [flat_length] at hl
  have hj : j / 2 < ps.length := by omega
  have hp : ps[j / 2]? = some ps[j / 2] := List.getElem?_eq_getElem hj
  obtain ⟨b, o, e, hb, c1, c2⟩ := h (j / 2) _ hp
  obtain ⟨f1, f2⟩ := flat_at ps (j / 2) _ hp
  rcases Nat.mod_two_eq_zero_or_one j with hm | hm
  · have ej : j / 2 * 2 = j := by omega
    rw [ej] at f1 c1
    rw [hu] at f1
    cases f1
    exact ⟨b, o, e, hb, c1⟩
  · have ej : j / 2 * 2 + 1 = j := by omega
    rw [ej] at f2
    rw [Nat.add_assoc, ej] at c2
    rw [hu] at f2
    cases f2
    exact ⟨b, o, e, hb, c2⟩
end

/-- The slice at A reads as these pairs; its block is one of Q. -/
def PrsQ (w : World) (Q : Nat → Prop) (A : Option Addr) (ps : List Pr) : Prop :=
  ∀ i p, ps[i]? = some p → ∃ b o, A = some ⟨b, o, none⟩ ∧ Q b ∧ w.cell? ⟨b, o + i * 2, none⟩ = some (.int .i64 p.1) ∧ w.cell? ⟨b, o + i * 2 + 1, none⟩ = some (.int .i64 p.2)

/-- A block that was one of Q before, or that is new. -/
def QNew (w : World) (Q : Nat → Prop) (b : Nat) : Prop := (Q b ∧ b < w.heap.size) ∨ w.heap.size ≤ b

section
variable {w w' : World} {Q Q' : Nat → Prop} {A : Option Addr} {ps : List Pr}
theorem PrsQ.nil : PrsQ w Q A [] := fun i p h => by simp at h
theorem PrsQ.imp (h : PrsQ w Q A ps) (hq : ∀ b, Q b → b < w.heap.size → Q' b) : PrsQ w Q' A ps := fun i p hi => by
  obtain ⟨b, o, e, hb, h1, h2⟩ := h i p hi
  exact ⟨b, o, e, hq b hb (block_lt_of_cell h1), h1, h2⟩
theorem PrsQ.new (h : PrsQ w Q A ps) : PrsQ w (QNew w Q) A ps := h.imp fun _ hb hl => .inl ⟨hb, hl⟩
theorem PrsQ.prs (h : PrsQ w Q A ps) : Prs w w.heap.size A ps := fun i p hi => by
  obtain ⟨b, o, e, _, h1, h2⟩ := h i p hi
  exact ⟨b, o, e, block_lt_of_cell h1, h1, h2⟩
theorem Prs.q {N : Nat} (h : Prs w N A ps) : PrsQ w (· < N) A ps := h
theorem PrsQ.keep (h : PrsQ w Q A ps) (hk : ∀ b o, Q b → b < w.heap.size → w'.cell? ⟨b, o, none⟩ = w.cell? ⟨b, o, none⟩) : PrsQ w' Q A ps := fun i p hi => by
  obtain ⟨b, o, e, hb, h1, h2⟩ := h i p hi
  have hlt : b < w.heap.size := block_lt_of_cell h1
  exact ⟨b, o, e, hb, by rw [hk _ _ hb hlt, h1], by rw [hk _ _ hb hlt, h2]⟩
theorem PrsQ.below (h : PrsQ w Q A ps) (hb : Below w.heap.size w w') : PrsQ w' Q A ps := h.keep fun b o _ hlt => (bcell hb).1 b o hlt
theorem PrsQ.alloc (h : PrsQ w Q A ps) (o : Obj) : PrsQ (w.alloc o) Q A ps := h.below ((Below.refl _ _).alloc (Nat.le_refl _) o)
theorem PrsQ.setCell (h : PrsQ w Q A ps) {g j : Nat} (hg : ∀ b, Q b → b ≠ g) (u : Value) : PrsQ (w.setCell ⟨g, j, none⟩ u) Q A ps :=
  h.keep fun b o hb _ => World.cell?_setCell_other _ _ _ _ (fun e => by injection e with e; exact hg b hb e.symm)
theorem PrsQ.of_own {base : Nat} {e : TypeId} {n c : Nat} (h : w.ownsRow base e 2 (.slice A n c) n (flat ps)) (hS : ∀ b, base ≤ b → Q b) : PrsQ w Q A ps := fun i p hi => by
  obtain ⟨b, o, e, _, h1, h2⟩ := Prs.of_vals (Vals.of_own h) i p hi
  subst e
  have hg : base ≤ b := by
    rcases h.2 with ⟨hv, _⟩ | ⟨g, cap, cur, hv, hg, _⟩
    · cases hv
    · injection hv with hv
      injection hv with hv
      injection hv with hv
      omega
  exact ⟨b, o, rfl, hS b hg, h1, h2⟩
end

theorem cells_new (w : World) (xs : List Value) (e : TypeId) : ∀ j u, xs[j]? = some u → (w.alloc (.cells xs.toArray e)).cell? ((⟨w.heap.size, 0, none⟩ : Addr).add j) = some u := by
  intro j u hu
  rw [Addr.add_lit, cell_of_row (w.alloc (.cells xs.toArray e)) w.heap.size (0 + j) xs.toArray e (0, 0) (heap_alloc_new w _)]
  simpa using hu

/-- A block that is known whole. -/
def Blk (w : World) (g : Nat) (t : TypeId) (cs : Array Value) : Prop := w.heap[g]? = some (.cells cs t (0, 0))

section
variable {w w' : World} {g : Nat} {t : TypeId} {cs : Array Value}
theorem Blk.lt (h : Blk w g t cs) : g < w.heap.size := by
  rcases Nat.lt_or_ge g w.heap.size with hlt | hge
  · exact hlt
  · unfold Blk at h; rw [Array.getElem?_eq_none hge] at h; cases h
theorem Blk.cell (h : Blk w g t cs) (i : Nat) : w.cell? ⟨g, i, none⟩ = cs[i]? := cell_of_row w g i cs t (0, 0) h
theorem Blk.frozen (h : Blk w g t cs) (i : Nat) : w.frozen? ⟨g, i, none⟩ = false := by
  unfold Blk at h
  simp [World.frozen?, h]
theorem Blk.new (w : World) (t : TypeId) (cs : Array Value) : Blk (w.alloc (.cells cs t)) w.heap.size t cs := heap_alloc_new w _
theorem Blk.alloc (h : Blk w g t cs) (o : Obj) : Blk (w.alloc o) g t cs := (Below.heap_alloc w o g h.lt).trans h
theorem Blk.drew (h : Blk w g t cs) : Blk w.drew g t cs := h
theorem Blk.set_ (h : Blk w g t cs) (i : Nat) (u : Value) : Blk (w.setCell ⟨g, i, none⟩ u) g t (cs.setIfInBounds i u) := by
  unfold Blk at h ⊢
  simp [World.setCell, Array.getElem?_modify, h]
theorem Blk.far (h : Blk w g t cs) {p : Addr} (hp : g ≠ p.block) (u : Value) : Blk (w.setCell p u) g t cs := (Below.heap_setCell w p u g hp).trans h
theorem Blk.below {B : Nat} (h : Blk w g t cs) (hb : Below B w w') (hg : g < B) : Blk w' g t cs := (hb.block g hg).trans h
theorem Blk.grown {row : Option Nat} (h : Blk w g t cs) (hb : w.grownBy w' row) (hg : some g ≠ row) : Blk w' g t cs := (hb.block g h.lt hg).trans h
end

theorem own_below {w w' : World} {base : Nat} {e : TypeId} {size n : Nat} {v : Value} {xs : List Value} (h : w.ownsRow base e size v n xs) (hb : Below w.heap.size w w') : w'.ownsRow base e size v n xs := by
  obtain ⟨h1, h2⟩ := h
  refine ⟨h1, ?_⟩
  rcases h2 with h2 | ⟨g, cap, cur, hv, hg, hh, r⟩
  · exact .inl h2
  · exact .inr ⟨g, cap, cur, hv, hg, Blk.below (cs := cur) hh hb (Blk.lt (cs := cur) hh), r⟩
theorem grown_set {a w : World} {g : Nat} (h : a.grownBy w (some g)) (i : Nat) (u : Value) : a.grownBy (w.setCell ⟨g, i, none⟩ u) (some g) :=
  ⟨h.os, h.tape, h.output, by simpa [World.setCell] using h.size, fun j hj hne => (Below.heap_setCell w _ u j (fun e => hne (by rw [e]))).trans (h.block j hj hne)⟩
theorem grown_trans {a w w' : World} {row : Option Nat} (h : a.grownBy w row) (h' : w.grownBy w' row) : a.grownBy w' row :=
  ⟨h'.os.trans h.os, h'.tape.trans h.tape, h'.output.trans h.output, Nat.le_trans h.size h'.size, fun i hi hne => (h'.block i (Nat.lt_of_lt_of_le hi h.size) hne).trans (h.block i hi hne)⟩
end Go.Proofs.YtijecfmblddanaaDoor
