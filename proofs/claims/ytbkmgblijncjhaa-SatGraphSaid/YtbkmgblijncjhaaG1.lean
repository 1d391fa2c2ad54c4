/- Words for memory: a slice of pairs that reads as a list, slices of ints and bools, what a call leaves. A law's arguments opened, whatever they are; the step from a walk to a row. What a row asks of the whole program, proved once: the program's make, read off its first line, not reckoned whole (reckoned whole it takes the kernel a minute and 12 GB at 24 roots). A slice of bytes opened. Numbers as cells. Whether clauses may be, and are so: plain data. Clauses in memory. Arguments opened: clauses with their room, lists of numbers. any of a list. Truth values as cells. Facts that stay, each carried over a step by '.step'. A region that draws its order, walked once in an order of ours: what yields in every world that meets S may come at any time before S falls; what is left is forced. append onto a row of the call's own, the source nil, empty or not. A row of the call's own: its block, a store into it. A map that the call makes, whatever its elements: what lies under each key. As XSeq, with two facts on memory: S for most operations, R for a few; an operation may end R while those that need S are still to come. A region that draws its order, walked in orders of ours (with forks), with a fact on memory that may grow as the region goes on: behind an operation that stays in its place more may be known (a block that it made). No operation ends it. The lowest bits of a number: plain data. -/
import Derived.WalkKit
import Derived.WalkLawsBesides
import Derived.WalkSpells
import Derived.Test.YtbkmgblijncjhaaPure
import Derived.Test.YtbkmgblijncjhaaRows
import Derived.Test.YtbkmgblijncjhaaLaid
import Derived.ProofKit
import Derived.Below
import Derived.Carry
import Derived.SizedLaws
import Derived.OpenShut
import Derived.Lib.SmallJoins
import Derived.Deep.Slices
import Derived.Lib.Hide
import Derived.RangeFuncRecord
import Derived.RangeFuncOwn
import Derived.Deep.RegionHeld3
import Derived.StillTail
import Derived.Maps.AppendAt
import Derived.Maps.OwnSet
namespace Go.Proofs.Ytbkmgblijncjhaa
open Go.RowKit

/-- The call hands v back and turns nothing that was there. -/
def Ret (w : World) (v : Value) (e : Ending) (w' : World) : Prop := e = .returned v ∧ Below w.heap.size w w'

theorem Ret.mk {w w' : World} {v v' : Value} (h : v = v') (hb : Below w.heap.size w w') : Ret w v' (.returned v) w' := ⟨by rw [h], hb⟩
theorem vbool {a b : Bool} (h : a = b) : Value.bool a = Value.bool b := by rw [h]
theorem vint {k : IntKind} {a b : Int} (h : a = b) : Value.int k a = Value.int k b := by rw [h]

theorem bcell {B : Nat} {w w1 : World} (hb : Below B w w1) : (∀ b o, b < B → w1.cell? ⟨b, o, none⟩ = w.cell? ⟨b, o, none⟩) ∧ (∀ b o, b < B → w1.frozen? ⟨b, o, none⟩ = w.frozen? ⟨b, o, none⟩) :=
  ⟨fun b o h => hb.cell (p := ⟨b, o, none⟩) h, fun b o h => hb.frozen (p := ⟨b, o, none⟩) h⟩

/-- Two calls, one behind the other. -/
theorem below2 {B : Nat} {w w1 w2 : World} (h : Below B w w1) (hB : B ≤ w1.heap.size) (h2 : Below w1.heap.size w1 w2) : Below B w w2 := h.trans (h2.mono hB)

theorem below_drewN {B : Nat} {a w : World} (h : Below B a w) (n : Nat) : Below B a (w.drewN n) := ⟨h.os, h.tape, h.output, h.size, h.block⟩

theorem not_run {P : Program} : ∀ (x : Bool) (w : World), (Op.unary .not (.bool x)).run P w = .ok (.bool (!x)) w := fun _ _ => rfl

/-- An int of 64 bits. -/
def I64 (x : Int) : Prop := -9223372036854775808 ≤ x ∧ x ≤ 9223372036854775807

/-- The slice at A reads as these pairs; it lies below block B. -/
def Prs (w : World) (B : Nat) (A : Option Addr) (ps : List Pr) : Prop :=
  ∀ i p, ps[i]? = some p → ∃ b o, A = some ⟨b, o, none⟩ ∧ b < B ∧ w.cell? ⟨b, o + i * 2, none⟩ = some (.int .i64 p.1) ∧ w.cell? ⟨b, o + i * 2 + 1, none⟩ = some (.int .i64 p.2)

/-- The slice at A reads as these values of one cell; it lies below block B. -/
def Vals (w : World) (B : Nat) (A : Option Addr) (xs : List Value) : Prop :=
  ∀ i x, xs[i]? = some x → ∃ b o, A = some ⟨b, o, none⟩ ∧ b < B ∧ w.cell? ⟨b, o + i, none⟩ = some x

section
variable {w w' : World} {B B' : Nat} {A : Option Addr} {ps : List Pr} {xs : List Value}

theorem Prs.nil : Prs w B A [] := fun i p h => by simp at h
theorem Prs.keep (h : Prs w B A ps) (hk : ∀ b o, b < B → w'.cell? ⟨b, o, none⟩ = w.cell? ⟨b, o, none⟩) : Prs w' B A ps := fun i p hi => by
  obtain ⟨b, o, e, hb, h1, h2⟩ := h i p hi
  exact ⟨b, o, e, hb, by rw [hk _ _ hb, h1], by rw [hk _ _ hb, h2]⟩
theorem Prs.more (h : Prs w B A ps) (hB : B ≤ B') : Prs w B' A ps := fun i p hi => by
  obtain ⟨b, o, e, hb, h1, h2⟩ := h i p hi
  exact ⟨b, o, e, by omega, h1, h2⟩
theorem Prs.below (h : Prs w B A ps) (hb : Below B w w') : Prs w' B A ps := h.keep (bcell hb).1
/-- Behind a call. -/
theorem Prs.after (h : Prs w w.heap.size A ps) (hb : Below w.heap.size w w') : Prs w' w'.heap.size A ps := (h.below hb).more hb.size
theorem Prs.at_ (h : Prs w B A ps) {k : Nat} (hk : k < ps.length) : ∃ b o, A = some ⟨b, o, none⟩ ∧ b < B ∧ w.cell? ⟨b, o + k * 2, none⟩ = some (.int .i64 ps[k].1) ∧ w.cell? ⟨b, o + k * 2 + 1, none⟩ = some (.int .i64 ps[k].2) :=
  h k _ (List.getElem?_eq_getElem hk)
theorem Prs.alloc (h : Prs w B A ps) (hB : B ≤ w.heap.size) (o : Obj) : Prs (w.alloc o) B A ps := h.below ((Below.refl _ _).alloc hB o)

theorem Vals.nil : Vals w B A [] := fun i p h => by simp at h
theorem Vals.keep (h : Vals w B A xs) (hk : ∀ b o, b < B → w'.cell? ⟨b, o, none⟩ = w.cell? ⟨b, o, none⟩) : Vals w' B A xs := fun i p hi => by
  obtain ⟨b, o, e, hb, h1⟩ := h i p hi
  exact ⟨b, o, e, hb, by rw [hk _ _ hb, h1]⟩
theorem Vals.more (h : Vals w B A xs) (hB : B ≤ B') : Vals w B' A xs := fun i p hi => by
  obtain ⟨b, o, e, hb, h1⟩ := h i p hi
  exact ⟨b, o, e, by omega, h1⟩
theorem Vals.below (h : Vals w B A xs) (hb : Below B w w') : Vals w' B A xs := h.keep (bcell hb).1
theorem Vals.after (h : Vals w w.heap.size A xs) (hb : Below w.heap.size w w') : Vals w' w'.heap.size A xs := (h.below hb).more hb.size
theorem Vals.at_ (h : Vals w B A xs) {k : Nat} (hk : k < xs.length) : ∃ b o, A = some ⟨b, o, none⟩ ∧ b < B ∧ w.cell? ⟨b, o + k, none⟩ = some xs[k] :=
  h k _ (List.getElem?_eq_getElem hk)
theorem Vals.alloc (h : Vals w B A xs) (hB : B ≤ w.heap.size) (o : Obj) : Vals (w.alloc o) B A xs := h.below ((Below.refl _ _).alloc hB o)

/-- The cells of pairs, one behind the other. -/
def flat (ps : List Pr) : List Value := ps.flatMap fun p => [.int .i64 p.1, .int .i64 p.2]

theorem flat_nil : flat [] = [] := rfl
theorem flat_cons (p : Pr) (ps : List Pr) : flat (p :: ps) = .int .i64 p.1 :: .int .i64 p.2 :: flat ps := rfl
theorem flat_append (ps qs : List Pr) : flat (ps ++ qs) = flat ps ++ flat qs := by simp [flat]
theorem flat_length : ∀ ps : List Pr, (flat ps).length = ps.length * 2
  | [] => rfl
  | p :: ps => by rw [flat_cons]; simp [flat_length ps]; omega
theorem flat_at : ∀ (ps : List Pr) (i : Nat) (p : Pr), ps[i]? = some p → (flat ps)[i * 2]? = some (.int .i64 p.1) ∧ (flat ps)[i * 2 + 1]? = some (.int .i64 p.2)
  | [], i, p, h => by simp at h
  | q :: ps, 0, p, h => by
    simp at h
    subst h
    exact ⟨rfl, rfl⟩
  | q :: ps, i + 1, p, h => by
    have := flat_at ps i p (by simpa using h)
    rw [flat_cons]
    have e : (i + 1) * 2 = i * 2 + 1 + 1 := by omega
    rw [e]
    simpa using this
theorem flat_one (ps : List Pr) : ∀ u ∈ flat ps, u.oneCell' = true := by
  intro u hu
  obtain ⟨p, _, hp⟩ := List.mem_flatMap.1 hu
  simp at hp
  rcases hp with rfl | rfl <;> rfl

theorem Prs.of_vals (h : Vals w B A (flat ps)) : Prs w B A ps := fun i p hi => by
  obtain ⟨h1, h2⟩ := flat_at ps i p hi
  obtain ⟨b, o, e, hb, c1⟩ := h _ _ h1
  obtain ⟨b', o', e', _, c2⟩ := h _ _ h2
  subst e
  injection e' with e'
  injection e' with e1 e2
  subst e1
  subst e2
  exact ⟨b, o, rfl, hb, c1, by rw [Nat.add_assoc]; exact c2⟩

/-- What the call itself has built by append reads as its cells. -/
theorem Vals.of_own {base : Nat} {e : TypeId} {size n : Nat} {c : Nat} (h : w.ownsRow base e size (.slice A n c) n xs) : Vals w w.heap.size A xs := by
  intro i x hi
  have hlen := h.1
  rcases h.2 with ⟨_, hn⟩ | ⟨g, cap, cur, hv, hg, hh, hnc, hcm, hcs, htk⟩
  · subst hn
    have : xs = [] := List.eq_nil_of_length_eq_zero (by simpa using hlen)
    subst this
    simp at hi
  · injection hv with hA
    subst hA
    refine ⟨g, 0, rfl, ?_, ?_⟩
    · rcases Nat.lt_or_ge g w.heap.size with hlt | hge
      · exact hlt
      · rw [Array.getElem?_eq_none hge] at hh
        cases hh
    · rw [cell_of_row w g (0 + i) cur e (0, 0) hh, Nat.zero_add]
      rw [← htk] at hi
      rw [List.getElem?_take] at hi
      split at hi
      · simpa using hi
      · cases hi
theorem own_cap {base : Nat} {e : TypeId} {size n : Nat} {c : Nat} (h : w.ownsRow base e size (.slice A n c) n xs) : n ≤ c := by
  rcases h.2 with ⟨hv, hn⟩ | ⟨g, cap, cur, hv, hg, hh, hnc, _⟩
  · omega
  · injection hv with _ _ hc
    omega
theorem own_form {base : Nat} {e : TypeId} {size n : Nat} {v : Value} (h : w.ownsRow base e size v n xs) : ∃ A c, v = .slice A n c ∧ n ≤ c := by
  rcases h.2 with ⟨rfl, rfl⟩ | ⟨g, cap, cur, rfl, _, _, hnc, _⟩
  · exact ⟨_, _, rfl, Nat.le_refl _⟩
  · exact ⟨_, _, rfl, hnc⟩
theorem Prs.none_ (h : Prs w B A ps) (hA : A = none) : ps = [] := by
  cases ps with
  | nil => rfl
  | cons p ps =>
    obtain ⟨b, o, e, _⟩ := h 0 p rfl
    rw [hA] at e
    cases e
theorem Vals.none_ (h : Vals w B A xs) (hA : A = none) : xs = [] := by
  cases xs with
  | nil => rfl
  | cons p ps =>
    obtain ⟨b, o, e, _⟩ := h 0 p rfl
    rw [hA] at e
    cases e
theorem Vals.cells (h : Vals w B A xs) : ∀ b, A = some b → ∀ j u, xs[j]? = some u → w.cell? (b.add j) = some u := by
  intro b hA j u hu
  obtain ⟨b', o', e, _, hc⟩ := h j u hu
  rw [hA] at e
  cases e
  rw [Addr.add_lit]
  exact hc
theorem Prs.vals (h : Prs w B A ps) : Vals w B A (flat ps) := by
  intro j u hu
  have hl : j < (flat ps).length := (List.getElem?_eq_some_iff.1 hu).1
  rw [flat_length] at hl
  have hj : j / 2 < ps.length := by omega
  have hp : ps[j / 2]? = some ps[j / 2] := List.getElem?_eq_getElem hj
  obtain ⟨b, o, e, hb, c1, c2⟩ := h (j / 2) _ hp
  obtain ⟨f1, f2⟩ := flat_at ps (j / 2) _ hp
  rcases Nat.mod_two_eq_zero_or_one j with hm | hm
  · have ej : j / 2 * 2 = j := by omega
    rw [ej] at f1 c1
    rw [hu] at f1
    cases f1
    exact ⟨b, o, e, hb, c1⟩
  · have ej : j / 2 * 2 + 1 = j := by omega
    rw [ej] at f2
    rw [Nat.add_assoc, ej] at c2
    rw [hu] at f2
    cases f2
    exact ⟨b, o, e, hb, c2⟩
end

/-- The slice at A reads as these pairs; its block is one of Q. -/
def PrsQ (w : World) (Q : Nat → Prop) (A : Option Addr) (ps : List Pr) : Prop :=
  ∀ i p, ps[i]? = some p → ∃ b o, A = some ⟨b, o, none⟩ ∧ Q b ∧ w.cell? ⟨b, o + i * 2, none⟩ = some (.int .i64 p.1) ∧ w.cell? ⟨b, o + i * 2 + 1, none⟩ = some (.int .i64 p.2)

/-- A block that was one of Q before, or that is new. -/
def QNew (w : World) (Q : Nat → Prop) (b : Nat) : Prop := (Q b ∧ b < w.heap.size) ∨ w.heap.size ≤ b

section
variable {w w' : World} {Q Q' : Nat → Prop} {A : Option Addr} {ps : List Pr}
theorem PrsQ.nil : PrsQ w Q A [] := fun i p h => by simp at h
theorem PrsQ.imp (h : PrsQ w Q A ps) (hq : ∀ b, Q b → b < w.heap.size → Q' b) : PrsQ w Q' A ps := fun i p hi => by
  obtain ⟨b, o, e, hb, h1, h2⟩ := h i p hi
  exact ⟨b, o, e, hq b hb (block_lt_of_cell h1), h1, h2⟩
theorem PrsQ.new (h : PrsQ w Q A ps) : PrsQ w (QNew w Q) A ps := h.imp fun _ hb hl => .inl ⟨hb, hl⟩
theorem PrsQ.prs (h : PrsQ w Q A ps) : Prs w w.heap.size A ps := fun i p hi => by
  obtain ⟨b, o, e, _, h1, h2⟩ := h i p hi
  exact ⟨b, o, e, block_lt_of_cell h1, h1, h2⟩
theorem Prs.q {N : Nat} (h : Prs w N A ps) : PrsQ w (· < N) A ps := h
theorem PrsQ.keep (h : PrsQ w Q A ps) (hk : ∀ b o, Q b → b < w.heap.size → w'.cell? ⟨b, o, none⟩ = w.cell? ⟨b, o, none⟩) : PrsQ w' Q A ps := fun i p hi => by
  obtain ⟨b, o, e, hb, h1, h2⟩ := h i p hi
  have hlt : b < w.heap.size := block_lt_of_cell h1
  exact ⟨b, o, e, hb, by rw [hk _ _ hb hlt, h1], by rw [hk _ _ hb hlt, h2]⟩
theorem PrsQ.below (h : PrsQ w Q A ps) (hb : Below w.heap.size w w') : PrsQ w' Q A ps := h.keep fun b o _ hlt => (bcell hb).1 b o hlt
theorem PrsQ.alloc (h : PrsQ w Q A ps) (o : Obj) : PrsQ (w.alloc o) Q A ps := h.below ((Below.refl _ _).alloc (Nat.le_refl _) o)
theorem PrsQ.setCell (h : PrsQ w Q A ps) {g j : Nat} (hg : ∀ b, Q b → b ≠ g) (u : Value) : PrsQ (w.setCell ⟨g, j, none⟩ u) Q A ps :=
  h.keep fun b o hb _ => World.cell?_setCell_other _ _ _ _ (fun e => by injection e with e; exact hg b hb e.symm)
theorem PrsQ.of_own {base : Nat} {e : TypeId} {n c : Nat} (h : w.ownsRow base e 2 (.slice A n c) n (flat ps)) (hS : ∀ b, base ≤ b → Q b) : PrsQ w Q A ps := fun i p hi => by
  obtain ⟨b, o, e, _, h1, h2⟩ := Prs.of_vals (Vals.of_own h) i p hi
  subst e
  have hg : base ≤ b := by
    rcases h.2 with ⟨hv, _⟩ | ⟨g, cap, cur, hv, hg, _⟩
    · cases hv
    · injection hv with hv
      injection hv with hv
      injection hv with hv
      omega
  exact ⟨b, o, rfl, hS b hg, h1, h2⟩
end

theorem cells_new (w : World) (xs : List Value) (e : TypeId) : ∀ j u, xs[j]? = some u → (w.alloc (.cells xs.toArray e)).cell? ((⟨w.heap.size, 0, none⟩ : Addr).add j) = some u := by
  intro j u hu
  rw [Addr.add_lit, cell_of_row (w.alloc (.cells xs.toArray e)) w.heap.size (0 + j) xs.toArray e (0, 0) (heap_alloc_new w _)]
  simpa using hu

/-- A block that is known whole. -/
def Blk (w : World) (g : Nat) (t : TypeId) (cs : Array Value) : Prop := w.heap[g]? = some (.cells cs t (0, 0))

section
variable {w w' : World} {g : Nat} {t : TypeId} {cs : Array Value}
theorem Blk.lt (h : Blk w g t cs) : g < w.heap.size := by
  rcases Nat.lt_or_ge g w.heap.size with hlt | hge
  · exact hlt
  · unfold Blk at h; rw [Array.getElem?_eq_none hge] at h; cases h
theorem Blk.cell (h : Blk w g t cs) (i : Nat) : w.cell? ⟨g, i, none⟩ = cs[i]? := cell_of_row w g i cs t (0, 0) h
theorem Blk.frozen (h : Blk w g t cs) (i : Nat) : w.frozen? ⟨g, i, none⟩ = false := by
  unfold Blk at h
  simp [World.frozen?, h]
theorem Blk.new (w : World) (t : TypeId) (cs : Array Value) : Blk (w.alloc (.cells cs t)) w.heap.size t cs := heap_alloc_new w _
theorem Blk.alloc (h : Blk w g t cs) (o : Obj) : Blk (w.alloc o) g t cs := (Below.heap_alloc w o g h.lt).trans h
theorem Blk.drew (h : Blk w g t cs) : Blk w.drew g t cs := h
theorem Blk.set_ (h : Blk w g t cs) (i : Nat) (u : Value) : Blk (w.setCell ⟨g, i, none⟩ u) g t (cs.setIfInBounds i u) := by
  unfold Blk at h ⊢
  simp [World.setCell, Array.getElem?_modify, h]
theorem Blk.far (h : Blk w g t cs) {p : Addr} (hp : g ≠ p.block) (u : Value) : Blk (w.setCell p u) g t cs := (Below.heap_setCell w p u g hp).trans h
theorem Blk.below {B : Nat} (h : Blk w g t cs) (hb : Below B w w') (hg : g < B) : Blk w' g t cs := (hb.block g hg).trans h
theorem Blk.grown {row : Option Nat} (h : Blk w g t cs) (hb : w.grownBy w' row) (hg : some g ≠ row) : Blk w' g t cs := (hb.block g h.lt hg).trans h
end

theorem own_below {w w' : World} {base : Nat} {e : TypeId} {size n : Nat} {v : Value} {xs : List Value} (h : w.ownsRow base e size v n xs) (hb : Below w.heap.size w w') : w'.ownsRow base e size v n xs := by
  obtain ⟨h1, h2⟩ := h
  refine ⟨h1, ?_⟩
  rcases h2 with h2 | ⟨g, cap, cur, hv, hg, hh, r⟩
  · exact .inl h2
  · exact .inr ⟨g, cap, cur, hv, hg, Blk.below (cs := cur) hh hb (Blk.lt (cs := cur) hh), r⟩
theorem grown_set {a w : World} {g : Nat} (h : a.grownBy w (some g)) (i : Nat) (u : Value) : a.grownBy (w.setCell ⟨g, i, none⟩ u) (some g) :=
  ⟨h.os, h.tape, h.output, by simpa [World.setCell] using h.size, fun j hj hne => (Below.heap_setCell w _ u j (fun e => hne (by rw [e]))).trans (h.block j hj hne)⟩
theorem grown_trans {a w w' : World} {row : Option Nat} (h : a.grownBy w row) (h' : w.grownBy w' row) : a.grownBy w' row :=
  ⟨h'.os.trans h.os, h'.tape.trans h.tape, h'.output.trans h.output, Nat.le_trans h.size h'.size, fun i hi hne => (h'.block i (Nat.lt_of_lt_of_le hi h.size) hne).trans (h.block i hi hne)⟩
end Go.Proofs.Ytbkmgblijncjhaa

namespace Go.Proofs.Ytbkmgblijncjhaa
open Go.ChangeShapes Go.WideShapes Go.ChangeAt Go.RowKit Go.Joins Go.Deep

theorem ownK : ownKnob Try.prog.godebug = none := by kernel_rfl

section
variable {H : Type} {enc : TypeId × Value → H} {P : Program}

theorem trodAll_len {w : World} {base : Nat} {sp : Nat → Bool} {held : Bool} : ∀ {ts : List TypeId} {vs : List Value} {ds : List (DataW H)} {ps : List MemPlace}, DataW.TrodAll enc P w base sp held ts vs ds ps → ds.length = ts.length
  | [], [], [], _, _ => rfl
  | [], [], _ :: _, _, h => by simp [DataW.TrodAll] at h
  | [], _ :: _, _, _, h => by simp [DataW.TrodAll] at h
  | _ :: _, [], _, _, h => by simp [DataW.TrodAll] at h
  | _ :: _, _ :: _, [], _, h => by simp [DataW.TrodAll] at h
  | t :: ts, v :: vs, d :: ds, ps, h => by
    obtain ⟨p, q, _, h2, _⟩ := h
    simp [trodAll_len h2]

theorem trodAll_below (hl : laidOutB P = true) {W W' : World} (hb : Below W.heap.size W W') : ∀ {ts : List TypeId} {vs : List Value} {ds : List (DataW H)} {ps : List MemPlace}, (∀ t ∈ ts, P.readableRec t = true ∧ t < P.types.size) →
    DataW.TrodAll enc P W 0 (fun _ => true) true ts vs ds ps → (∀ x ∈ ps, x.block < W.heap.size) → DataW.TrodAll enc P W' 0 (fun b => decide (b < W.heap.size)) true ts vs ds ps
  | [], [], [], _, _, h, _ => h
  | [], [], _ :: _, _, _, h, _ => by simp [DataW.TrodAll] at h
  | [], _ :: _, _, _, _, h, _ => by simp [DataW.TrodAll] at h
  | _ :: _, [], _, _, _, h, _ => by simp [DataW.TrodAll] at h
  | _ :: _, _ :: _, [], _, _, h, _ => by simp [DataW.TrodAll] at h
  | t :: ts, v :: vs, d :: ds, ps, ht, h, hlt => by
    obtain ⟨p, q, h1, h2, rfl⟩ := h
    obtain ⟨hr, hrow⟩ := ht t (by simp)
    exact ⟨p, q, Below.trod hl hr hrow h1 hb fun x hx => hlt x (by simp [hx]), trodAll_below hl hb (fun t h => ht t (by simp [h])) h2 fun x hx => hlt x (by simp [hx]), rfl⟩

/-- The call answers true and turns nothing that was there: what a law's row asks. -/
theorem post_true {f : Func} {s : ChangeSpec} {apart fresh handsOn : Bool} {W W' : World} {args : Array Value} {ds gs : List (DataW H)} {before : List MemPlace} {tb : TypeId} (hl : laidOutB P = true) (hvars : s.vars = []) (hres : f.resultTypes = #[tb])
    (htb : P.underlying tb = some .bool) (hfn : ∀ ds : List (DataW H), ds.length = f.params.toList.length → s.fn H ds = { results := [.lit (.bool true)], args := ds }) (hts : ∀ t ∈ f.params.toList, P.readableRec t = true ∧ t < P.types.size)
    (hW : DataW.Whole enc P f.params.toList s.vars apart W args.toList ds gs before) (hb : Below W.heap.size W W') :
    s.post enc P f apart fresh handsOn false W args (.bool true) W' := by
  have hlt : ∀ p ∈ before, p.block < W.heap.size := fun p hp => hW.lt p hp
  have hW' := hW
  obtain ⟨p, q, hA, hV, rfl, hfz, hnd⟩ := hW'
  rw [hvars] at hV
  obtain ⟨rfl, rfl⟩ := trodVars_none hV
  simp only [List.append_nil] at *
  have hf := hfn ds (trodAll_len hA)
  refine ⟨ds, [], p, [], p, [], by simpa using hW, ?_, ?_, ?_, World.keptBut_mono (fun x hx => ⟨hx, .inr (.inl hx)⟩) (hb.frame (· ∈ p)), fun h => by cases h⟩
  · rw [List.append_nil, hf, hres]
    exact ⟨[], [], shut_bool htb true, rfl, rfl⟩
  · rw [List.append_nil, hf]
    exact trodAll_below hl hb hts hA hlt
  · rw [List.append_nil, hf, hvars]
    exact rfl
end

theorem list_of {α : Type} {Q : Nat → α → Prop} : ∀ n : Nat, (∀ i, i < n → ∃ x, Q i x) → ∃ l : List α, l.length = n ∧ ∀ i x, l[i]? = some x → Q i x
  | 0, _ => ⟨[], rfl, fun i x h => by simp at h⟩
  | n + 1, h => by
    obtain ⟨l, hl, hq⟩ := list_of n fun i hi => h i (by omega)
    obtain ⟨x, hx⟩ := h n (by omega)
    refine ⟨l ++ [x], by simp [hl], fun i y hy => ?_⟩
    by_cases hi : i < n
    · rw [List.getElem?_append_left (by omega)] at hy
      exact hq i y hy
    · by_cases e : i = n
      · subst e
        rw [List.getElem?_append_right (by omega)] at hy
        simp [hl] at hy
        subst hy
        exact hx
      · rw [List.getElem?_append_right (by omega)] at hy
        have : i - l.length = (i - l.length - 1) + 1 := by omega
        rw [this] at hy
        simp at hy

theorem spot_none {w : World} {a : Addr} {v : Value} (h : w.cell? (a.add 0) = some v) : a = ⟨a.block, a.off, none⟩ := by
  obtain ⟨b, off, spot⟩ := a
  have hspot : spot = none := by simpa [Addr.add] using World.cell?_spot h
  rw [hspot]

section
variable {H : Type} {enc : TypeId × Value → H} {W : World} {v : Value} {d : DataW H} {p : List MemPlace} {base : Nat}

set_option maxRecDepth 100000 in
/-- A slice whose elements are one cell each. -/
theorem open_ones {α : Type} {t e : TypeId} (mk : α → Value) (Q : α → Prop) (ht : Try.prog.underlying t = some (.slice e)) (hc : Try.prog.cellsOf e = 1)
    (hel : ∀ (n : Nat) (u : Value) (y : DataW H × List MemPlace), DataW.trod enc Try.prog W 0 (fun _ => true) true n e [u] = some y → ∃ x, u = mk x ∧ Q x)
    (hv : Value.okWide Try.prog W .any base t v) (h : DataW.Trod enc Try.prog W 0 (fun _ => true) true t v d p) (hz : ∀ n ∈ d.weights Try.prog t, n ≤ reachBytes) :
    ∃ (xs : List α) (A : Option Addr) (c : Nat), v = .slice A xs.length c ∧ (∀ x ∈ xs, Q x) ∧ xs.length ≤ c ∧ c * Try.prog.bytesOf e ≤ reachBytes ∧ Vals W W.heap.size A (xs.map mk) := by
  obtain ⟨a0, l0, c0, rfl⟩ := okWide_slice ht hv
  obtain ⟨n0, h1⟩ := h
  rcases Go.Deep.open_slice1 ht hc h1 with ⟨hs, _⟩ | ⟨a, len, cap, m, n', V, D, Pl, hs, _, hl, _, hm, hx, hi⟩
  · simp [Value.cells] at hs
    obtain ⟨rfl, rfl, rfl⟩ := hs
    exact ⟨[], none, 0, rfl, fun q hq => by simp at hq, Nat.le_refl _, by simp, Vals.nil⟩
  · simp [Value.cells] at hs
    obtain ⟨rfl, rfl, rfl⟩ := hs
    have hm' : m = c0 := by simpa using hm
    subst hm'
    have hsz : m * Try.prog.bytesOf e ≤ reachBytes := by
      refine hz _ ?_
      have hd : d = .slice ((List.range l0).map D) ((List.range (m - l0)).map fun j => D (l0 + j)) := by
        have := congrArg (·.1) hx
        simpa using this
      rw [hd]
      simp [DataW.weights, ht]
      refine .inl ?_
      rw [show l0 + (m - l0) = m by omega]
    obtain ⟨l, hll, hlq⟩ := list_of (Q := fun i (x : α) => Q x ∧ W.cell? (a.add i) = some (mk x)) l0 fun i hil => by
      obtain ⟨hcell, ht'⟩ := hi i (by omega)
      obtain ⟨x, hx1, hx2⟩ := hel _ _ _ ht'
      exact ⟨x, hx2, by rw [hcell, hx1]⟩
    refine ⟨l, some a, m, by rw [hll], fun q hq => ?_, by omega, hsz, fun i u hu => ?_⟩
    · obtain ⟨i, hi'⟩ := List.getElem?_of_mem hq
      exact (hlq i q hi').1
    · rw [List.getElem?_map] at hu
      cases hq : l[i]? with
      | none => rw [hq] at hu; cases hu
      | some q =>
        rw [hq] at hu
        simp at hu
        subst hu
        have q1 := (hlq i q hq).2
        have hil : i < l.length := (List.getElem?_eq_some_iff.1 hq).1
        have ha := spot_none (hlq 0 _ (List.getElem?_eq_getElem (by omega))).2
        rw [ha, Addr.add_lit] at q1
        exact ⟨a.block, a.off, by rw [← ha], block_lt_of_cell (a := ⟨a.block, a.off + i, none⟩) q1, q1⟩

theorem mem_weightsAll {P : Program} {e : TypeId} {n : Nat} {d : DataW H} : ∀ {ds : List (DataW H)}, d ∈ ds → n ∈ d.weights P e → n ∈ DataW.weightsAll P e ds
  | [], h, _ => by cases h
  | x :: r, h, hn => by
    rw [DataW.weightsAll]
    rcases List.mem_cons.1 h with rfl | h
    · exact List.mem_append_left _ hn
    · exact List.mem_append_right _ (mem_weightsAll h hn)

set_option maxRecDepth 100000 in
/-- A slice whose elements are one cell each, behind a cell. -/
theorem open_ones_cell {α : Type} {t e : TypeId} (mk : α → Value) (Q : α → Prop) (ht : Try.prog.underlying t = some (.slice e)) (hc : Try.prog.cellsOf e = 1)
    (hel : ∀ (n : Nat) (u : Value) (y : DataW H × List MemPlace), DataW.trod enc Try.prog W 0 (fun _ => true) true n e [u] = some y → ∃ x, u = mk x ∧ Q x)
    {n0 : Nat} {u : Value} {y : DataW H × List MemPlace} (h1 : DataW.trod enc Try.prog W 0 (fun _ => true) true n0 t [u] = some y) (hz : ∀ n ∈ y.1.weights Try.prog t, n ≤ reachBytes) :
    ∃ (xs : List α) (A : Option Addr) (c : Nat), u = .slice A xs.length c ∧ (∀ x ∈ xs, Q x) ∧ xs.length ≤ c ∧ c * Try.prog.bytesOf e ≤ reachBytes ∧ Vals W W.heap.size A (xs.map mk) := by
  rcases Go.Deep.open_slice1 ht hc h1 with ⟨hs, _⟩ | ⟨a, len, cap, m, n', V, D, Pl, hs, _, hl, _, hm, hx, hi⟩
  · simp at hs
    subst hs
    exact ⟨[], none, 0, rfl, fun q hq => by simp at hq, Nat.le_refl _, by simp, Vals.nil⟩
  · simp at hs
    subst hs
    have hm' : m = cap := by simpa using hm
    subst hm'
    have hsz : m * Try.prog.bytesOf e ≤ reachBytes := by
      refine hz _ ?_
      rw [hx]
      simp [DataW.weights, ht]
      refine .inl ?_
      rw [show len + (m - len) = m by omega]
    obtain ⟨l, hll, hlq⟩ := list_of (Q := fun i (x : α) => Q x ∧ W.cell? (a.add i) = some (mk x)) len fun i hil => by
      obtain ⟨hcell, ht'⟩ := hi i (by omega)
      obtain ⟨x, hx1, hx2⟩ := hel _ _ _ ht'
      exact ⟨x, hx2, by rw [hcell, hx1]⟩
    refine ⟨l, some a, m, by rw [hll], fun q hq => ?_, by omega, hsz, fun i u hu => ?_⟩
    · obtain ⟨i, hi'⟩ := List.getElem?_of_mem hq
      exact (hlq i q hi').1
    · rw [List.getElem?_map] at hu
      cases hq : l[i]? with
      | none => rw [hq] at hu; cases hu
      | some q =>
        rw [hq] at hu
        simp at hu
        subst hu
        have q1 := (hlq i q hq).2
        have hil : i < l.length := (List.getElem?_eq_some_iff.1 hq).1
        have ha := spot_none (hlq 0 _ (List.getElem?_eq_getElem (by omega))).2
        rw [ha, Addr.add_lit] at q1
        exact ⟨a.block, a.off, by rw [← ha], block_lt_of_cell (a := ⟨a.block, a.off + i, none⟩) q1, q1⟩
end
end Go.Proofs.Ytbkmgblijncjhaa

namespace Go.Proofs.Ytbkmgblijncjhaa
open Go.ChangeShapes Go.WideShapes Go.ChangeAt Go.RowKit
def ioCs : List Char := [104, 97, 114, 110, 101, 115, 115, 32, 53, 99, 51, 101, 97, 57, 55, 52, 102, 102, 98, 54, 97, 51, 56, 50, 53, 97, 48, 51, 55, 54, 54, 51, 56, 51, 55, 56, 50, 99, 56, 101, 51, 99, 53, 48, 49, 100, 57, 51, 55, 51, 52, 57, 51, 49, 54, 51, 98, 55, 50, 49, 100, 98, 49, 99, 48, 55, 54, 56, 102, 97, 48, 56, 32, 99, 117, 116, 32, 97, 116, 32, 112, 97, 114, 116, 101, 114, 114, 101, 47, 112, 97, 114, 116, 101, 114, 114, 101, 108, 97, 119, 49, 53, 46, 83, 97, 116, 65, 110, 121, 32, 112, 97, 114, 116, 101, 114, 114, 101, 47, 112, 97, 114, 116, 101, 114, 114, 101, 108, 97, 119, 49, 53, 46, 83, 97, 116, 77, 97, 100, 101, 32, 112, 97, 114, 116, 101, 114, 114, 101, 47, 112, 97, 114, 116, 101, 114, 114, 101, 108, 97, 119, 49, 53, 46, 83, 97, 116, 71, 114, 97, 112, 104, 32, 112, 97, 114, 116, 101, 114, 114, 101, 47, 112, 97, 114, 116, 101, 114, 114, 101, 108, 97, 119, 49, 53, 46, 83, 97, 116, 77, 111, 114, 101, 32, 112, 97, 114, 116, 101, 114, 114, 101, 47, 112, 97, 114, 116, 101, 114, 114, 101, 108, 97, 119, 49, 53, 46, 83, 97, 116, 72, 97, 114, 100, 32, 112, 97, 114, 116, 101, 114, 114, 101, 47, 112, 97, 114, 116, 101, 114, 114, 101, 108, 97, 119, 49, 53, 46, 83, 97, 116, 85, 110, 105, 116, 115, 32, 112, 97, 114, 116, 101, 114, 114, 101, 47, 112, 97, 114, 116, 101, 114, 114, 101, 108, 97, 119, 49, 53, 46, 83, 97, 116, 88, 111, 114].map Char.ofNat
set_option maxRecDepth 100000 in
theorem io_chars : Try.prog.initOrder.toList = ioCs := by
  have h : Try.prog.initOrder = String.ofList ioCs := by kernel_rfl
  rw [h]
  exact String.toList_ofList
theorem make_cut (P : Program) (l : List Char) (h : P.initOrder.toList = l) (hc : (behindMainWord (wordsSigns l)).head? = some "cut".toList) : P.make = some Make.cut := by
  unfold Program.make
  rw [h]
  match hb : behindMainWord (wordsSigns l), hc with
  | c :: rest, hc =>
    simp at hc
    subst hc
    rfl
theorem strip_cut (rest : List (List Char)) : stripLifts liftWords ([Char.ofNat 99, Char.ofNat 117, Char.ofNat 116] :: rest) = ([], [Char.ofNat 99, Char.ofNat 117, Char.ofNat 116] :: rest) := by
  simp [liftWords, stripLifts]
theorem enter_cut (P : Program) (l : List Char) (h : P.initOrder.toList = l) (hc : (behindMainWord (wordsSigns l)).head? = some "cut".toList) (h1 : P.laysLater = false) (h2 : P.bearsReflect = false) (h3 : P.doorFits [] = true) : P.mayEnter = true := by
  unfold Program.mayEnter
  rw [h]
  match hb : behindMainWord (wordsSigns l), hc with
  | c :: rest, hc =>
    simp only [List.head?_cons, Option.some.injEq] at hc
    subst hc
    simp [strip_cut, h1, h2, h3]
theorem lifts_cut (P : Program) (l : List Char) (h : P.initOrder.toList = l) (hc : (behindMainWord (wordsSigns l)).head? = some "cut".toList) : P.liftsFinal = false := by
  unfold Program.liftsFinal Program.headLifts
  rw [h]
  match hb : behindMainWord (wordsSigns l), hc with
  | c :: rest, hc =>
    simp only [List.head?_cons, Option.some.injEq] at hc
    subst hc
    simp [strip_cut]
theorem io_head : (behindMainWord (wordsSigns ioCs)).head? = some "cut".toList := by kernel_rfl
theorem io_make : Try.prog.make = some Make.cut := make_cut _ _ io_chars io_head
theorem io_lifts : Try.prog.liftsFinal = false := lifts_cut _ _ io_chars io_head
theorem io_enter : Try.prog.mayEnter = true := enter_cut _ _ io_chars io_head (by kernel_rfl) (by kernel_rfl) (by kernel_rfl)
theorem pin_enter : Try.pinned.checked.prog.mayEnter = true := io_enter
theorem pin_lifts : Try.pinned.checked.prog.liftsFinal = false := io_lifts
theorem pin_make : Try.pinned.checked.prog.make = some Make.cut := io_make
end Go.Proofs.Ytbkmgblijncjhaa

namespace Go.Proofs.Ytbkmgblijncjhaa
open Go.ChangeShapes Go.WideShapes Go.ChangeAt Go.RowKit Go.Joins Go.Deep
section
variable {H : Type} {enc : TypeId × Value → H} {W : World} {v : Value} {d : DataW H} {p : List MemPlace} {base : Nat}

set_option maxRecDepth 100000 in
theorem open_u8s (hv : Value.okWide Try.prog W .any base 35 v) (h : DataW.Trod enc Try.prog W 0 (fun _ => true) true 35 v d p) (hz : ∀ n ∈ d.weights Try.prog 35, n ≤ reachBytes) :
    ∃ (xs : List Int) (A : Option Addr) (c : Nat), v = .slice A xs.length c ∧ (∀ x ∈ xs, 0 ≤ x ∧ x ≤ 255) ∧ xs.length ≤ c ∧ c ≤ 140737488355328 ∧ Vals W W.heap.size A (xs.map (.int .u8 ·)) := by
  obtain ⟨xs, A, c, h1, h2, h3, h4, h5⟩ := open_ones (.int .u8 ·) (fun x => 0 ≤ x ∧ x ≤ 255) Try.underlying35 (by kernel_rfl) (fun n u y hy => by
    obtain ⟨k, hk, _, wk⟩ := DataW.trod_int Try.underlying5 hy
    simp at hk
    exact ⟨k, hk, bounds_u8 wk⟩) hv h hz
  have hbt : Try.prog.bytesOf 5 = 1 := by kernel_rfl
  rw [hbt] at h4
  exact ⟨xs, A, c, h1, h2, h3, by unfold reachBytes at h4; omega, h5⟩
end
end Go.Proofs.Ytbkmgblijncjhaa

set_option linter.unusedVariables false
set_option linter.unusedSimpArgs false
namespace Go.Proofs.Ytbkmgblijncjhaa
open Go.RowKit

/-- Numbers as cells. -/
def i64s (xs : List Int) : List Value := xs.map (.int .i64 ·)

theorem i64s_length (xs : List Int) : (i64s xs).length = xs.length := by simp [i64s]
theorem i64s_snoc (xs : List Int) (x : Int) : i64s (xs ++ [x]) = i64s xs ++ [.int .i64 x] := by simp [i64s]
theorem i64s_append (xs ys : List Int) : i64s (xs ++ ys) = i64s xs ++ i64s ys := by simp [i64s]
theorem i64s_one (xs : List Int) : ∀ u ∈ i64s xs, u.oneCell' = true := by
  intro u hu
  obtain ⟨x, _, rfl⟩ := List.mem_map.1 hu
  rfl
theorem i64s_at {xs : List Int} {i : Nat} {x : Int} (h : xs[i]? = some x) : (i64s xs)[i]? = some (.int .i64 x) := by
  unfold i64s
  rw [List.getElem?_map, h]
  rfl
end Go.Proofs.Ytbkmgblijncjhaa

set_option linter.unusedVariables false
set_option linter.unusedSimpArgs false
namespace Go.Proofs.Ytbkmgblijncjhaa

/-- A literal may be. -/
def oddX (v x : Int) : Bool := x == 0 || (decide (v < x) || decide (x < -v))
def rightC (v : Int) (cs : List (List Int)) : Bool := decide (0 ≤ v) && decide (v ≤ 2000) && decide (cs.length ≤ 100000) && !cs.any (fun l => l.any (oddX v))

/-- A literal is so. -/
def soX (m : List Bool) (x : Int) : Bool := if 0 < x then m[(x - 1).toNat]?.getD false else if x < 0 then !(m[(-x - 1).toNat]?.getD false) else false
def soC (v : Int) (cs : List (List Int)) (m : List Bool) : Bool := rightC v cs && decide ((m.length : Int) = v) && !cs.any (fun l => !l.any (soX m))

theorem oddX_no {v x : Int} : oddX v x = false ↔ x ≠ 0 ∧ x ≤ v ∧ -v ≤ x := by
  unfold oddX
  rw [Bool.or_eq_false_iff, Bool.or_eq_false_iff]
  simp only [beq_eq_false_iff_ne, decide_eq_false_iff_not, Int.not_lt, ne_eq]

theorem rightC_iff {v : Int} {cs : List (List Int)} : rightC v cs = true ↔ 0 ≤ v ∧ v ≤ 2000 ∧ cs.length ≤ 100000 ∧ ∀ l ∈ cs, ∀ x ∈ l, x ≠ 0 ∧ x ≤ v ∧ -v ≤ x := by
  unfold rightC
  simp only [Bool.and_eq_true, decide_eq_true_eq, Bool.not_eq_true', List.any_eq_false, Bool.not_eq_true]
  constructor
  · rintro ⟨⟨⟨h1, h2⟩, h3⟩, h4⟩
    exact ⟨h1, h2, h3, fun l hl x hx => oddX_no.1 (h4 l hl x hx)⟩
  · rintro ⟨h1, h2, h3, h4⟩
    exact ⟨⟨⟨h1, h2⟩, h3⟩, fun l hl x hx => oddX_no.2 (h4 l hl x hx)⟩
end Go.Proofs.Ytbkmgblijncjhaa

namespace Go.Proofs.Ytbkmgblijncjhaa
open Go.RowKit Go.Maps

/-- The slice at A holds slices that read as these lists; all lies below block B. -/
def Cls (w : World) (B : Nat) (A : Option Addr) (cs : List (List Int)) : Prop :=
  ∀ i x, cs[i]? = some x → ∃ b o D d, A = some ⟨b, o, none⟩ ∧ b < B ∧ w.cell? ⟨b, o + i, none⟩ = some (.slice D x.length d) ∧ x.length ≤ d ∧ Vals w B D (i64s x)

section
variable {w w' : World} {B B' : Nat} {A : Option Addr} {cs : List (List Int)}
theorem Cls.nil : Cls w B A [] := fun i p h => by simp at h
theorem Cls.below (h : Cls w B A cs) (hb : Below B w w') : Cls w' B A cs := fun i x hi => by
  obtain ⟨b, o, D, d, e, hlt, hc, hd, hv⟩ := h i x hi
  exact ⟨b, o, D, d, e, hlt, by rw [(bcell hb).1 _ _ hlt, hc], hd, hv.below hb⟩
theorem Cls.more (h : Cls w B A cs) (hB : B ≤ B') : Cls w B' A cs := fun i x hi => by
  obtain ⟨b, o, D, d, e, hlt, hc, hd, hv⟩ := h i x hi
  exact ⟨b, o, D, d, e, Nat.lt_of_lt_of_le hlt hB, hc, hd, hv.more hB⟩
theorem Cls.after (h : Cls w w.heap.size A cs) (hb : Below w.heap.size w w') : Cls w' w'.heap.size A cs := (h.below hb).more hb.size
theorem Cls.none_ (h : Cls w B A cs) (hA : A = none) : cs = [] := by
  subst hA
  match cs with
  | [] => rfl
  | x :: r =>
    obtain ⟨_, _, _, _, e, _⟩ := h 0 x rfl
    cases e
end

/-- What a Cnf as a value reads as. -/
structure CnfV (w : World) (v : Int) (cs : List (List Int)) (A : Option Addr) (c : Nat) : Prop where
  cls : Cls w w.heap.size A cs
  cap : cs.length ≤ c
theorem CnfV.after {w w' : World} {v : Int} {cs : List (List Int)} {A : Option Addr} {c : Nat} (h : CnfV w v cs A c) (hb : Below w.heap.size w w') : CnfV w' v cs A c := ⟨h.cls.after hb, h.cap⟩
end Go.Proofs.Ytbkmgblijncjhaa

namespace Go.Proofs.Ytbkmgblijncjhaa
open Go.ChangeShapes Go.WideShapes Go.ChangeAt Go.RowKit Go.Joins Go.Deep

section
variable {H : Type} {enc : TypeId × Value → H} {W : World} {v : Value} {d : DataW H} {p : List MemPlace} {base : Nat}

set_option maxRecDepth 100000 in
theorem open_u16s (hv : Value.okWide Try.prog W .any base 34 v) (h : DataW.Trod enc Try.prog W 0 (fun _ => true) true 34 v d p) (hz : ∀ n ∈ d.weights Try.prog 34, n ≤ reachBytes) :
    ∃ (xs : List Int) (A : Option Addr) (c : Nat), v = .slice A xs.length c ∧ (∀ x ∈ xs, 0 ≤ x ∧ x ≤ 65535) ∧ xs.length ≤ c ∧ c ≤ 70368744177664 ∧ Vals W W.heap.size A (xs.map (.int .u16 ·)) := by
  obtain ⟨xs, A, c, h1, h2, h3, h4, h5⟩ := open_ones (.int .u16 ·) (fun x => 0 ≤ x ∧ x ≤ 65535) Try.underlying34 (by kernel_rfl) (fun n u y hy => by
    obtain ⟨k, hk, _, wk⟩ := DataW.trod_int Try.underlying72 hy
    simp at hk
    exact ⟨k, hk, bounds_u16 wk⟩) hv h hz
  have hbt : Try.prog.bytesOf 72 = 2 := by kernel_rfl
  rw [hbt] at h4
  exact ⟨xs, A, c, h1, h2, h3, by unfold reachBytes at h4; omega, h5⟩

set_option maxRecDepth 100000 in
theorem open_i64s (hv : Value.okWide Try.prog W .any base 25 v) (h : DataW.Trod enc Try.prog W 0 (fun _ => true) true 25 v d p) (hz : ∀ n ∈ d.weights Try.prog 25, n ≤ reachBytes) :
    ∃ (xs : List Int) (A : Option Addr) (c : Nat), v = .slice A xs.length c ∧ (∀ x ∈ xs, -9223372036854775808 ≤ x ∧ x ≤ 9223372036854775807) ∧ xs.length ≤ c ∧ c ≤ 17592186044416 ∧ Vals W W.heap.size A (xs.map (.int .i64 ·)) := by
  obtain ⟨xs, A, c, h1, h2, h3, h4, h5⟩ := open_ones (.int .i64 ·) (fun x => -9223372036854775808 ≤ x ∧ x ≤ 9223372036854775807) Try.underlying25 (by kernel_rfl) (fun n u y hy => by
    obtain ⟨k, hk, _, wk⟩ := DataW.trod_int Try.underlying3 hy
    simp at hk
    exact ⟨k, hk, bounds_i64 wk⟩) hv h hz
  have hbt : Try.prog.bytesOf 3 = 8 := by kernel_rfl
  rw [hbt] at h4
  exact ⟨xs, A, c, h1, h2, h3, by unfold reachBytes at h4; omega, h5⟩

set_option maxRecDepth 100000 in
theorem open_cnf (hv : Value.okWide Try.prog W .any base 24 v) (h : DataW.Trod enc Try.prog W 0 (fun _ => true) true 24 v d p) (hz : ∀ n ∈ d.weights Try.prog 24, n ≤ reachBytes) :
    ∃ (V : Int) (cs : List (List Int)) (A : Option Addr) (c : Nat), v = .agg #[.int .i64 V, .slice A cs.length c] ∧ (∀ x ∈ cs, x.length ≤ 140737488355328) ∧ cs.length ≤ 140737488355328 ∧ Cls W W.heap.size A cs ∧ cs.length ≤ c := by
  obtain ⟨v0, v1, y0, y1, n, rfl, rfl, rfl, h0, h1⟩ := open_agg2 Try.underlying24 (by kernel_rfl) (by kernel_rfl) hv h
  obtain ⟨k, hk, _, wk⟩ := DataW.trod_int Try.underlying3 h0
  injection hk with hk
  subst hk
  have hbt : Try.prog.bytesOf 25 = 24 := by kernel_rfl
  have hbi : Try.prog.bytesOf 3 = 8 := by kernel_rfl
  rcases Go.Deep.open_slice1 Try.underlying22 (by kernel_rfl) h1 with ⟨hs, _⟩ | ⟨a, len, cap, m, n', V, D, Pl, hs, _, hl, _, hm, hx, hi⟩
  · injection hs with hs
    subst hs
    exact ⟨k, [], none, 0, rfl, fun x hx => by simp at hx, Nat.zero_le _, Cls.nil, Nat.zero_le _⟩
  · injection hs with hs
    subst hs
    have hm' : m = cap := by simpa using hm
    subst hm'
    have hzi : ∀ i, i < len → ∀ n ∈ (D i).weights Try.prog 25, n ≤ reachBytes := fun i hil n hn => by
      refine hz n ?_
      have : n ∈ DataW.weightsAll Try.prog 25 ((List.range len).map D) := mem_weightsAll (List.mem_map.2 ⟨i, List.mem_range.2 hil, rfl⟩) hn
      simp [DataW.weights, Try.underlying24, Try.underlying22, DataW.weightsEach, hx]
      exact .inr (.inr (.inl this))
    have hsz : m * 24 ≤ reachBytes := by
      refine hz _ ?_
      simp [DataW.weights, Try.underlying24, Try.underlying22, DataW.weightsEach, hx, hbt]
      refine .inr (.inl ?_)
      omega
    obtain ⟨l, hll, hlq⟩ := list_of (Q := fun i (x : List Int) => x.length ≤ 140737488355328 ∧ ∃ A' c', x.length ≤ c' ∧ W.cell? (a.add i) = some (.slice A' x.length c') ∧ Vals W W.heap.size A' (x.map (.int .i64 ·))) len fun i hil => by
      obtain ⟨hcell, ht'⟩ := hi i (by omega)
      obtain ⟨xs, A', c', e1, _, e3, e4, e5⟩ := open_ones_cell (.int .i64 ·) (fun _ => True) Try.underlying25 (by kernel_rfl) (fun n u y hy => by
        obtain ⟨k, hk, _, wk⟩ := DataW.trod_int Try.underlying3 hy
        simp at hk
        exact ⟨k, hk, trivial⟩) ht' (hzi i hil)
      rw [hbi] at e4
      refine ⟨xs, by unfold reachBytes at e4; omega, A', c', e3, by rw [hcell, e1], e5⟩
    refine ⟨k, l, some a, m, by rw [hll], fun x hx => ?_, by unfold reachBytes at hsz; omega, fun i x hx => ?_, by omega⟩
    · obtain ⟨i, hi'⟩ := List.getElem?_of_mem hx
      exact (hlq i x hi').1
    · obtain ⟨_, A', c', q0, q1, q2⟩ := hlq i x hx
      have hil : i < l.length := (List.getElem?_eq_some_iff.1 hx).1
      obtain ⟨_, _, _, _, q3, _⟩ := hlq 0 _ (List.getElem?_eq_getElem (by omega))
      have ha := spot_none q3
      rw [ha, Addr.add_lit] at q1
      exact ⟨a.block, a.off, A', c', by rw [← ha], block_lt_of_cell (a := ⟨a.block, a.off + i, none⟩) q1, q1, q0, q2⟩
end
end Go.Proofs.Ytbkmgblijncjhaa

set_option linter.unusedVariables false
set_option linter.unusedSimpArgs false
namespace Go.Proofs.Ytbkmgblijncjhaa

theorem any_take {α : Type} {p : α → Bool} {l : List α} {k : Nat} (h : ∀ i x, i < k → l[i]? = some x → p x = false) (hk : l.length ≤ k) : l.any p = false := by
  rw [List.any_eq_false]
  intro x hx
  obtain ⟨i, hi⟩ := List.getElem?_of_mem hx
  have := (List.getElem?_eq_some_iff.1 hi).1
  rw [h i x (by omega) hi]
  decide
theorem any_at {α : Type} {p : α → Bool} {l : List α} {k : Nat} {x : α} (h : l[k]? = some x) (hx : p x = true) : l.any p = true :=
  List.any_eq_true.2 ⟨x, List.mem_of_getElem? h, hx⟩
end Go.Proofs.Ytbkmgblijncjhaa

set_option linter.unusedVariables false
set_option linter.unusedSimpArgs false
namespace Go.Proofs.Ytbkmgblijncjhaa
open Go.RowKit Go.Maps

/-- Truth values as cells. -/
def bools (xs : List Bool) : List Value := xs.map (.bool ·)

theorem bools_length (xs : List Bool) : (bools xs).length = xs.length := by simp [bools]
theorem bools_snoc (xs : List Bool) (x : Bool) : bools (xs ++ [x]) = bools xs ++ [.bool x] := by simp [bools]
theorem bools_append (xs ys : List Bool) : bools (xs ++ ys) = bools xs ++ bools ys := by simp [bools]
theorem bools_one (xs : List Bool) : ∀ u ∈ bools xs, u.oneCell' = true := by
  intro u hu
  obtain ⟨x, _, rfl⟩ := List.mem_map.1 hu
  rfl

theorem bools_get {xs : List Bool} {i : Nat} {x : Bool} (h : xs[i]? = some x) : (bools xs)[i]? = some (.bool x) := by
  unfold bools
  rw [List.getElem?_map, h]
  rfl

theorem bools_set1 (m : List Bool) (K : Nat) (b : Bool) : bools (m.set K b) = (bools m).set K (.bool b) := by simp [bools, List.map_set]
end Go.Proofs.Ytbkmgblijncjhaa

namespace Go.Proofs.Ytbkmgblijncjhaa
open Go.RowKit Go.Maps

/-- All that stood when the call began stands. -/
structure Low (w0 w : World) : Prop where
  b : Below w0.heap.size w0 w

section
variable {w0 w w' : World} {B : Option Addr} {b : Nat} {t e : TypeId} {cs : Array Value} {ps : List Pr} {xs : List Value} {base sz n : Nat} {v : Value}
theorem Low.refl (w : World) : Low w w := ⟨Below.refl _ _⟩
theorem Low.step (h : Low w0 w) (hb : Below w.heap.size w w') : Low w0 w' := ⟨below2 h.b h.b.size hb⟩
theorem Low.grown (h : Low w0 w) {row : Option Nat} (hg : w.grownBy w' row) (hr : ∀ k, row = some k → w0.heap.size ≤ k) : Low w0 w' := ⟨h.b.grown hg h.b.size hr⟩
theorem Low.size (h : Low w0 w) : w0.heap.size ≤ w.heap.size := h.b.size
/-- A slice of pairs. -/
structure PrsF (w : World) (A : Option Addr) (ps : List Pr) : Prop where
  p : Prs w w.heap.size A ps
structure ValsF (w : World) (A : Option Addr) (xs : List Value) : Prop where
  p : Vals w w.heap.size A xs
structure OwnF (w : World) (base : Nat) (e : TypeId) (size : Nat) (v : Value) (n : Nat) (xs : List Value) : Prop where
  p : w.ownsRow base e size v n xs
structure BlkF (w : World) (g : Nat) (t : TypeId) (cs : Array Value) : Prop where
  p : Blk w g t cs
theorem PrsF.step (h : PrsF w B ps) (hb : Below w.heap.size w w') : PrsF w' B ps := ⟨h.p.after hb⟩
theorem ValsF.step (h : ValsF w B xs) (hb : Below w.heap.size w w') : ValsF w' B xs := ⟨h.p.after hb⟩
theorem OwnF.step (h : OwnF w base e sz v n xs) (hb : Below w.heap.size w w') : OwnF w' base e sz v n xs := ⟨own_below h.p hb⟩
theorem BlkF.step (h : BlkF w b t cs) (hb : Below w.heap.size w w') : BlkF w' b t cs := ⟨h.p.below hb h.p.lt⟩
theorem BlkF.new (w : World) (t : TypeId) (cs : Array Value) : BlkF (w.alloc (.cells cs t)) w.heap.size t cs := ⟨Blk.new w t cs⟩
theorem BlkF.cell (h : BlkF w b t cs) (i : Nat) : w.cell? ⟨b, i, none⟩ = cs[i]? := h.p.cell i
/-- A step that makes a block. -/
theorem stepA (w : World) (o : Obj) : Below w.heap.size w (w.alloc o) := (Below.refl _ _).alloc (Nat.le_refl _) o
theorem stepD (w : World) (n : Nat) : Below w.heap.size w (w.drewN n) := below_drewN (Below.refl _ _) n
theorem stepD1 (w : World) : Below w.heap.size w w.drew := (Below.refl _ _).drew
/-- One step behind another. -/
theorem step2 {w w1 w2 : World} (h : Below w.heap.size w w1) (h' : Below w1.heap.size w1 w2) : Below w.heap.size w w2 := below2 h h.size h'

/-- A row of the call's own is not a block of another type. -/
theorem own_ne {base' sz' n' : Nat} {v' : Value} {xs' : List Value} (h : w.ownsRow base' e sz' v' n' xs') (hb : Blk w b t cs) (hne : e ≠ t) : ∀ k, v'.ownBlock = some k → k ≠ b := by
  intro k hk
  rcases h.2 with ⟨rfl, _⟩ | ⟨g, cap, cur, rfl, hg, hh, _⟩
  · simp [Value.ownBlock] at hk
  · simp [Value.ownBlock] at hk
    subst hk
    rintro rfl
    unfold Blk at hb
    rw [hb] at hh
    injection hh with hh
    injection hh with _ h2
    exact hne h2.symm
/-- A store into a block of another type keeps the row. -/
theorem own_set {base' sz' n' : Nat} {v' : Value} {xs' : List Value} (h : w.ownsRow base' e sz' v' n' xs') (hb : Blk w b t cs) (hne : e ≠ t) (i : Nat) (u : Value) : (w.setCell ⟨b, i, none⟩ u).ownsRow base' e sz' v' n' xs' := by
  refine h.kept (grown_set (g := b) (World.grownBy.refl w _) i u) ?_
  cases hv : v'.ownBlock with
  | none => exact .inl rfl
  | some k => exact .inr (fun e' => own_ne h hb hne k hv (by injection e'))

/-- Two rows of the call's own that share no block. -/
def Apart (v u : Value) : Prop := ∀ k, v.ownBlock = some k → u.ownBlock ≠ some k
theorem Apart.symm {v u : Value} (h : Apart v u) : Apart u v := fun k hu hv => h k hv hu
theorem Apart.nil_ {u : Value} : Apart (.slice none 0 0) u := fun k hk => by simp [Value.ownBlock] at hk
theorem own_beside {base' sz' n' : Nat} {u v v' : Value} {xs' : List Value} (hu : w.ownsRow base' e sz' u n' xs') (hap : Apart v u) (hg : w.grownBy w' v.ownBlock) (hat : v'.ownBlock = v.ownBlock ∨ v'.ownBlock = some w.heap.size) :
    w'.ownsRow base' e sz' u n' xs' ∧ Apart v' u := by
  constructor
  · refine hu.kept hg ?_
    cases hk : u.ownBlock with
    | none => exact .inl rfl
    | some k => exact .inr (fun e' => hap k e'.symm hk)
  · intro k hk huk
    rcases hat with h | h
    · rw [h] at hk
      exact hap k hk huk
    · rw [h] at hk
      injection hk with hk
      have := (hu.lt k huk).2
      omega

/-- A cell of a block that is not the grown one. -/
theorem grown_cell {g o : Nat} {u : Value} {row : Option Nat} (hg : w.grownBy w' row) (hc : w.cell? ⟨g, o, none⟩ = some u) (hr : ∀ k, row = some k → k ≠ g) : w'.cell? ⟨g, o, none⟩ = some u := by
  rw [World.cell?_of_block (w := w) (hg.block g (block_lt_of_cell hc) (fun e => hr g e.symm rfl))]
  exact hc

/-- Growing a row of the call's own keeps what lies in other blocks. -/
theorem Blk.by_ (h : Blk w b t cs) {row : Option Nat} (hg : w.grownBy w' row) (hr : ∀ k, row = some k → k ≠ b) : Blk w' b t cs := h.grown hg (fun e => hr b e.symm rfl)
theorem Prs.grown (h : Prs w base B ps) {row : Option Nat} (hB : base ≤ w.heap.size) (hg : w.grownBy w' row) (hr : ∀ k, row = some k → base ≤ k) : Prs w' base B ps :=
  h.below ((Below.refl base w).grown hg hB hr)
theorem Vals.grown (h : Vals w base B xs) {row : Option Nat} (hB : base ≤ w.heap.size) (hg : w.grownBy w' row) (hr : ∀ k, row = some k → base ≤ k) : Vals w' base B xs :=
  h.below ((Below.refl base w).grown hg hB hr)
end

theorem vals_of_blk {W : World} {b : Nat} {t : TypeId} {xs : List Value} (h : Blk W b t xs.toArray) : Vals W W.heap.size (some ⟨b, 0, none⟩) xs := fun i x hi => by
  refine ⟨b, 0, rfl, h.lt, ?_⟩
  rw [h.cell (0 + i)]
  simpa using hi
theorem blk_put {W : World} {b D : Nat} {t : TypeId} {cs : Array Value} {o o' : Obj} (h : Blk W b t cs) (hD : W.heap[D]? = some o) (ho : o.isCells = false) : Blk (W.putObj D o') b t cs := by
  have hne : b ≠ D := by
    rintro rfl
    unfold Blk at h
    rw [hD] at h
    cases h
    cases ho
  exact (World.putObj_heap_other hne).trans h
end Go.Proofs.Ytbkmgblijncjhaa

namespace Go.Proofs.Ytbkmgblijncjhaa
open Go.RowKit Go

section
variable {P : Program} {ops : Array Oper} {Q : Exit → Act → World → Prop} {md : Region.Mode} {S : World → Prop} {late mov : Nat → Bool}

/-- Whatever order is picked from here on; S holds behind every operation that is not late. -/
def wpAnyL (P : Program) (md : Region.Mode) (ops : Array Oper) (Q : Exit → Act → World → Prop) (S : World → Prop) (late : Nat → Bool) : Nat → Array Bool → Act → World → Prop
  | 0, listed, a, w => Region.ready md ops listed = [] ∧ Q .normal a w
  | fuel + 1, listed, a, w =>
    (Region.ready md ops listed = [] → Q .normal a w) ∧
    ∀ i ∈ Region.ready md ops listed, wpOp P ops Q i (fun a' w' => (late i = false → S w') ∧ wpAnyL P md ops Q S late fuel (listed.setIfInBounds i true) a' w') a w

theorem wpAny_of_L : ∀ (fuel : Nat) (listed : Array Bool) (a : Act) (w : World), wpAnyL P md ops Q S late fuel listed a w → wpAny P md ops Q fuel listed a w
  | 0, _, _, _, h => h
  | fuel + 1, _, _, _, h => ⟨h.1, fun i hi => wpOp_mono (fun a' w' h' => wpAny_of_L fuel _ a' w' h'.2) (h.2 i hi)⟩

theorem wpAnyL_first {i : Nat} {oi : Oper} {v : Value} (hi : ops[i]? = some oi) (hsel : ∀ (j : Nat) (o : Oper) cs b, ops[j]? = some o → o.op ≠ .select cs b)
    (hQ : ∀ c a w, Q (.panic c) (a.put oi.dst v) w → Q (.panic c) a w)
    (hlate : ∀ j, late j = true → Region.waitsFor md ops j i = true) :
    ∀ (fuel : Nat) (listed : Array Bool) (a : Act) (w : World),
      (∀ j oj, ops[j]? = some oj → j ≠ i → listed.getD j true = false → (∀ e ∈ oj.after, Region.binds md e = true → e.on ≠ i) → oi.apart ops oj = true) →
      i ∈ Region.ready md ops listed → YieldsIf P ops S oi v a → S w →
      wpAnyL P md ops Q S late fuel (listed.setIfInBounds i true) (a.put oi.dst v) w → wpAnyL P md ops Q S late (fuel + 1) listed a w := by
  intro fuel
  induction fuel with
  | zero =>
    intro listed a w _ hr hy hS H
    refine ⟨fun h => (by rw [h] at hr; cases hr), fun j hj => ?_⟩
    by_cases hji : j = i
    · subst hji; exact hy.wpOp hi hS ⟨fun _ => hS, H⟩
    · have := ready_mono hj hji
      rw [H.1] at this
      cases this
  | succ fuel ih =>
    intro listed a w hfree hr hy hS H
    refine ⟨fun h => (by rw [h] at hr; cases hr), fun j hj => ?_⟩
    by_cases hji : j = i
    · subst hji; exact hy.wpOp hi hS ⟨fun _ => hS, H⟩
    · have h1 := H.2 j (ready_mono hj hji)
      obtain ⟨hjun, oj, hoj, hall⟩ := mem_ready.1 hj
      have hnot : ∀ e ∈ oj.after, Region.binds md e = true → e.on ≠ i := fun e he hb heq => by
        have h1 := hall e he hb
        have h0 := (mem_ready.1 hr).1
        rw [heq] at h1
        rcases Nat.lt_or_ge i listed.size with h' | h'
        · simp [h'] at h0 h1; rw [h0] at h1; cases h1
        · simp [Array.getElem?_eq_none h'] at h1
      have hl : late j = false := by
        cases hl : late j with
        | false => rfl
        | true =>
          obtain ⟨o2, ho2, e, he, hb, heq⟩ := Region.waitsFor_spec (hlate j hl)
          rw [hoj] at ho2
          cases ho2
          exact absurd heq (hnot e he hb)
      have h2 := wpOp_putIf hoj (hfree j oj hoj hji hjun hnot) (fun cs b => hsel i oi cs b hi) (fun cs b => hsel j oj cs b hoj) hQ hy h1
      have hfree' : ∀ k ok, ops[k]? = some ok → k ≠ i → (listed.setIfInBounds j true).getD k true = false →
          (∀ e ∈ ok.after, Region.binds md e = true → e.on ≠ i) → oi.apart ops ok = true := fun k ok hk hki hun hno => by
        refine hfree k ok hk hki ?_ hno
        by_cases hjk : j = k
        · subst hjk; exact hjun
        · rw [getD_set_ne true hjk] at hun; exact hun
      refine wpOp_mono (fun a' w' h3 => ⟨h3.2.1, ih (listed.setIfInBounds j true) a' w' hfree' (ready_mono hr (Ne.symm hji)) h3.1 (h3.2.1 hl) ?_⟩) h2
      rw [Array.setIfInBounds_comm _ _ hji]
      exact h3.2.2

/-- The region's operations in an order of ours. -/
def wpSeq (P : Program) (ops : Array Oper) (Q : Exit → Act → World → Prop) (S : World → Prop) (mov late : Nat → Bool) : List Nat → Act → World → Prop
  | [], a, w => Q .normal a w
  | i :: is, a, w =>
    (mov i = true ∧ ∃ o v, ops[i]? = some o ∧ YieldsIf P ops S o v a ∧ wpSeq P ops Q S mov late is (a.put o.dst v) w) ∨
    (mov i = false ∧ wpOp P ops Q i (fun a' w' => (late i = false → S w') ∧ wpSeq P ops Q S mov late is a' w') a w)

/-- Is our order one that serves? -/
def seqB (md : Region.Mode) (ops : Array Oper) (mov late : Nat → Bool) : Bool → List Nat → Array Bool → Bool
  | _, [], listed => (Region.ready md ops listed).isEmpty
  | f, i :: is, listed =>
    bif mov i then f && ((Region.ready md ops listed).contains i && (Region.free md ops listed i && ((List.range ops.size).all (fun j => !late j || Region.waitsFor md ops j i) && seqB md ops mov late f is (listed.setIfInBounds i true))))
    else (Region.ready md ops listed == [i]) && seqB md ops mov late (f && !late i) is (listed.setIfInBounds i true)

theorem wpAnyL_seq (hsel : Region.noSelect ops = true) (hlt : ∀ j, late j = true → j < ops.size) (hQ : ∀ c a d v w, Q (.panic c) (Act.put a d v) w → Q (.panic c) a w) :
    ∀ (is : List Nat) (f : Bool) (listed : Array Bool) (a : Act) (w : World), seqB md ops mov late f is listed = true → (f = true → S w) → wpSeq P ops Q S mov late is a w → wpAnyL P md ops Q S late is.length listed a w
  | [], f, listed, a, w, hb, _, h => ⟨by simpa [seqB] using hb, h⟩
  | i :: is, f, listed, a, w, hb, hf, h => by
    rcases h with ⟨hm, o, v, ho, hy, h⟩ | ⟨hm, h⟩
    · rw [seqB, hm] at hb
      simp only [cond_true, Bool.and_eq_true] at hb
      obtain ⟨hf1, hr, hfr, hl, hb⟩ := hb
      refine wpAnyL_first ho (Region.noSelect_spec hsel) (fun c a w h => hQ c a _ v w h) (fun j hj => ?_) is.length listed a w (Region.free_spec ho hfr) (by simpa using hr) hy (hf hf1) ?_
      · have := List.all_eq_true.1 hl j (List.mem_range.2 (hlt j hj))
        rw [hj] at this
        simpa using this
      · exact wpAnyL_seq hsel hlt hQ is f _ _ _ hb hf h
    · rw [seqB, hm] at hb
      simp only [cond_false, Bool.and_eq_true, beq_iff_eq] at hb
      obtain ⟨hr, hb⟩ := hb
      refine ⟨fun h0 => (by rw [hr] at h0; cases h0), fun j hj => ?_⟩
      rw [hr] at hj
      obtain rfl : j = i := by simpa using hj
      refine wpOp_mono (fun a' w' h3 => ⟨h3.1, wpAnyL_seq hsel hlt hQ is (f && !late j) _ a' w' hb (fun h4 => ?_) h3.2⟩) h
      simp only [Bool.and_eq_true, Bool.not_eq_true'] at h4
      exact h3.1 h4.2

/-- A walk with fuel to spare. -/
theorem wpAny_fuel : ∀ (fuel k : Nat) (listed : Array Bool) (a : Act) (w : World), wpAny P md ops Q fuel listed a w → wpAny P md ops Q (fuel + k) listed a w
  | 0, 0, _, _, _, h => h
  | 0, k + 1, listed, a, w, h => by
    rw [Nat.zero_add]
    exact ⟨fun _ => h.2, fun i hi => by rw [h.1] at hi; cases hi⟩
  | fuel + 1, k, listed, a, w, h => by
    rw [Nat.add_right_comm]
    exact ⟨h.1, fun i hi => wpOp_mono (fun a' w' h' => wpAny_fuel fuel k _ a' w' h') (h.2 i hi)⟩

theorem wp_region_seq {id : Nat} {a : Act} {w : World} (S : World → Prop) (order movs lates : List Nat) (hm : P.follows .mixedOrders = true) (hsel : Region.noSelect ops = true)
    (hn : order.length = ops.size) (hlt : lates.all (fun j => decide (j < ops.size)) = true)
    (hb : seqB .any ops (fun i => movs.contains i) (fun i => lates.contains i) true order (Array.replicate ops.size false) = true)
    (hQ : ∀ c a d v w, Q (.panic c) (Act.put a d v) w → Q (.panic c) a w)
    (hS : S w.drew) (h : S w.drew → wpSeq P ops Q S (fun i => movs.contains i) (fun i => lates.contains i) order a w.drew) : (Code.region id ops true).wp P Q a w := by
  refine wp_region_any hm (wpAny_of_L (S := S) (late := fun i => lates.contains i) _ _ _ _ ?_)
  rw [← hn]
  refine wpAnyL_seq (mov := fun i => movs.contains i) hsel (fun j hj => ?_) hQ order true _ a _ (by rw [hn]; exact hb) (fun _ => hS) (h hS)
  have := List.all_eq_true.1 hlt j (by simpa using hj)
  simpa using this

theorem wpSeq_done {a : Act} {w : World} (h : Q .normal a w) : wpSeq P ops (NoPanic Q) S mov late [] a w := NoPanic.normal h
theorem wpSeq_mov {i : Nat} {is : List Nat} {a : Act} {w : World} (hm : mov i = true) (hi : (ops[i]?).isSome = true) (h : ∀ o, ops[i]? = some o → ∃ v, YieldsIf P ops S o v a ∧ wpSeq P ops Q S mov late is (a.put o.dst v) w) : wpSeq P ops Q S mov late (i :: is) a w := by
  obtain ⟨o, ho⟩ := Option.isSome_iff_exists.1 hi
  obtain ⟨v, hy, h⟩ := h o ho
  exact .inl ⟨hm, o, v, ho, hy, h⟩
theorem wpSeq_fix {i : Nat} {is : List Nat} {a : Act} {w : World} (hm : mov i = false) (hi : (ops[i]?).isSome = true)
    (h : ∀ o, ops[i]? = some o → ∀ K' : Act → World → Prop, Shut (∀ a w, (late i = false → S w) → wpSeq P ops Q S mov late is a w → K' a w) → if Region.wanted o (yielded ops a.tmps) = true then Oper.wp P o a w K' Q else K' (a.put o.dst undef) w) : wpSeq P ops Q S mov late (i :: is) a w := by
  obtain ⟨o, ho⟩ := Option.isSome_iff_exists.1 hi
  exact .inr ⟨hm, wpOp_step ho (fun K' hK => h o ho K' (fun a w h1 h2 => hK a w ⟨h1, h2⟩))⟩
end
end Go.Proofs.Ytbkmgblijncjhaa

namespace Go.Proofs.Ytbkmgblijncjhaa
open Go.RowKit

theorem own_block {w : World} {base : Nat} {e : TypeId} {size n : Nat} {v : Value} {xs : List Value} (h : w.ownsRow base e size v n xs) : ∀ k, v.ownBlock = some k → base ≤ k := by
  intro k hk
  rcases h.2 with ⟨rfl, _⟩ | ⟨g, cap, cur, rfl, hg, _⟩
  · simp [Value.ownBlock] at hk
  · simp [Value.ownBlock] at hk
    omega

section
variable {P : Program} (w : World)

theorem run_append_nil_src (base : Nat) (t ty e : TypeId) (i : TypeInfo) (size : Nat) (ht : P.underlying t = some (.slice e)) (hi : P.info? e = some i)
    (v : Value) (n : Nat) (xs : List Value) (hown : w.ownsRow base e size v n xs) (c : Nat) : (Builtin.append_ #[t, t] ty #[v, .slice none 0 c]).run P w = .ok v w := by
  rcases hown.2 with ⟨rfl, rfl⟩ | ⟨g, cap, cur, rfl, _, _, hnc, _⟩
  · simp [Builtin.append_, run_underlying ht, sizeOf, typeInfo, hi, Builtin.lenOf, Builtin.firstCells]
  · simp [Builtin.append_, run_underlying ht, sizeOf, typeInfo, hi, Builtin.lenOf, Builtin.firstCells, hnc, storeCells]

theorem wpList_append_vals {ops : Array Oper} {rest : List Oper} {o : Oper} {a : Act} {Q : Exit → Act → World → Prop} (hgd : o.guard = none) (s x : Operand) (t : TypeId)
    (ho : o.op = .call { callee := .builtin .append, args := #[s, x], argTypes := #[t, t] })
    (base : Nat) (e : TypeId) (i : TypeInfo) (z : Value) (size bytes : Nat) (ht : P.underlying t = some (.slice e)) (hi : P.info? e = some i) (hz : i.zero = some z)
    (hsize : i.size = size) (hby : i.bytes = bytes) (hzs : z.cells.size = size) (hsz : 0 < size)
    (v : Value) (n : Nat) (xs : List Value) (hs : a.eval s = v) (hown : w.ownsRow base e size v n xs)
    (B : Nat) (A : Option Addr) (m c : Nat) (news : List Value) (hx : a.eval x = .slice A m c) (hl : news.length = m * size) (hnews : Vals w B A news) (h1 : ∀ u ∈ news, u.oneCell' = true)
    (h63 : n + m ≤ maxLen) (hbytes : (n + m) * bytes ≤ 140737488355328) (hbase : base ≤ w.heap.size)
    (h : ∀ v' w', w'.ownsRow base e size v' (n + m) (xs ++ news) → w.grownBy w' v.ownBlock → wpList P ops Q rest (a.put o.dst v') w') : wpList P ops Q (o :: rest) a w := by
  cases A with
  | none =>
    have hn := hnews.none_ rfl
    subst hn
    have hm : m = 0 := by
      have h0 : 0 = m * size := by simpa using hl
      rcases Nat.eq_zero_or_pos m with hz | hz
      · exact hz
      · have := Nat.mul_pos hz hsz
        omega
    subst hm
    refine wpList_plain hgd fun K hK => ?_
    have hrun := run_append_nil_src (P := P) w base t o.type e i size ht hi v n xs hown c
    unfold Oper.wp execOp
    simp only [ho, resolve, invoke, builtin, Sem.run_bind, Sem.run_pure, Result.andThen_ok, List.map_toArray, List.map_cons, List.map_nil, hs, hx, hrun]
    exact hK _ _ (h v w (by simpa using hown) (World.grownBy.refl w _))
  | some ad =>
    exact wpList_append_own w hgd s x t ho base e i z size bytes ht hi hz hsize hby hzs hsz v n xs hs hown ad m c news hx hl (hnews.cells ad rfl) h1 h63 hbytes hbase fun v' w' h2 h3 _ => h v' w' h2 h3
end

theorem vals_new (w : World) (xs : List Value) (e : TypeId) : Vals (w.alloc (.cells xs.toArray e)) (w.heap.size + 1) (some ⟨w.heap.size, 0, none⟩) xs := fun i x hi => by
  refine ⟨w.heap.size, 0, rfl, by omega, ?_⟩
  rw [cell_of_row (w.alloc (.cells xs.toArray e)) w.heap.size (0 + i) xs.toArray e (0, 0) (heap_alloc_new w _)]
  simpa using hi
end Go.Proofs.Ytbkmgblijncjhaa

set_option linter.unusedVariables false
set_option linter.unusedSimpArgs false
namespace Go.Proofs.Ytbkmgblijncjhaa
open Go.RowKit Go.Maps

theorem Vals.set_ {w : World} {B g K : Nat} {xs : List Value} {u : Value} (h : Vals w B (some ⟨g, 0, none⟩) xs) (hK : K < xs.length) : Vals (w.setCell ⟨g, K, none⟩ u) B (some ⟨g, 0, none⟩) (xs.set K u) := fun i x hi => by
  by_cases e : i = K
  · subst e
    rw [List.getElem?_set_self hK] at hi
    cases hi
    obtain ⟨b, o, e1, hb, hc⟩ := h i _ (List.getElem?_eq_getElem hK)
    cases e1
    refine ⟨g, 0, rfl, hb, ?_⟩
    rw [Nat.zero_add] at hc ⊢
    exact World.cell?_setCell_same _ _ _ hc
  · rw [List.getElem?_set_ne (fun e' => e e'.symm)] at hi
    obtain ⟨b, o, e1, hb, hc⟩ := h i _ hi
    cases e1
    refine ⟨g, 0, rfl, hb, ?_⟩
    rw [World.cell?_setCell_other _ _ _ _ (by first | (simp; done) | (simp; omega))]
    exact hc
theorem own_block_of {w : World} {base : Nat} {e : TypeId} {n : Nat} {v : Value} {xs : List Value} (h : w.ownsRow base e 1 v n xs) (hn : 0 < n) : ∃ g c, v = .slice (some ⟨g, 0, none⟩) n c ∧ base ≤ g ∧ n ≤ c ∧ ∀ i, w.frozen? ⟨g, i, none⟩ = false := by
  rcases h.2 with ⟨_, h0⟩ | ⟨g, cap, cur, hv, hg, hh, hnc, hcm, hcs, htk⟩
  · omega
  · exact ⟨g, cap, hv, hg, hnc, fun i => Blk.frozen (t := e) (cs := cur) hh i⟩
theorem own_read {w : World} {base : Nat} {e : TypeId} {n : Nat} {v : Value} {xs : List Value} (h : w.ownsRow base e 1 v n xs) (hn : 0 < n) : ∃ g c, v = .slice (some ⟨g, 0, none⟩) n c ∧ base ≤ g ∧ n ≤ c ∧ (∀ i, w.frozen? ⟨g, i, none⟩ = false) ∧ Vals w w.heap.size (some ⟨g, 0, none⟩) xs := by
  obtain ⟨g, c, hv, h1, h2, h3⟩ := own_block_of h hn
  rw [hv] at h
  exact ⟨g, c, hv, h1, h2, h3, Vals.of_own h⟩
theorem Vals.cell0 {w : World} {B g k : Nat} {xs : List Value} {u : Value} (h : Vals w B (some ⟨g, 0, none⟩) xs) (hk : xs[k]? = some u) : w.cell? ⟨g, k, none⟩ = some u := by
  obtain ⟨b, o, e, _, hc⟩ := h k u hk
  cases e
  rw [Nat.zero_add] at hc
  exact hc
theorem grown_nil {w w' : World} {n c : Nat} (h : w.grownBy w' (Value.slice none n c).ownBlock) : Below w.heap.size w w' := (Below.refl _ _).grown h (Nat.le_refl _) (fun k hk => by simp [Value.ownBlock] at hk)

/-- A store into a row of the call's own. -/
theorem own_put {w : World} {base : Nat} {e : TypeId} {n c K : Nat} {Y : Option Addr} {xs : List Value} (h : w.ownsRow base e 1 (.slice Y n c) n xs) (hK : K < n) :
    ∃ g, Y = some ⟨g, 0, none⟩ ∧ base ≤ g ∧ (∀ i, w.frozen? ⟨g, i, none⟩ = false) ∧ (∃ u0, xs[K]? = some u0 ∧ w.cell? ⟨g, K, none⟩ = some u0) ∧ ∀ u, (w.setCell ⟨g, K, none⟩ u).ownsRow base e 1 (.slice Y n c) n (xs.set K u) := by
  have hlen := h.1
  rw [Nat.mul_one] at hlen
  have hV := Vals.of_own h
  rcases h.2 with ⟨_, h0⟩ | ⟨g, cap, cur, hv, hg, hh, hnc, hcm, hcs, htk⟩
  · omega
  · injection hv with hA _ hc
    subst hA hc
    have hB : Blk w g e cur := hh
    refine ⟨g, rfl, hg, fun i => hB.frozen i, ?_, fun u => ?_⟩
    · obtain ⟨b, o, e', _, hc⟩ := hV K _ (List.getElem?_eq_getElem (by omega))
      cases e'
      rw [Nat.zero_add] at hc
      exact ⟨_, List.getElem?_eq_getElem (by omega), hc⟩
    · refine ⟨by rw [List.length_set]; omega, .inr ⟨g, c, cur.setIfInBounds K u, rfl, hg, hB.set_ K u, hnc, hcm, by simpa using hcs, ?_⟩⟩
      rw [← htk]
      simp [List.take_set]
end Go.Proofs.Ytbkmgblijncjhaa

set_option linter.unusedVariables false
set_option linter.unusedSimpArgs false
namespace Go.Proofs.Ytbkmgblijncjhaa
open Go.RowKit Go.Maps

/-- An element reads as itself. -/
def selfElem (v : Value) : Option (DataW Value × List MemPlace) := some (.held v, [])

/-- Block b is a map of at most n entries; under a key lies what f says. -/
def GMap (P : Program) (k : TypeId) (w : World) (b n : Nat) (f : Lit → Option Value) : Prop :=
  ∃ D : DataW Value, w.ownsMap P k selfElem b n D ∧ IsMap D ∧ (∀ l, Maps.has D l = (f l).isSome) ∧ ∀ l v z, f l = some v → D.atKey l z = .held v

section
variable {P : Program} {k e t : TypeId} {w w' : World} {b n : Nat} {f : Lit → Option Value}

theorem GMap.made (P : Program) (k : TypeId) (w : World) : GMap P k (w.alloc (.map #[] 0)) w.heap.size 0 (fun _ => none) :=
  ⟨.map [], World.ownsMap_made _ _ _ _, isMap_empty, fun l => rfl, fun l v z h => by cases h⟩
theorem GMap.lt (h : GMap P k w b n f) : b < w.heap.size := by
  obtain ⟨D, ⟨es, clock, hb, _⟩, _⟩ := h
  exact (Array.getElem?_eq_some_iff.1 hb).1
theorem GMap.below {B : Nat} (h : GMap P k w b n f) (hb : Below B w w') (hB : b < B) : GMap P k w' b n f := by
  obtain ⟨D, ⟨es, clock, h1, r⟩, r2⟩ := h
  exact ⟨D, ⟨es, clock, (hb.block b hB).trans h1, r⟩, r2⟩
theorem GMap.after (h : GMap P k w b n f) (hb : Below w.heap.size w w') : GMap P k w' b n f := h.below hb h.lt
theorem GMap.same (h : GMap P k w b n f) (hb : w'.heap[b]? = w.heap[b]?) : GMap P k w' b n f := by
  obtain ⟨D, ⟨es, clock, h1, r⟩, r2⟩ := h
  exact ⟨D, ⟨es, clock, hb.trans h1, r⟩, r2⟩
theorem GMap.far (h : GMap P k w b n f) {p : Addr} (hp : b ≠ p.block) (u : Value) : GMap P k (w.setCell p u) b n f := h.same (Below.heap_setCell w p u b hp)
theorem GMap.drew (h : GMap P k w b n f) : GMap P k w.drew b n f := h
theorem GMap.alloc (h : GMap P k w b n f) (o : Obj) : GMap P k (w.alloc o) b n f := h.same (Below.heap_alloc w o b h.lt)

theorem selfElem_inv {v : Value} {d : DataW Value} {ps : List MemPlace} (h : selfElem v = some (d, ps)) : d = .held v := by
  unfold selfElem at h
  injection h with h
  injection h with h1 h2
  exact h1.symm

/-- 'v, ok := m[k]'. -/
theorem GMap.look_ok (h : GMap P k w b n f) (K : Keyed P k) (ht : P.underlying t = some (.map k e)) {z : Value} (hz : (zeroValue e).run P w = .ok z w) {key : Value} {kl : Lit} (hkey : keyOf P k key = some kl) :
    (Instr.lookup t (.map (some b)) key true).run P w = .ok (.tuple #[(f kl).getD z, .bool (f kl).isSome]) w := by
  obtain ⟨D, hm, hD, h1, h2⟩ := h
  obtain ⟨v, ps, hrun, hv⟩ := hm.look_ok (zd := .held z) (zp := []) K ht hz rfl hkey
  have hv' := selfElem_inv hv
  rw [hrun, h1 kl]
  cases hf : f kl with
  | none =>
    rw [atKey_of_not_has (by rw [h1, hf]; rfl)] at hv'
    injection hv' with hv'
    rw [← hv']
    rfl
  | some u =>
    rw [h2 kl u _ hf] at hv'
    injection hv' with hv'
    rw [← hv']
    rfl
/-- 'm[k]'. -/
theorem GMap.look (h : GMap P k w b n f) (K : Keyed P k) (ht : P.underlying t = some (.map k e)) {z : Value} (hz : (zeroValue e).run P w = .ok z w) {key : Value} {kl : Lit} (hkey : keyOf P k key = some kl) :
    (Instr.lookup t (.map (some b)) key false).run P w = .ok ((f kl).getD z) w := by
  obtain ⟨D, ⟨es, clock, hb, F, hs, rfl⟩, hD, h1, h2⟩ := h
  rcases Maps.fit_look false K ht hz hb F hkey with ⟨hrun, _, hat⟩ | ⟨e0, y, _, _, hrun, hRv, hat, _⟩
  · have hh := h1 kl
    rw [Maps.has_false_of_atKey hat] at hh
    cases hf : f kl with
    | none => simpa using hrun
    | some u => rw [hf] at hh; cases hh
  · have hh := h1 kl
    rw [Maps.has_true_of_atKey hat] at hh
    cases hf : f kl with
    | none => rw [hf] at hh; cases hh
    | some u =>
      have h3 := h2 kl u (.nil) hf
      rw [hat .nil] at h3
      have h4 : y.1 = .held e0.val := selfElem_inv (v := e0.val) (d := y.1) (ps := y.2) hRv
      rw [h4] at h3
      injection h3 with h3
      rw [h3] at hrun
      simpa using hrun

open Classical in
noncomputable def putL (f : Lit → Option Value) (kl : Lit) (v : Value) : Lit → Option Value := fun l => if l = kl then some v else f l
/-- 'm[k] = v'. -/
theorem GMap.store (h : GMap P k w b n f) (K : Keyed P k) (ht : P.underlying t = some (.map k e)) (hn : n < maxLen) {key : Value} {kl : Lit} (hkey : keyOf P k key = some kl) (hkl : WideAt.IsKeyLit kl) (v : Value) :
    ∃ w', (Instr.mapUpdate t (.map (some b)) key v).run P w = .ok () w' ∧ GMap P k w' b (n + 1) (putL f kl v) ∧ w.grownBy w' (some b) := by
  obtain ⟨D, hm, hD, h1, h2⟩ := h
  obtain ⟨w', hrun, hm', ht'⟩ := hm.store K ht hn hkey (val := v) (d := .held v) (ps := []) rfl
  refine ⟨w', hrun, ⟨D.put kl (.held v), hm', hD.put _ _, fun l => ?_, fun l u z hu => ?_⟩, ht'.grown⟩
  · unfold putL
    by_cases e1 : l = kl
    · subst e1
      rw [has_put_same hD hkl]
      simp
    · rw [has_put_other e1, if_neg e1, h1]
  · unfold putL at hu
    by_cases e1 : l = kl
    · subst e1
      rw [if_pos rfl] at hu
      cases hu
      exact atKey_put_same hD hkl _ _
    · rw [if_neg e1] at hu
      rw [atKey_put_other e1]
      exact h2 l u z hu
theorem GMap.congr {g : Lit → Option Value} (h : GMap P k w b n f) (hg : ∀ l, f l = g l) : GMap P k w b n g := by
  have : f = g := funext hg
  rw [← this]
  exact h
end

/-- Keys that are ints. -/
def ofInts (f : Int → Option Value) : Lit → Option Value
  | .int .i64 i => f i
  | _ => none
def putI (f : Int → Option Value) (i : Int) (v : Value) : Int → Option Value := fun j => if j = i then some v else f j
theorem putL_ints (f : Int → Option Value) (i : Int) (v : Value) (l : Lit) : putL (ofInts f) (.int .i64 i) v l = ofInts (putI f i v) l := by
  unfold putL
  by_cases e : l = .int .i64 i
  · subst e
    rw [if_pos rfl]
    unfold ofInts putI
    simp
  · rw [if_neg e]
    cases l with
    | int k j =>
      cases k <;> try rfl
      unfold ofInts putI
      have : j ≠ i := fun h => e (by rw [h])
      simp [this]
    | _ => rfl
/-- Block b is a map with int keys. -/
def IMap (P : Program) (k : TypeId) (w : World) (b n : Nat) (f : Int → Option Value) : Prop := GMap P k w b n (ofInts f)
section
variable {P : Program} {k e t : TypeId} {w w' : World} {b n : Nat} {f : Int → Option Value}
theorem IMap.made (P : Program) (k : TypeId) (w : World) : IMap P k (w.alloc (.map #[] 0)) w.heap.size 0 (fun _ => none) :=
  (GMap.made P k w).congr fun l => by
    show none = ofInts _ l
    unfold ofInts
    split <;> rfl
theorem IMap.look_ok (h : IMap P k w b n f) (hk : P.underlying k = some (.int .i64)) (ht : P.underlying t = some (.map k e)) {z : Value} (hz : (zeroValue e).run P w = .ok z w) {i : Int} (h1 : -9223372036854775808 ≤ i) (h2 : i ≤ 9223372036854775807) :
    (Instr.lookup t (.map (some b)) (.int .i64 i) true).run P w = .ok (.tuple #[(f i).getD z, .bool (f i).isSome]) w :=
  GMap.look_ok h (int_keyed hk) ht hz (keyOf_int_mk hk (WalkArith.wf_i64 ⟨h1, h2⟩))
theorem IMap.look (h : IMap P k w b n f) (hk : P.underlying k = some (.int .i64)) (ht : P.underlying t = some (.map k e)) {z : Value} (hz : (zeroValue e).run P w = .ok z w) {i : Int} (h1 : -9223372036854775808 ≤ i) (h2 : i ≤ 9223372036854775807) :
    (Instr.lookup t (.map (some b)) (.int .i64 i) false).run P w = .ok ((f i).getD z) w :=
  GMap.look h (int_keyed hk) ht hz (keyOf_int_mk hk (WalkArith.wf_i64 ⟨h1, h2⟩))
theorem IMap.store (h : IMap P k w b n f) (hk : P.underlying k = some (.int .i64)) (ht : P.underlying t = some (.map k e)) (hn : n < maxLen) {i : Int} (h1 : -9223372036854775808 ≤ i) (h2 : i ≤ 9223372036854775807) (v : Value) :
    ∃ w', (Instr.mapUpdate t (.map (some b)) (.int .i64 i) v).run P w = .ok () w' ∧ IMap P k w' b (n + 1) (putI f i v) ∧ w.grownBy w' (some b) := by
  obtain ⟨w', r, h3, h4⟩ := GMap.store h (int_keyed hk) ht hn (keyOf_int_mk hk (WalkArith.wf_i64 ⟨h1, h2⟩)) trivial v
  exact ⟨w', r, h3.congr (putL_ints f i v), h4⟩
theorem IMap.congr {g : Int → Option Value} (h : IMap P k w b n f) (hg : ∀ i, f i = g i) : IMap P k w b n g := by
  have : f = g := funext hg
  rw [← this]
  exact h
end
end Go.Proofs.Ytbkmgblijncjhaa

namespace Go.Proofs.Ytbkmgblijncjhaa
open Go.RowKit Go

section
variable {P : Program} {ops : Array Oper} {Q : Exit → Act → World → Prop} {md : Region.Mode} {S R : World → Prop} {late lateR mov movR : Nat → Bool}

/-- Whatever order is picked from here on; each operation that does not end S (or R) keeps it. -/
def wpAnyG (P : Program) (md : Region.Mode) (ops : Array Oper) (Q : Exit → Act → World → Prop) (S R : World → Prop) (late lateR : Nat → Bool) : Nat → Array Bool → Act → World → Prop
  | 0, listed, a, w => Region.ready md ops listed = [] ∧ Q .normal a w
  | fuel + 1, listed, a, w =>
    (Region.ready md ops listed = [] → Q .normal a w) ∧
    ∀ i ∈ Region.ready md ops listed, wpOp P ops Q i (fun a' w' => (late i = false → S w → S w') ∧ (lateR i = false → R w → R w') ∧ wpAnyG P md ops Q S R late lateR fuel (listed.setIfInBounds i true) a' w') a w

theorem wpAny_of_G : ∀ (fuel : Nat) (listed : Array Bool) (a : Act) (w : World), wpAnyG P md ops Q S R late lateR fuel listed a w → wpAny P md ops Q fuel listed a w
  | 0, _, _, _, h => h
  | fuel + 1, _, _, _, h => ⟨h.1, fun i hi => wpOp_mono (fun a' w' h' => wpAny_of_G fuel _ a' w' h'.2.2) (h.2 i hi)⟩

theorem wpAnyG_swap : ∀ (fuel : Nat) (listed : Array Bool) (a : Act) (w : World), wpAnyG P md ops Q S R late lateR fuel listed a w → wpAnyG P md ops Q R S lateR late fuel listed a w
  | 0, _, _, _, h => h
  | fuel + 1, _, _, _, h => ⟨h.1, fun i hi => wpOp_mono (fun a' w' h' => ⟨h'.2.1, h'.1, wpAnyG_swap fuel _ a' w' h'.2.2⟩) (h.2 i hi)⟩

theorem wpAnyG_first {i : Nat} {oi : Oper} {v : Value} (hi : ops[i]? = some oi) (hsel : ∀ (j : Nat) (o : Oper) cs b, ops[j]? = some o → o.op ≠ .select cs b)
    (hQ : ∀ c a w, Q (.panic c) (a.put oi.dst v) w → Q (.panic c) a w)
    (hlate : ∀ j, late j = true → Region.waitsFor md ops j i = true) :
    ∀ (fuel : Nat) (listed : Array Bool) (a : Act) (w : World),
      (∀ j oj, ops[j]? = some oj → j ≠ i → listed.getD j true = false → (∀ e ∈ oj.after, Region.binds md e = true → e.on ≠ i) → oi.apart ops oj = true) →
      i ∈ Region.ready md ops listed → YieldsIf P ops S oi v a → S w →
      wpAnyG P md ops Q S R late lateR fuel (listed.setIfInBounds i true) (a.put oi.dst v) w → wpAnyG P md ops Q S R late lateR (fuel + 1) listed a w := by
  intro fuel
  induction fuel with
  | zero =>
    intro listed a w _ hr hy hS H
    refine ⟨fun h => (by rw [h] at hr; cases hr), fun j hj => ?_⟩
    by_cases hji : j = i
    · subst hji; exact hy.wpOp hi hS ⟨fun _ h => h, fun _ h => h, H⟩
    · have := ready_mono hj hji
      rw [H.1] at this
      cases this
  | succ fuel ih =>
    intro listed a w hfree hr hy hS H
    refine ⟨fun h => (by rw [h] at hr; cases hr), fun j hj => ?_⟩
    by_cases hji : j = i
    · subst hji; exact hy.wpOp hi hS ⟨fun _ h => h, fun _ h => h, H⟩
    · have h1 := H.2 j (ready_mono hj hji)
      obtain ⟨hjun, oj, hoj, hall⟩ := mem_ready.1 hj
      have hnot : ∀ e ∈ oj.after, Region.binds md e = true → e.on ≠ i := fun e he hb heq => by
        have h1 := hall e he hb
        have h0 := (mem_ready.1 hr).1
        rw [heq] at h1
        rcases Nat.lt_or_ge i listed.size with h' | h'
        · simp [h'] at h0 h1; rw [h0] at h1; cases h1
        · simp [Array.getElem?_eq_none h'] at h1
      have hl : late j = false := by
        cases hl : late j with
        | false => rfl
        | true =>
          obtain ⟨o2, ho2, e, he, hb, heq⟩ := Region.waitsFor_spec (hlate j hl)
          rw [hoj] at ho2
          cases ho2
          exact absurd heq (hnot e he hb)
      have h2 := wpOp_putIf hoj (hfree j oj hoj hji hjun hnot) (fun cs b => hsel i oi cs b hi) (fun cs b => hsel j oj cs b hoj) hQ hy h1
      have hfree' : ∀ k ok, ops[k]? = some ok → k ≠ i → (listed.setIfInBounds j true).getD k true = false →
          (∀ e ∈ ok.after, Region.binds md e = true → e.on ≠ i) → oi.apart ops ok = true := fun k ok hk hki hun hno => by
        refine hfree k ok hk hki ?_ hno
        by_cases hjk : j = k
        · subst hjk; exact hjun
        · rw [getD_set_ne true hjk] at hun; exact hun
      refine wpOp_mono (fun a' w' h3 => ⟨h3.2.1, h3.2.2.1, ih (listed.setIfInBounds j true) a' w' hfree' (ready_mono hr (Ne.symm hji)) h3.1 (h3.2.1 hl hS) ?_⟩) h2
      rw [Array.setIfInBounds_comm _ _ hji]
      exact h3.2.2.2

/-- The region's operations in an order of ours. -/
def wpSeqG (P : Program) (ops : Array Oper) (Q : Exit → Act → World → Prop) (S R : World → Prop) (mov movR late lateR : Nat → Bool) : List Nat → Act → World → Prop
  | [], a, w => Q .normal a w
  | i :: is, a, w =>
    (mov i = true ∧ ∃ o v, ops[i]? = some o ∧ YieldsIf P ops S o v a ∧ wpSeqG P ops Q S R mov movR late lateR is (a.put o.dst v) w) ∨
    (mov i = false ∧ movR i = true ∧ ∃ o v, ops[i]? = some o ∧ YieldsIf P ops R o v a ∧ wpSeqG P ops Q S R mov movR late lateR is (a.put o.dst v) w) ∨
    (mov i = false ∧ movR i = false ∧ wpOp P ops Q i (fun a' w' => (late i = false → S w → S w') ∧ (lateR i = false → R w → R w') ∧ wpSeqG P ops Q S R mov movR late lateR is a' w') a w)

/-- Is our order one that serves? -/
def seqGB (md : Region.Mode) (ops : Array Oper) (mov movR late lateR : Nat → Bool) : Bool → Bool → List Nat → Array Bool → Bool
  | _, _, [], listed => (Region.ready md ops listed).isEmpty
  | f, g, i :: is, listed =>
    bif mov i then f && ((Region.ready md ops listed).contains i && (Region.free md ops listed i && ((List.range ops.size).all (fun j => !late j || Region.waitsFor md ops j i) && seqGB md ops mov movR late lateR f g is (listed.setIfInBounds i true))))
    else bif movR i then g && ((Region.ready md ops listed).contains i && (Region.free md ops listed i && ((List.range ops.size).all (fun j => !lateR j || Region.waitsFor md ops j i) && seqGB md ops mov movR late lateR f g is (listed.setIfInBounds i true))))
    else (Region.ready md ops listed == [i]) && seqGB md ops mov movR late lateR (f && !late i) (g && !lateR i) is (listed.setIfInBounds i true)

theorem wpAnyG_seq (hsel : Region.noSelect ops = true) (hlt : ∀ j, late j = true → j < ops.size) (hltR : ∀ j, lateR j = true → j < ops.size) (hQ : ∀ c a d v w, Q (.panic c) (Act.put a d v) w → Q (.panic c) a w) :
    ∀ (is : List Nat) (f g : Bool) (listed : Array Bool) (a : Act) (w : World), seqGB md ops mov movR late lateR f g is listed = true → (f = true → S w) → (g = true → R w) → wpSeqG P ops Q S R mov movR late lateR is a w → wpAnyG P md ops Q S R late lateR is.length listed a w
  | [], f, g, listed, a, w, hb, _, _, h => ⟨by simpa [seqGB] using hb, h⟩
  | i :: is, f, g, listed, a, w, hb, hf, hg, h => by
    rcases h with ⟨hm, o, v, ho, hy, h⟩ | ⟨hm, hmR, o, v, ho, hy, h⟩ | ⟨hm, hmR, h⟩
    · rw [seqGB, hm] at hb
      simp only [cond_true, Bool.and_eq_true] at hb
      obtain ⟨hf1, hr, hfr, hl, hb⟩ := hb
      refine wpAnyG_first ho (Region.noSelect_spec hsel) (fun c a w h => hQ c a _ v w h) (fun j hj => ?_) is.length listed a w (Region.free_spec ho hfr) (by simpa using hr) hy (hf hf1) ?_
      · have := List.all_eq_true.1 hl j (List.mem_range.2 (hlt j hj))
        rw [hj] at this
        simpa using this
      · exact wpAnyG_seq hsel hlt hltR hQ is f g _ _ _ hb hf hg h
    · rw [seqGB, hm, hmR] at hb
      simp only [cond_true, cond_false, Bool.and_eq_true] at hb
      obtain ⟨hg1, hr, hfr, hl, hb⟩ := hb
      refine wpAnyG_swap _ _ _ _ (wpAnyG_first ho (Region.noSelect_spec hsel) (fun c a w h => hQ c a _ v w h) (fun j hj => ?_) is.length listed a w (Region.free_spec ho hfr) (by simpa using hr) hy (hg hg1) (wpAnyG_swap _ _ _ _ ?_))
      · have := List.all_eq_true.1 hl j (List.mem_range.2 (hltR j hj))
        rw [hj] at this
        simpa using this
      · exact wpAnyG_seq hsel hlt hltR hQ is f g _ _ _ hb hf hg h
    · rw [seqGB, hm, hmR] at hb
      simp only [cond_false, Bool.and_eq_true, beq_iff_eq] at hb
      obtain ⟨hr, hb⟩ := hb
      refine ⟨fun h0 => (by rw [hr] at h0; cases h0), fun j hj => ?_⟩
      rw [hr] at hj
      obtain rfl : j = i := by simpa using hj
      refine wpOp_mono (fun a' w' h3 => ⟨h3.1, h3.2.1, wpAnyG_seq hsel hlt hltR hQ is (f && !late j) (g && !lateR j) _ a' w' hb (fun h4 => ?_) (fun h4 => ?_) h3.2.2⟩) h
      · simp only [Bool.and_eq_true, Bool.not_eq_true'] at h4
        exact h3.1 h4.2 (hf h4.1)
      · simp only [Bool.and_eq_true, Bool.not_eq_true'] at h4
        exact h3.2.1 h4.2 (hg h4.1)

theorem wp_region_seqG {id : Nat} {a : Act} {w : World} (S R : World → Prop) (order movs movRs lates lateRs : List Nat) (hm : P.follows .mixedOrders = true) (hsel : Region.noSelect ops = true)
    (hn : order.length = ops.size) (hlt : lates.all (fun j => decide (j < ops.size)) = true) (hltR : lateRs.all (fun j => decide (j < ops.size)) = true)
    (hb : seqGB .any ops (fun i => movs.contains i) (fun i => movRs.contains i) (fun i => lates.contains i) (fun i => lateRs.contains i) true true order (Array.replicate ops.size false) = true)
    (hQ : ∀ c a d v w, Q (.panic c) (Act.put a d v) w → Q (.panic c) a w)
    (hS : S w.drew ∧ R w.drew) (h : S w.drew → R w.drew → wpSeqG P ops Q S R (fun i => movs.contains i) (fun i => movRs.contains i) (fun i => lates.contains i) (fun i => lateRs.contains i) order a w.drew) : (Code.region id ops true).wp P Q a w := by
  refine wp_region_any hm (wpAny_of_G (S := S) (R := R) (late := fun i => lates.contains i) (lateR := fun i => lateRs.contains i) _ _ _ _ ?_)
  rw [← hn]
  refine wpAnyG_seq (mov := fun i => movs.contains i) (movR := fun i => movRs.contains i) hsel (fun j hj => ?_) (fun j hj => ?_) hQ order true true _ a _ (by rw [hn]; exact hb) (fun _ => hS.1) (fun _ => hS.2) (h hS.1 hS.2)
  · have := List.all_eq_true.1 hlt j (by simpa using hj)
    simpa using this
  · have := List.all_eq_true.1 hltR j (by simpa using hj)
    simpa using this

theorem wpSeqG_done {a : Act} {w : World} (h : Q .normal a w) : wpSeqG P ops (NoPanic Q) S R mov movR late lateR [] a w := NoPanic.normal h
theorem wpSeqG_mov {i : Nat} {is : List Nat} {a : Act} {w : World} (hm : mov i = true) (hi : (ops[i]?).isSome = true) (h : ∀ o, ops[i]? = some o → ∃ v, YieldsIf P ops S o v a ∧ wpSeqG P ops Q S R mov movR late lateR is (a.put o.dst v) w) : wpSeqG P ops Q S R mov movR late lateR (i :: is) a w := by
  obtain ⟨o, ho⟩ := Option.isSome_iff_exists.1 hi
  obtain ⟨v, hy, h⟩ := h o ho
  exact .inl ⟨hm, o, v, ho, hy, h⟩
theorem wpSeqG_movR {i : Nat} {is : List Nat} {a : Act} {w : World} (hm : mov i = false) (hmR : movR i = true) (hi : (ops[i]?).isSome = true) (h : ∀ o, ops[i]? = some o → ∃ v, YieldsIf P ops R o v a ∧ wpSeqG P ops Q S R mov movR late lateR is (a.put o.dst v) w) : wpSeqG P ops Q S R mov movR late lateR (i :: is) a w := by
  obtain ⟨o, ho⟩ := Option.isSome_iff_exists.1 hi
  obtain ⟨v, hy, h⟩ := h o ho
  exact .inr (.inl ⟨hm, hmR, o, v, ho, hy, h⟩)
theorem wpSeqG_fix {i : Nat} {is : List Nat} {a : Act} {w : World} (hm : mov i = false) (hmR : movR i = false) (hi : (ops[i]?).isSome = true)
    (h : ∀ o, ops[i]? = some o → ∀ K' : Act → World → Prop, Shut (∀ a w', (late i = false → S w → S w') → (lateR i = false → R w → R w') → wpSeqG P ops Q S R mov movR late lateR is a w' → K' a w') → if Region.wanted o (yielded ops a.tmps) = true then Oper.wp P o a w K' Q else K' (a.put o.dst undef) w) : wpSeqG P ops Q S R mov movR late lateR (i :: is) a w := by
  obtain ⟨o, ho⟩ := Option.isSome_iff_exists.1 hi
  exact .inr (.inr ⟨hm, hmR, wpOp_step ho (fun K' hK => h o ho K' (fun a w' h1 h2 h3 => hK a w' ⟨h1, h2, h3⟩))⟩)
end
/-- An order, with forks: where two operations are ready that do not commute, both ways. -/
inductive Ord where
  | done : Ord
  | step : Nat → Ord → Ord
  | fork : Nat → Ord → Nat → Ord → Ord

def Ord.ofList : List Nat → Ord → Ord
  | [], o => o
  | i :: is, o => .step i (Ord.ofList is o)

/-- All ways are so long. -/
def Ord.long : Ord → Nat → Bool
  | .done, n => n == 0
  | .step _ o, n => match n with
    | 0 => false
    | n + 1 => o.long n
  | .fork _ o _ p, n => match n with
    | 0 => false
    | n + 1 => o.long n && p.long n

section
variable {P : Program} {ops : Array Oper} {Q : Exit → Act → World → Prop} {md : Region.Mode} {S R : World → Prop} {late lateR mov movR : Nat → Bool}

/-- What an operation that stays in its place has to show. -/
abbrev fixW (P : Program) (ops : Array Oper) (Q : Exit → Act → World → Prop) (S R : World → Prop) (late lateR : Nat → Bool) (i : Nat) (K : Act → World → Prop) (a : Act) (w : World) : Prop :=
  wpOp P ops Q i (fun a' w' => (late i = false → S w → S w') ∧ (lateR i = false → R w → R w') ∧ K a' w') a w

def wpTree (P : Program) (ops : Array Oper) (Q : Exit → Act → World → Prop) (S R : World → Prop) (mov movR late lateR : Nat → Bool) : Ord → Act → World → Prop
  | .done, a, w => Q .normal a w
  | .step i is, a, w =>
    (mov i = true ∧ ∃ o v, ops[i]? = some o ∧ YieldsIf P ops S o v a ∧ wpTree P ops Q S R mov movR late lateR is (a.put o.dst v) w) ∨
    (mov i = false ∧ movR i = true ∧ ∃ o v, ops[i]? = some o ∧ YieldsIf P ops R o v a ∧ wpTree P ops Q S R mov movR late lateR is (a.put o.dst v) w) ∨
    (mov i = false ∧ movR i = false ∧ fixW P ops Q S R late lateR i (wpTree P ops Q S R mov movR late lateR is) a w)
  | .fork i is j js, a, w => fixW P ops Q S R late lateR i (wpTree P ops Q S R mov movR late lateR is) a w ∧ fixW P ops Q S R late lateR j (wpTree P ops Q S R mov movR late lateR js) a w

def treeB (md : Region.Mode) (ops : Array Oper) (mov movR late lateR : Nat → Bool) : Bool → Bool → Ord → Array Bool → Bool
  | _, _, .done, listed => (Region.ready md ops listed).isEmpty
  | f, g, .step i is, listed =>
    bif mov i then f && ((Region.ready md ops listed).contains i && (Region.free md ops listed i && ((List.range ops.size).all (fun j => !late j || Region.waitsFor md ops j i) && treeB md ops mov movR late lateR f g is (listed.setIfInBounds i true))))
    else bif movR i then g && ((Region.ready md ops listed).contains i && (Region.free md ops listed i && ((List.range ops.size).all (fun j => !lateR j || Region.waitsFor md ops j i) && treeB md ops mov movR late lateR f g is (listed.setIfInBounds i true))))
    else (Region.ready md ops listed == [i]) && treeB md ops mov movR late lateR (f && !late i) (g && !lateR i) is (listed.setIfInBounds i true)
  | f, g, .fork i is j js, listed => (Region.ready md ops listed == [i, j]) && (treeB md ops mov movR late lateR (f && !late i) (g && !lateR i) is (listed.setIfInBounds i true) && treeB md ops mov movR late lateR (f && !late j) (g && !lateR j) js (listed.setIfInBounds j true))

theorem wpAnyG_tree (hsel : Region.noSelect ops = true) (hlt : ∀ j, late j = true → j < ops.size) (hltR : ∀ j, lateR j = true → j < ops.size) (hQ : ∀ c a d v w, Q (.panic c) (Act.put a d v) w → Q (.panic c) a w) :
    ∀ (is : Ord) (n : Nat) (f g : Bool) (listed : Array Bool) (a : Act) (w : World), is.long n = true → treeB md ops mov movR late lateR f g is listed = true → (f = true → S w) → (g = true → R w) → wpTree P ops Q S R mov movR late lateR is a w → wpAnyG P md ops Q S R late lateR n listed a w
  | .done, n, f, g, listed, a, w, hn, hb, _, _, h => by
    have hn' : n = 0 := by simpa [Ord.long] using hn
    subst hn'
    exact ⟨by simpa [treeB] using hb, h⟩
  | .step i is, 0, f, g, listed, a, w, hn, hb, hf, hg, h => by simp [Ord.long] at hn
  | .step i is, n + 1, f, g, listed, a, w, hn, hb, hf, hg, h => by
    have hn' : is.long n = true := hn
    rcases h with ⟨hm, o, v, ho, hy, h⟩ | ⟨hm, hmR, o, v, ho, hy, h⟩ | ⟨hm, hmR, h⟩
    · rw [treeB, hm] at hb
      simp only [cond_true, Bool.and_eq_true] at hb
      obtain ⟨hf1, hr, hfr, hl, hb⟩ := hb
      refine wpAnyG_first ho (Region.noSelect_spec hsel) (fun c a w h => hQ c a _ v w h) (fun j hj => ?_) n listed a w (Region.free_spec ho hfr) (by simpa using hr) hy (hf hf1) ?_
      · have := List.all_eq_true.1 hl j (List.mem_range.2 (hlt j hj))
        rw [hj] at this
        simpa using this
      · exact wpAnyG_tree hsel hlt hltR hQ is n f g _ _ _ hn' hb hf hg h
    · rw [treeB, hm, hmR] at hb
      simp only [cond_true, cond_false, Bool.and_eq_true] at hb
      obtain ⟨hg1, hr, hfr, hl, hb⟩ := hb
      refine wpAnyG_swap _ _ _ _ (wpAnyG_first ho (Region.noSelect_spec hsel) (fun c a w h => hQ c a _ v w h) (fun j hj => ?_) n listed a w (Region.free_spec ho hfr) (by simpa using hr) hy (hg hg1) (wpAnyG_swap _ _ _ _ ?_))
      · have := List.all_eq_true.1 hl j (List.mem_range.2 (hltR j hj))
        rw [hj] at this
        simpa using this
      · exact wpAnyG_tree hsel hlt hltR hQ is n f g _ _ _ hn' hb hf hg h
    · rw [treeB, hm, hmR] at hb
      simp only [cond_false, Bool.and_eq_true, beq_iff_eq] at hb
      obtain ⟨hr, hb⟩ := hb
      refine ⟨fun h0 => (by rw [hr] at h0; cases h0), fun j hj => ?_⟩
      rw [hr] at hj
      obtain rfl : j = i := by simpa using hj
      refine wpOp_mono (fun a' w' h3 => ⟨h3.1, h3.2.1, wpAnyG_tree hsel hlt hltR hQ is n (f && !late j) (g && !lateR j) _ a' w' hn' hb (fun h4 => ?_) (fun h4 => ?_) h3.2.2⟩) h
      · simp only [Bool.and_eq_true, Bool.not_eq_true'] at h4
        exact h3.1 h4.2 (hf h4.1)
      · simp only [Bool.and_eq_true, Bool.not_eq_true'] at h4
        exact h3.2.1 h4.2 (hg h4.1)
  | .fork i is k js, 0, f, g, listed, a, w, hn, hb, hf, hg, h => by simp [Ord.long] at hn
  | .fork i is k js, n + 1, f, g, listed, a, w, hn, hb, hf, hg, h => by
    have hn' : (is.long n && js.long n) = true := hn
    rw [Bool.and_eq_true] at hn'
    rw [treeB] at hb
    simp only [Bool.and_eq_true, beq_iff_eq] at hb
    obtain ⟨hr, hb1, hb2⟩ := hb
    refine ⟨fun h0 => (by rw [hr] at h0; cases h0), fun j hj => ?_⟩
    rw [hr] at hj
    have hj' : j = i ∨ j = k := by simpa using hj
    rcases hj' with rfl | rfl
    · refine wpOp_mono (fun a' w' h3 => ⟨h3.1, h3.2.1, wpAnyG_tree hsel hlt hltR hQ is n (f && !late j) (g && !lateR j) _ a' w' hn'.1 hb1 (fun h4 => ?_) (fun h4 => ?_) h3.2.2⟩) h.1
      · simp only [Bool.and_eq_true, Bool.not_eq_true'] at h4
        exact h3.1 h4.2 (hf h4.1)
      · simp only [Bool.and_eq_true, Bool.not_eq_true'] at h4
        exact h3.2.1 h4.2 (hg h4.1)
    · refine wpOp_mono (fun a' w' h3 => ⟨h3.1, h3.2.1, wpAnyG_tree hsel hlt hltR hQ js n (f && !late j) (g && !lateR j) _ a' w' hn'.2 hb2 (fun h4 => ?_) (fun h4 => ?_) h3.2.2⟩) h.2
      · simp only [Bool.and_eq_true, Bool.not_eq_true'] at h4
        exact h3.1 h4.2 (hf h4.1)
      · simp only [Bool.and_eq_true, Bool.not_eq_true'] at h4
        exact h3.2.1 h4.2 (hg h4.1)

theorem wp_region_tree {id : Nat} {a : Act} {w : World} (S R : World → Prop) (order : Ord) (movs movRs lates lateRs : List Nat) (hm : P.follows .mixedOrders = true) (hsel : Region.noSelect ops = true)
    (hn : order.long ops.size = true) (hlt : lates.all (fun j => decide (j < ops.size)) = true) (hltR : lateRs.all (fun j => decide (j < ops.size)) = true)
    (hb : treeB .any ops (fun i => movs.contains i) (fun i => movRs.contains i) (fun i => lates.contains i) (fun i => lateRs.contains i) true true order (Array.replicate ops.size false) = true)
    (hQ : ∀ c a d v w, Q (.panic c) (Act.put a d v) w → Q (.panic c) a w)
    (hS : S w.drew ∧ R w.drew) (h : S w.drew → R w.drew → wpTree P ops Q S R (fun i => movs.contains i) (fun i => movRs.contains i) (fun i => lates.contains i) (fun i => lateRs.contains i) order a w.drew) : (Code.region id ops true).wp P Q a w := by
  refine wp_region_any hm (wpAny_of_G (S := S) (R := R) (late := fun i => lates.contains i) (lateR := fun i => lateRs.contains i) _ _ _ _ ?_)
  refine wpAnyG_tree (mov := fun i => movs.contains i) (movR := fun i => movRs.contains i) hsel (fun j hj => ?_) (fun j hj => ?_) hQ order _ true true _ a _ hn hb (fun _ => hS.1) (fun _ => hS.2) (h hS.1 hS.2)
  · have := List.all_eq_true.1 hlt j (by simpa using hj)
    simpa using this
  · have := List.all_eq_true.1 hltR j (by simpa using hj)
    simpa using this

theorem wpTree_done {a : Act} {w : World} (h : Q .normal a w) : wpTree P ops (NoPanic Q) S R mov movR late lateR .done a w := NoPanic.normal h
theorem wpTree_mov {i : Nat} {is : Ord} {a : Act} {w : World} (hm : mov i = true) (hi : (ops[i]?).isSome = true) (h : ∀ o, ops[i]? = some o → ∃ v, YieldsIf P ops S o v a ∧ wpTree P ops Q S R mov movR late lateR is (a.put o.dst v) w) : wpTree P ops Q S R mov movR late lateR (.step i is) a w := by
  obtain ⟨o, ho⟩ := Option.isSome_iff_exists.1 hi
  obtain ⟨v, hy, h⟩ := h o ho
  exact .inl ⟨hm, o, v, ho, hy, h⟩
theorem wpTree_movR {i : Nat} {is : Ord} {a : Act} {w : World} (hm : mov i = false) (hmR : movR i = true) (hi : (ops[i]?).isSome = true) (h : ∀ o, ops[i]? = some o → ∃ v, YieldsIf P ops R o v a ∧ wpTree P ops Q S R mov movR late lateR is (a.put o.dst v) w) : wpTree P ops Q S R mov movR late lateR (.step i is) a w := by
  obtain ⟨o, ho⟩ := Option.isSome_iff_exists.1 hi
  obtain ⟨v, hy, h⟩ := h o ho
  exact .inr (.inl ⟨hm, hmR, o, v, ho, hy, h⟩)
theorem fixW_of {i : Nat} {a : Act} {w : World} {K : Act → World → Prop} (hi : (ops[i]?).isSome = true)
    (h : ∀ o, ops[i]? = some o → ∀ K' : Act → World → Prop, Shut (∀ a w', (late i = false → S w → S w') → (lateR i = false → R w → R w') → K a w' → K' a w') → if Region.wanted o (yielded ops a.tmps) = true then Oper.wp P o a w K' Q else K' (a.put o.dst undef) w) : fixW P ops Q S R late lateR i K a w := by
  obtain ⟨o, ho⟩ := Option.isSome_iff_exists.1 hi
  exact wpOp_step ho (fun K' hK => h o ho K' (fun a w' h1 h2 h3 => hK a w' ⟨h1, h2, h3⟩))
theorem wpTree_fix {i : Nat} {is : Ord} {a : Act} {w : World} (hm : mov i = false) (hmR : movR i = false) (hi : (ops[i]?).isSome = true)
    (h : ∀ o, ops[i]? = some o → ∀ K' : Act → World → Prop, Shut (∀ a w', (late i = false → S w → S w') → (lateR i = false → R w → R w') → wpTree P ops Q S R mov movR late lateR is a w' → K' a w') → if Region.wanted o (yielded ops a.tmps) = true then Oper.wp P o a w K' Q else K' (a.put o.dst undef) w) : wpTree P ops Q S R mov movR late lateR (.step i is) a w :=
  .inr (.inr ⟨hm, hmR, fixW_of hi h⟩)
theorem wpTree_fork {i j : Nat} {is js : Ord} {a : Act} {w : World} (h : fixW P ops Q S R late lateR i (wpTree P ops Q S R mov movR late lateR is) a w) (h' : fixW P ops Q S R late lateR j (wpTree P ops Q S R mov movR late lateR js) a w) : wpTree P ops Q S R mov movR late lateR (.fork i is j js) a w := ⟨h, h'⟩
end
end Go.Proofs.Ytbkmgblijncjhaa

namespace Go.Proofs.Ytbkmgblijncjhaa
open Go.RowKit Go

section
variable {P : Program} {ops : Array Oper} {Q : Exit → Act → World → Prop} {md : Region.Mode} {S S' : World → Prop} {mov : Nat → Bool}

abbrev noLate : Nat → Bool := fun _ => false

theorem wpAnyL_weak (hi : ∀ W, S' W → S W) : ∀ (fuel : Nat) (listed : Array Bool) (a : Act) (w : World), wpAnyL P md ops Q S' noLate fuel listed a w → wpAnyL P md ops Q S noLate fuel listed a w
  | 0, _, _, _, h => h
  | fuel + 1, _, _, _, h => ⟨h.1, fun i hr => wpOp_mono (fun a' w' h' => ⟨fun e => hi _ (h'.1 e), wpAnyL_weak hi fuel _ a' w' h'.2⟩) (h.2 i hr)⟩

/-- What an operation that stays in its place has to show. -/
abbrev growW (P : Program) (ops : Array Oper) (Q : Exit → Act → World → Prop) (S : World → Prop) (i : Nat) (K : (World → Prop) → Act → World → Prop) (a : Act) (w : World) : Prop :=
  wpOp P ops Q i (fun a' w' => ∃ S' : World → Prop, (∀ W, S' W → S W) ∧ S' w' ∧ K S' a' w') a w

def wpGrow (P : Program) (ops : Array Oper) (Q : Exit → Act → World → Prop) (mov : Nat → Bool) : Ord → (World → Prop) → Act → World → Prop
  | .done, _, a, w => Q .normal a w
  | .step i is, S, a, w =>
    (mov i = true ∧ ∃ o v, ops[i]? = some o ∧ YieldsIf P ops S o v a ∧ wpGrow P ops Q mov is S (a.put o.dst v) w) ∨
    (mov i = false ∧ growW P ops Q S i (wpGrow P ops Q mov is) a w)
  | .fork i is j js, S, a, w => growW P ops Q S i (wpGrow P ops Q mov is) a w ∧ growW P ops Q S j (wpGrow P ops Q mov js) a w

def growB (md : Region.Mode) (ops : Array Oper) (mov : Nat → Bool) : Ord → Array Bool → Bool
  | .done, listed => (Region.ready md ops listed).isEmpty
  | .step i is, listed =>
    bif mov i then (Region.ready md ops listed).contains i && (Region.free md ops listed i && growB md ops mov is (listed.setIfInBounds i true))
    else (Region.ready md ops listed == [i]) && growB md ops mov is (listed.setIfInBounds i true)
  | .fork i is j js, listed => (Region.ready md ops listed == [i, j]) && (growB md ops mov is (listed.setIfInBounds i true) && growB md ops mov js (listed.setIfInBounds j true))

theorem wpAnyL_grow (hsel : Region.noSelect ops = true) (hQ : ∀ c a d v w, Q (.panic c) (Act.put a d v) w → Q (.panic c) a w) :
    ∀ (is : Ord) (n : Nat) (S : World → Prop) (listed : Array Bool) (a : Act) (w : World), is.long n = true → growB md ops mov is listed = true → S w → wpGrow P ops Q mov is S a w → wpAnyL P md ops Q S noLate n listed a w
  | .done, n, S, listed, a, w, hn, hb, _, h => by
    have hn' : n = 0 := by simpa [Ord.long] using hn
    subst hn'
    exact ⟨by simpa [growB] using hb, h⟩
  | .step i is, 0, S, listed, a, w, hn, hb, hS, h => by simp [Ord.long] at hn
  | .step i is, n + 1, S, listed, a, w, hn, hb, hS, h => by
    have hn' : is.long n = true := hn
    rcases h with ⟨hm, o, v, ho, hy, h⟩ | ⟨hm, h⟩
    · rw [growB, hm] at hb
      simp only [cond_true, Bool.and_eq_true] at hb
      obtain ⟨hr, hfr, hb⟩ := hb
      exact wpAnyL_first ho (Region.noSelect_spec hsel) (fun c a w h => hQ c a _ v w h) (fun j hj => by cases hj) n listed a w (Region.free_spec ho hfr) (by simpa using hr) hy hS (wpAnyL_grow hsel hQ is n S _ _ _ hn' hb hS h)
    · rw [growB, hm] at hb
      simp only [cond_false, Bool.and_eq_true, beq_iff_eq] at hb
      obtain ⟨hr, hb⟩ := hb
      refine ⟨fun h0 => (by rw [hr] at h0; cases h0), fun j hj => ?_⟩
      rw [hr] at hj
      obtain rfl : j = i := by simpa using hj
      refine wpOp_mono (fun a' w' h3 => ?_) h
      obtain ⟨S', h4, h5, h6⟩ := h3
      exact ⟨fun _ => h4 _ h5, wpAnyL_weak h4 _ _ _ _ (wpAnyL_grow hsel hQ is n S' _ a' w' hn' hb h5 h6)⟩
  | .fork i is k js, 0, S, listed, a, w, hn, hb, hS, h => by simp [Ord.long] at hn
  | .fork i is k js, n + 1, S, listed, a, w, hn, hb, hS, h => by
    have hn' : (is.long n && js.long n) = true := hn
    rw [Bool.and_eq_true] at hn'
    rw [growB] at hb
    simp only [Bool.and_eq_true, beq_iff_eq] at hb
    obtain ⟨hr, hb1, hb2⟩ := hb
    refine ⟨fun h0 => (by rw [hr] at h0; cases h0), fun j hj => ?_⟩
    rw [hr] at hj
    have hj' : j = i ∨ j = k := by simpa using hj
    rcases hj' with rfl | rfl
    · refine wpOp_mono (fun a' w' h3 => ?_) h.1
      obtain ⟨S', h4, h5, h6⟩ := h3
      exact ⟨fun _ => h4 _ h5, wpAnyL_weak h4 _ _ _ _ (wpAnyL_grow hsel hQ is n S' _ a' w' hn'.1 hb1 h5 h6)⟩
    · refine wpOp_mono (fun a' w' h3 => ?_) h.2
      obtain ⟨S', h4, h5, h6⟩ := h3
      exact ⟨fun _ => h4 _ h5, wpAnyL_weak h4 _ _ _ _ (wpAnyL_grow hsel hQ js n S' _ a' w' hn'.2 hb2 h5 h6)⟩

theorem wp_region_grow {id : Nat} {a : Act} {w : World} (S : World → Prop) (order : Ord) (movs : List Nat) (hm : P.follows .mixedOrders = true) (hsel : Region.noSelect ops = true)
    (hn : order.long ops.size = true) (hb : growB .any ops (fun i => movs.contains i) order (Array.replicate ops.size false) = true)
    (hQ : ∀ c a d v w, Q (.panic c) (Act.put a d v) w → Q (.panic c) a w)
    (hS : S w.drew) (h : S w.drew → wpGrow P ops Q (fun i => movs.contains i) order S a w.drew) : (Code.region id ops true).wp P Q a w := by
  refine wp_region_any hm (wpAny_of_L (S := S) (late := noLate) _ _ _ _ ?_)
  exact wpAnyL_grow hsel hQ order _ S _ a _ hn hb hS (h hS)

theorem wpGrow_done {a : Act} {w : World} (h : Q .normal a w) : wpGrow P ops (NoPanic Q) mov .done S a w := NoPanic.normal h
theorem wpGrow_mov {i : Nat} {is : Ord} {a : Act} {w : World} (hm : mov i = true) (hi : (ops[i]?).isSome = true) (h : ∀ o, ops[i]? = some o → ∃ v, YieldsIf P ops S o v a ∧ wpGrow P ops Q mov is S (a.put o.dst v) w) : wpGrow P ops Q mov (.step i is) S a w := by
  obtain ⟨o, ho⟩ := Option.isSome_iff_exists.1 hi
  obtain ⟨v, hy, h⟩ := h o ho
  exact .inl ⟨hm, o, v, ho, hy, h⟩
theorem growW_of {i : Nat} {a : Act} {w : World} {K : (World → Prop) → Act → World → Prop} (hi : (ops[i]?).isSome = true)
    (h : ∀ o, ops[i]? = some o → ∀ K' : Act → World → Prop, Shut (∀ a w', (∃ S' : World → Prop, (∀ W, S' W → S W) ∧ S' w' ∧ K S' a w') → K' a w') → if Region.wanted o (yielded ops a.tmps) = true then Oper.wp P o a w K' Q else K' (a.put o.dst undef) w) : growW P ops Q S i K a w := by
  obtain ⟨o, ho⟩ := Option.isSome_iff_exists.1 hi
  exact wpOp_step ho (fun K' hK => h o ho K' hK)
theorem wpGrow_fix {i : Nat} {is : Ord} {a : Act} {w : World} (hm : mov i = false) (hi : (ops[i]?).isSome = true)
    (h : ∀ o, ops[i]? = some o → ∀ K' : Act → World → Prop, Shut (∀ a w', (∃ S' : World → Prop, (∀ W, S' W → S W) ∧ S' w' ∧ wpGrow P ops Q mov is S' a w') → K' a w') → if Region.wanted o (yielded ops a.tmps) = true then Oper.wp P o a w K' Q else K' (a.put o.dst undef) w) : wpGrow P ops Q mov (.step i is) S a w :=
  .inr ⟨hm, growW_of hi h⟩
theorem wpGrow_fork {i j : Nat} {is js : Ord} {a : Act} {w : World} (h : growW P ops Q S i (wpGrow P ops Q mov is) a w) (h' : growW P ops Q S j (wpGrow P ops Q mov js) a w) : wpGrow P ops Q mov (.fork i is j js) S a w := ⟨h, h'⟩
end
end Go.Proofs.Ytbkmgblijncjhaa

namespace Go.Proofs.Ytbkmgblijncjhaa

/-- The lowest bits of a number. -/
def bitsG (n : Int) (m : Nat) : List Bool := (List.range m).map fun i => decide (n / 2 ^ i % 2 = 1)

theorem bitsG_length (n : Int) (m : Nat) : (bitsG n m).length = m := by simp [bitsG]
theorem bitsG_succ (n : Int) (m : Nat) : bitsG n (m + 1) = bitsG n m ++ [decide (n / 2 ^ m % 2 = 1)] := by simp [bitsG, List.range_succ]
end Go.Proofs.Ytbkmgblijncjhaa
