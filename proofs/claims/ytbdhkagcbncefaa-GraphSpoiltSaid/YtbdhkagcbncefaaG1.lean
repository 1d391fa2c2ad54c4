/- Words for memory: a slice of pairs that reads as a list, slices of ints and bools, what a call leaves. append onto a row of the call's own, the source nil, empty or not. Pairs of ints as keys of a map; which pairs a map holds that was made gate by gate. The index of a graph's gates: made once, by sync.Once, in one goroutine. '(*index).make': the map holds each gate at its first place. sync.Once.Do over the index; '(*index).many', '(*index).find'. The package graph: whether a graph may be, a literal, what needs no gate. The package graph: Right, And, Or, Ite. The package graph: And at all literals, Or, Ite. The package graph: Ite. -/
import Derived.WalkKit
import Derived.WalkLawsBesides
import Derived.WalkSpells
import Derived.Test.YtbdhkagcbncefaaPure
import Derived.Maps.AppendAt
import Derived.Maps.OwnSet
import Derived.Maps.OwnOps
import Derived.DeepKeys4
import Derived.Carry
import Derived.Test.YtbdhkagcbncefaaProg
import Derived.Maps.OwnIn
import Derived.Deep.QuietTactic
import Derived.BigQuiet
import Derived.Deep.RegionWith
import Derived.Deep.RegionLaw
import Derived.Lib.Hide
import Derived.Laws.BitsAllLaws
import Derived.Laws.BitsLemmas
import Derived.BigRegion
namespace Go.Proofs.Ytbdhkagcbncefaa
open Go.RowKit

/-- The call hands v back and turns nothing that was there. -/
def Ret (w : World) (v : Value) (e : Ending) (w' : World) : Prop := e = .returned v ∧ Below w.heap.size w w'

theorem Ret.mk {w w' : World} {v v' : Value} (h : v = v') (hb : Below w.heap.size w w') : Ret w v' (.returned v) w' := ⟨by rw [h], hb⟩
theorem vbool {a b : Bool} (h : a = b) : Value.bool a = Value.bool b := by rw [h]
theorem vint {k : IntKind} {a b : Int} (h : a = b) : Value.int k a = Value.int k b := by rw [h]

theorem bcell {B : Nat} {w w1 : World} (hb : Below B w w1) : (∀ b o, b < B → w1.cell? ⟨b, o, none⟩ = w.cell? ⟨b, o, none⟩) ∧ (∀ b o, b < B → w1.frozen? ⟨b, o, none⟩ = w.frozen? ⟨b, o, none⟩) :=
  ⟨fun b o h => hb.cell (p := ⟨b, o, none⟩) h, fun b o h => hb.frozen (p := ⟨b, o, none⟩) h⟩

/-- Two calls, one behind the other. -/
theorem below2 {B : Nat} {w w1 w2 : World} (h : Below B w w1) (hB : B ≤ w1.heap.size) (h2 : Below w1.heap.size w1 w2) : Below B w w2 := h.trans (h2.mono hB)

theorem below_drewN {B : Nat} {a w : World} (h : Below B a w) (n : Nat) : Below B a (w.drewN n) := ⟨h.os, h.tape, h.output, h.size, h.block⟩

theorem not_run {P : Program} : ∀ (x : Bool) (w : World), (Op.unary .not (.bool x)).run P w = .ok (.bool (!x)) w := fun _ _ => rfl

/-- An int of 64 bits. -/
def I64 (x : Int) : Prop := -9223372036854775808 ≤ x ∧ x ≤ 9223372036854775807

/-- The slice at A reads as these pairs; it lies below block B. -/
def Prs (w : World) (B : Nat) (A : Option Addr) (ps : List Pr) : Prop :=
  ∀ i p, ps[i]? = some p → ∃ b o, A = some ⟨b, o, none⟩ ∧ b < B ∧ w.cell? ⟨b, o + i * 2, none⟩ = some (.int .i64 p.1) ∧ w.cell? ⟨b, o + i * 2 + 1, none⟩ = some (.int .i64 p.2)

/-- The slice at A reads as these values of one cell; it lies below block B. -/
def Vals (w : World) (B : Nat) (A : Option Addr) (xs : List Value) : Prop :=
  ∀ i x, xs[i]? = some x → ∃ b o, A = some ⟨b, o, none⟩ ∧ b < B ∧ w.cell? ⟨b, o + i, none⟩ = some x

section
variable {w w' : World} {B B' : Nat} {A : Option Addr} {ps : List Pr} {xs : List Value}

theorem Prs.nil : Prs w B A [] := fun i p h => by simp at h
theorem Prs.keep (h : Prs w B A ps) (hk : ∀ b o, b < B → w'.cell? ⟨b, o, none⟩ = w.cell? ⟨b, o, none⟩) : Prs w' B A ps := fun i p hi => by
  obtain ⟨b, o, e, hb, h1, h2⟩ := h i p hi
  exact ⟨b, o, e, hb, by rw [hk _ _ hb, h1], by rw [hk _ _ hb, h2]⟩
theorem Prs.more (h : Prs w B A ps) (hB : B ≤ B') : Prs w B' A ps := fun i p hi => by
  obtain ⟨b, o, e, hb, h1, h2⟩ := h i p hi
  exact ⟨b, o, e, by omega, h1, h2⟩
theorem Prs.below (h : Prs w B A ps) (hb : Below B w w') : Prs w' B A ps := h.keep (bcell hb).1
/-- Behind a call. -/
theorem Prs.after (h : Prs w w.heap.size A ps) (hb : Below w.heap.size w w') : Prs w' w'.heap.size A ps := (h.below hb).more hb.size
theorem Prs.at_ (h : Prs w B A ps) {k : Nat} (hk : k < ps.length) : ∃ b o, A = some ⟨b, o, none⟩ ∧ b < B ∧ w.cell? ⟨b, o + k * 2, none⟩ = some (.int .i64 ps[k].1) ∧ w.cell? ⟨b, o + k * 2 + 1, none⟩ = some (.int .i64 ps[k].2) :=
  h k _ (List.getElem?_eq_getElem hk)
theorem Prs.alloc (h : Prs w B A ps) (hB : B ≤ w.heap.size) (o : Obj) : Prs (w.alloc o) B A ps := h.below ((Below.refl _ _).alloc hB o)

theorem Vals.nil : Vals w B A [] := fun i p h => by simp at h
theorem Vals.keep (h : Vals w B A xs) (hk : ∀ b o, b < B → w'.cell? ⟨b, o, none⟩ = w.cell? ⟨b, o, none⟩) : Vals w' B A xs := fun i p hi => by
  obtain ⟨b, o, e, hb, h1⟩ := h i p hi
  exact ⟨b, o, e, hb, by rw [hk _ _ hb, h1]⟩
theorem Vals.more (h : Vals w B A xs) (hB : B ≤ B') : Vals w B' A xs := fun i p hi => by
  obtain ⟨b, o, e, hb, h1⟩ := h i p hi
  exact ⟨b, o, e, by omega, h1⟩
theorem Vals.below (h : Vals w B A xs) (hb : Below B w w') : Vals w' B A xs := h.keep (bcell hb).1
theorem Vals.after (h : Vals w w.heap.size A xs) (hb : Below w.heap.size w w') : Vals w' w'.heap.size A xs := (h.below hb).more hb.size
theorem Vals.at_ (h : Vals w B A xs) {k : Nat} (hk : k < xs.length) : ∃ b o, A = some ⟨b, o, none⟩ ∧ b < B ∧ w.cell? ⟨b, o + k, none⟩ = some xs[k] :=
  h k _ (List.getElem?_eq_getElem hk)
theorem Vals.alloc (h : Vals w B A xs) (hB : B ≤ w.heap.size) (o : Obj) : Vals (w.alloc o) B A xs := h.below ((Below.refl _ _).alloc hB o)

/-- The cells of pairs, one behind the other. -/
def flat (ps : List Pr) : List Value := ps.flatMap fun p => [.int .i64 p.1, .int .i64 p.2]

theorem flat_nil : flat [] = [] := rfl
theorem flat_cons (p : Pr) (ps : List Pr) : flat (p :: ps) = .int .i64 p.1 :: .int .i64 p.2 :: flat ps := rfl
theorem flat_append (ps qs : List Pr) : flat (ps ++ qs) = flat ps ++ flat qs := by simp [flat]
theorem flat_length : ∀ ps : List Pr, (flat ps).length = ps.length * 2
  | [] => rfl
  | p :: ps => by rw [flat_cons]; simp [flat_length ps]; omega
theorem flat_at : ∀ (ps : List Pr) (i : Nat) (p : Pr), ps[i]? = some p → (flat ps)[i * 2]? = some (.int .i64 p.1) ∧ (flat ps)[i * 2 + 1]? = some (.int .i64 p.2)
  | [], i, p, h => by simp at h
  | q :: ps, 0, p, h => by
    simp at h
    subst h
    exact ⟨rfl, rfl⟩
  | q :: ps, i + 1, p, h => by
    have := flat_at ps i p (by simpa using h)
    rw [flat_cons]
    have e : (i + 1) * 2 = i * 2 + 1 + 1 := by omega
    rw [e]
    simpa using this
theorem flat_one (ps : List Pr) : ∀ u ∈ flat ps, u.oneCell' = true := by
  intro u hu
  obtain ⟨p, _, hp⟩ := List.mem_flatMap.1 hu
  simp at hp
  rcases hp with rfl | rfl <;> rfl

theorem Prs.of_vals (h : Vals w B A (flat ps)) : Prs w B A ps := fun i p hi => by
  obtain ⟨h1, h2⟩ := flat_at ps i p hi
  obtain ⟨b, o, e, hb, c1⟩ := h _ _ h1
  obtain ⟨b', o', e', _, c2⟩ := h _ _ h2
  subst e
  injection e' with e'
  injection e' with e1 e2
  subst e1
  subst e2
  exact ⟨b, o, rfl, hb, c1, by rw [Nat.add_assoc]; exact c2⟩

/-- What the call itself has built by append reads as its cells. -/
theorem Vals.of_own {base : Nat} {e : TypeId} {size n : Nat} {c : Nat} (h : w.ownsRow base e size (.slice A n c) n xs) : Vals w w.heap.size A xs := by
  intro i x hi
  have hlen := h.1
  rcases h.2 with ⟨_, hn⟩ | ⟨g, cap, cur, hv, hg, hh, hnc, hcm, hcs, htk⟩
  · subst hn
    have : xs = [] := List.eq_nil_of_length_eq_zero (by simpa using hlen)
    subst this
    simp at hi
  · injection hv with hA
    subst hA
    refine ⟨g, 0, rfl, ?_, ?_⟩
    · rcases Nat.lt_or_ge g w.heap.size with hlt | hge
      · exact hlt
      · rw [Array.getElem?_eq_none hge] at hh
        cases hh
    · rw [cell_of_row w g (0 + i) cur e (0, 0) hh, Nat.zero_add]
      rw [← htk] at hi
      rw [List.getElem?_take] at hi
      split at hi
      · simpa using hi
      · cases hi
theorem own_cap {base : Nat} {e : TypeId} {size n : Nat} {c : Nat} (h : w.ownsRow base e size (.slice A n c) n xs) : n ≤ c := by
  rcases h.2 with ⟨hv, hn⟩ | ⟨g, cap, cur, hv, hg, hh, hnc, _⟩
  · omega
  · injection hv with _ _ hc
    omega
theorem own_form {base : Nat} {e : TypeId} {size n : Nat} {v : Value} (h : w.ownsRow base e size v n xs) : ∃ A c, v = .slice A n c ∧ n ≤ c := by
  rcases h.2 with ⟨rfl, rfl⟩ | ⟨g, cap, cur, rfl, _, _, hnc, _⟩
  · exact ⟨_, _, rfl, Nat.le_refl _⟩
  · exact ⟨_, _, rfl, hnc⟩
theorem Prs.none_ (h : Prs w B A ps) (hA : A = none) : ps = [] := by
  cases ps with
  | nil => rfl
  | cons p ps =>
    obtain ⟨b, o, e, _⟩ := h 0 p rfl
    rw [hA] at e
    cases e
theorem Vals.none_ (h : Vals w B A xs) (hA : A = none) : xs = [] := by
  cases xs with
  | nil => rfl
  | cons p ps =>
    obtain ⟨b, o, e, _⟩ := h 0 p rfl
    rw [hA] at e
    cases e
theorem Vals.cells (h : Vals w B A xs) : ∀ b, A = some b → ∀ j u, xs[j]? = some u → w.cell? (b.add j) = some u := by
  intro b hA j u hu
  obtain ⟨b', o', e, _, hc⟩ := h j u hu
  rw [hA] at e
  cases e
  rw [Addr.add_lit]
  exact hc
theorem Prs.vals (h : Prs w B A ps) : Vals w B A (flat ps) := by
  intro j u hu
  have hl : j < (flat ps).length := (List.getElem?_eq_some_iff.1 hu).1
  rw [flat_length] at hl
  have hj : j / 2 < ps.length := by omega
  have hp : ps[j / 2]? = some ps[j / 2] := List.getElem?_eq_getElem hj
  obtain ⟨b, o, e, hb, c1, c2⟩ := h (j / 2) _ hp
  obtain ⟨f1, f2⟩ := flat_at ps (j / 2) _ hp
  rcases Nat.mod_two_eq_zero_or_one j with hm | hm
  · have ej : j / 2 * 2 = j := by omega
    rw [ej] at f1 c1
    rw [hu] at f1
    cases f1
    exact ⟨b, o, e, hb, c1⟩
  · have ej : j / 2 * 2 + 1 = j := by omega
    rw [ej] at f2
    rw [Nat.add_assoc, ej] at c2
    rw [hu] at f2
    cases f2
    exact ⟨b, o, e, hb, c2⟩
end

/-- The slice at A reads as these pairs; its block is one of Q. -/
def PrsQ (w : World) (Q : Nat → Prop) (A : Option Addr) (ps : List Pr) : Prop :=
  ∀ i p, ps[i]? = some p → ∃ b o, A = some ⟨b, o, none⟩ ∧ Q b ∧ w.cell? ⟨b, o + i * 2, none⟩ = some (.int .i64 p.1) ∧ w.cell? ⟨b, o + i * 2 + 1, none⟩ = some (.int .i64 p.2)

/-- A block that was one of Q before, or that is new. -/
def QNew (w : World) (Q : Nat → Prop) (b : Nat) : Prop := (Q b ∧ b < w.heap.size) ∨ w.heap.size ≤ b

section
variable {w w' : World} {Q Q' : Nat → Prop} {A : Option Addr} {ps : List Pr}
theorem PrsQ.nil : PrsQ w Q A [] := fun i p h => by simp at h
theorem PrsQ.imp (h : PrsQ w Q A ps) (hq : ∀ b, Q b → b < w.heap.size → Q' b) : PrsQ w Q' A ps := fun i p hi => by
  obtain ⟨b, o, e, hb, h1, h2⟩ := h i p hi
  exact ⟨b, o, e, hq b hb (block_lt_of_cell h1), h1, h2⟩
theorem PrsQ.new (h : PrsQ w Q A ps) : PrsQ w (QNew w Q) A ps := h.imp fun _ hb hl => .inl ⟨hb, hl⟩
theorem PrsQ.prs (h : PrsQ w Q A ps) : Prs w w.heap.size A ps := fun i p hi => by
  obtain ⟨b, o, e, _, h1, h2⟩ := h i p hi
  exact ⟨b, o, e, block_lt_of_cell h1, h1, h2⟩
theorem Prs.q {N : Nat} (h : Prs w N A ps) : PrsQ w (· < N) A ps := h
theorem PrsQ.keep (h : PrsQ w Q A ps) (hk : ∀ b o, Q b → b < w.heap.size → w'.cell? ⟨b, o, none⟩ = w.cell? ⟨b, o, none⟩) : PrsQ w' Q A ps := fun i p hi => by
  obtain ⟨b, o, e, hb, h1, h2⟩ := h i p hi
  have hlt : b < w.heap.size := block_lt_of_cell h1
  exact ⟨b, o, e, hb, by rw [hk _ _ hb hlt, h1], by rw [hk _ _ hb hlt, h2]⟩
theorem PrsQ.below (h : PrsQ w Q A ps) (hb : Below w.heap.size w w') : PrsQ w' Q A ps := h.keep fun b o _ hlt => (bcell hb).1 b o hlt
theorem PrsQ.alloc (h : PrsQ w Q A ps) (o : Obj) : PrsQ (w.alloc o) Q A ps := h.below ((Below.refl _ _).alloc (Nat.le_refl _) o)
theorem PrsQ.setCell (h : PrsQ w Q A ps) {g j : Nat} (hg : ∀ b, Q b → b ≠ g) (u : Value) : PrsQ (w.setCell ⟨g, j, none⟩ u) Q A ps :=
  h.keep fun b o hb _ => World.cell?_setCell_other _ _ _ _ (fun e => by injection e with e; exact hg b hb e.symm)
theorem PrsQ.of_own {base : Nat} {e : TypeId} {n c : Nat} (h : w.ownsRow base e 2 (.slice A n c) n (flat ps)) (hS : ∀ b, base ≤ b → Q b) : PrsQ w Q A ps := fun i p hi => by
  obtain ⟨b, o, e, _, h1, h2⟩ := Prs.of_vals (Vals.of_own h) i p hi
  subst e
  have hg : base ≤ b := by
    rcases h.2 with ⟨hv, _⟩ | ⟨g, cap, cur, hv, hg, _⟩
    · cases hv
    · injection hv with hv
      injection hv with hv
      injection hv with hv
      omega
  exact ⟨b, o, rfl, hS b hg, h1, h2⟩
end

theorem cells_new (w : World) (xs : List Value) (e : TypeId) : ∀ j u, xs[j]? = some u → (w.alloc (.cells xs.toArray e)).cell? ((⟨w.heap.size, 0, none⟩ : Addr).add j) = some u := by
  intro j u hu
  rw [Addr.add_lit, cell_of_row (w.alloc (.cells xs.toArray e)) w.heap.size (0 + j) xs.toArray e (0, 0) (heap_alloc_new w _)]
  simpa using hu

/-- A block that is known whole. -/
def Blk (w : World) (g : Nat) (t : TypeId) (cs : Array Value) : Prop := w.heap[g]? = some (.cells cs t (0, 0))

section
variable {w w' : World} {g : Nat} {t : TypeId} {cs : Array Value}
theorem Blk.lt (h : Blk w g t cs) : g < w.heap.size := by
  rcases Nat.lt_or_ge g w.heap.size with hlt | hge
  · exact hlt
  · unfold Blk at h; rw [Array.getElem?_eq_none hge] at h; cases h
theorem Blk.cell (h : Blk w g t cs) (i : Nat) : w.cell? ⟨g, i, none⟩ = cs[i]? := cell_of_row w g i cs t (0, 0) h
theorem Blk.frozen (h : Blk w g t cs) (i : Nat) : w.frozen? ⟨g, i, none⟩ = false := by
  unfold Blk at h
  simp [World.frozen?, h]
theorem Blk.new (w : World) (t : TypeId) (cs : Array Value) : Blk (w.alloc (.cells cs t)) w.heap.size t cs := heap_alloc_new w _
theorem Blk.alloc (h : Blk w g t cs) (o : Obj) : Blk (w.alloc o) g t cs := (Below.heap_alloc w o g h.lt).trans h
theorem Blk.drew (h : Blk w g t cs) : Blk w.drew g t cs := h
theorem Blk.set_ (h : Blk w g t cs) (i : Nat) (u : Value) : Blk (w.setCell ⟨g, i, none⟩ u) g t (cs.setIfInBounds i u) := by
  unfold Blk at h ⊢
  simp [World.setCell, Array.getElem?_modify, h]
theorem Blk.far (h : Blk w g t cs) {p : Addr} (hp : g ≠ p.block) (u : Value) : Blk (w.setCell p u) g t cs := (Below.heap_setCell w p u g hp).trans h
theorem Blk.below {B : Nat} (h : Blk w g t cs) (hb : Below B w w') (hg : g < B) : Blk w' g t cs := (hb.block g hg).trans h
theorem Blk.grown {row : Option Nat} (h : Blk w g t cs) (hb : w.grownBy w' row) (hg : some g ≠ row) : Blk w' g t cs := (hb.block g h.lt hg).trans h
end
end Go.Proofs.Ytbdhkagcbncefaa

namespace Go.Proofs.Ytbdhkagcbncefaa
open Go.RowKit

theorem own_block {w : World} {base : Nat} {e : TypeId} {size n : Nat} {v : Value} {xs : List Value} (h : w.ownsRow base e size v n xs) : ∀ k, v.ownBlock = some k → base ≤ k := by
  intro k hk
  rcases h.2 with ⟨rfl, _⟩ | ⟨g, cap, cur, rfl, hg, _⟩
  · simp [Value.ownBlock] at hk
  · simp [Value.ownBlock] at hk
    omega

section
variable {P : Program} (w : World)

theorem run_append_nil_src (base : Nat) (t ty e : TypeId) (i : TypeInfo) (size : Nat) (ht : P.underlying t = some (.slice e)) (hi : P.info? e = some i)
    (v : Value) (n : Nat) (xs : List Value) (hown : w.ownsRow base e size v n xs) (c : Nat) : (Builtin.append_ #[t, t] ty #[v, .slice none 0 c]).run P w = .ok v w := by
  rcases hown.2 with ⟨rfl, rfl⟩ | ⟨g, cap, cur, rfl, _, _, hnc, _⟩
  · simp [Builtin.append_, run_underlying ht, sizeOf, typeInfo, hi, Builtin.lenOf, Builtin.firstCells]
  · simp [Builtin.append_, run_underlying ht, sizeOf, typeInfo, hi, Builtin.lenOf, Builtin.firstCells, hnc, storeCells]

theorem wpList_append_vals {ops : Array Oper} {rest : List Oper} {o : Oper} {a : Act} {Q : Exit → Act → World → Prop} (hgd : o.guard = none) (s x : Operand) (t : TypeId)
    (ho : o.op = .call { callee := .builtin .append, args := #[s, x], argTypes := #[t, t] })
    (base : Nat) (e : TypeId) (i : TypeInfo) (z : Value) (size bytes : Nat) (ht : P.underlying t = some (.slice e)) (hi : P.info? e = some i) (hz : i.zero = some z)
    (hsize : i.size = size) (hby : i.bytes = bytes) (hzs : z.cells.size = size) (hsz : 0 < size)
    (v : Value) (n : Nat) (xs : List Value) (hs : a.eval s = v) (hown : w.ownsRow base e size v n xs)
    (B : Nat) (A : Option Addr) (m c : Nat) (news : List Value) (hx : a.eval x = .slice A m c) (hl : news.length = m * size) (hnews : Vals w B A news) (h1 : ∀ u ∈ news, u.oneCell' = true)
    (h63 : n + m ≤ maxLen) (hbytes : (n + m) * bytes ≤ 140737488355328) (hbase : base ≤ w.heap.size)
    (h : ∀ v' w', w'.ownsRow base e size v' (n + m) (xs ++ news) → w.grownBy w' v.ownBlock → wpList P ops Q rest (a.put o.dst v') w') : wpList P ops Q (o :: rest) a w := by
  cases A with
  | none =>
    have hn := hnews.none_ rfl
    subst hn
    have hm : m = 0 := by
      have h0 : 0 = m * size := by simpa using hl
      rcases Nat.eq_zero_or_pos m with hz | hz
      · exact hz
      · have := Nat.mul_pos hz hsz
        omega
    subst hm
    refine wpList_plain hgd fun K hK => ?_
    have hrun := run_append_nil_src (P := P) w base t o.type e i size ht hi v n xs hown c
    unfold Oper.wp execOp
    simp only [ho, resolve, invoke, builtin, Sem.run_bind, Sem.run_pure, Result.andThen_ok, List.map_toArray, List.map_cons, List.map_nil, hs, hx, hrun]
    exact hK _ _ (h v w (by simpa using hown) (World.grownBy.refl w _))
  | some ad =>
    exact wpList_append_own w hgd s x t ho base e i z size bytes ht hi hz hsize hby hzs hsz v n xs hs hown ad m c news hx hl (hnews.cells ad rfl) h1 h63 hbytes hbase fun v' w' h2 h3 _ => h v' w' h2 h3
end

theorem vals_new (w : World) (xs : List Value) (e : TypeId) : Vals (w.alloc (.cells xs.toArray e)) (w.heap.size + 1) (some ⟨w.heap.size, 0, none⟩) xs := fun i x hi => by
  refine ⟨w.heap.size, 0, rfl, by omega, ?_⟩
  rw [cell_of_row (w.alloc (.cells xs.toArray e)) w.heap.size (0 + i) xs.toArray e (0, 0) (heap_alloc_new w _)]
  simpa using hi
end Go.Proofs.Ytbdhkagcbncefaa

namespace Go.Proofs.Ytbdhkagcbncefaa
open Go.RowKit Go.Maps

theorem laidOut : laidOutB Try.prog = true := by kernel_rfl
theorem pairRow : 41 < Try.prog.types.size := of_decide_eq_true (by kernel_rfl)
theorem pairDeep : Try.prog.keyType 41 = true := by kernel_rfl
theorem pairLaw : Keyed Try.prog 41 := Keyed.of_law (deep_law_laid laidOut (m := 3) (by omega) pairRow (by kernel_rfl) (by kernel_rfl))
theorem pairCells : Try.prog.cellsOf 41 = 2 := by kernel_rfl
theorem intCells : Try.prog.cellsOf 3 = 1 := by kernel_rfl
theorem typesPos : Try.prog.types.size = (Try.prog.types.size - 2) + 2 := by kernel_rfl

/-- What a pair reads as, as a key. -/
def kl (p : Pr) : Lit := .string (keyBytes [.int .i64 p.1, .int .i64 p.2])

/-- Both are ints of 64 bits. -/
def PrOk (p : Pr) : Prop := (Lit.int .i64 p.1).wf = true ∧ (Lit.int .i64 p.2).wf = true

theorem keyOf_pair {a b : Int} (h : PrOk (a, b)) : keyOf Try.prog 41 (.agg #[.int .i64 a, .int .i64 b]) = some (kl (a, b)) := by
  obtain ⟨h1, h2⟩ := h
  dsimp only at h1 h2
  have hk : ∀ m, Try.prog.keyLits (m + 1 + 1) 41 [.int .i64 a, .int .i64 b] = some [.int .i64 a, .int .i64 b] := by
    intro m
    unfold Program.keyLits
    rw [Try.underlying41]
    simp only [pairCells, intCells]
    have e : List.range 2 = [0, 1] := rfl
    simp only [e, List.length_cons, List.length_nil, Nat.reduceAdd, if_true]
    unfold Program.keyLits
    rw [Try.underlying3]
    simp [h1, h2]
  unfold keyOf
  rw [Try.underlying41]
  simp only [pairDeep, Value.formed, Try.underlying41, pairCells]
  have e2 : Try.prog.types.size + 1 = (Try.prog.types.size - 1) + 1 + 1 := by have := typesPos; omega
  simp only [Value.cells]
  rw [e2, hk]
  simp [kl]

theorem kl_key {p : Pr} (h : PrOk p) : WideAt.IsKeyLit (kl p) := pairLaw.key (keyOf_pair (a := p.1) (b := p.2) h)
theorem kl_inj {p q : Pr} (hp : PrOk p) (hq : PrOk q) (h : kl p = kl q) : p = q := by
  have h1 := keyOf_pair (a := p.1) (b := p.2) hp
  have h2 := keyOf_pair (a := q.1) (b := q.2) hq
  rw [show kl (p.1, p.2) = kl p from rfl] at h1
  rw [show kl (q.1, q.2) = kl q from rfl, ← h] at h2
  have e := congrArg (fun v => v.cells.toList) (pairLaw.inj h1 h2)
  simp only [Value.cells, List.cons.injEq, Value.int.injEq, true_and, and_true] at e
  exact Prod.ext e.1 e.2

theorem zeroInt (w : World) : (zeroValue 3).run Try.prog w = .ok (.int .i64 0) w := by kernel_rfl

/-! Two pairs. -/
theorem intInfo : (Try.prog.info? 3).map (fun i => (i.zero, i.size, i.bytes)) = some (some (.int .i64 0), 1, 8) := by kernel_rfl
theorem equalIn_pair (n : Nat) (a b c d : Int) (w : World) : (Op.equalIn (n + 1 + 1) 41 (.agg #[.int .i64 a, .int .i64 b]) (.agg #[.int .i64 c, .int .i64 d])).run Try.prog w = .ok (a == c && b == d) w := by
  obtain ⟨i0, hi0, hz0, hz1, hz2⟩ := info_parts intInfo
  have e1 : ∀ x y : Int, (Op.equalIn (n + 1) 3 (.int .i64 x) (.int .i64 y)).run Try.prog w = .ok (x == y) w := fun x y => run_equalIn_int w n 3 .i64 .i64 x y Try.underlying3
  have p0 : ∀ x y : Int, (part 3 #[.int .i64 x, .int .i64 y] 0).run Try.prog w = .ok (.int .i64 x) w := fun x y => by kernel_rfl
  have p1 : ∀ x y : Int, (part 3 #[.int .i64 x, .int .i64 y] 1).run Try.prog w = .ok (.int .i64 y) w := fun x y => by kernel_rfl
  rw [Op.equalIn]
  simp only [Sem.run_bind, run_underlying Try.underlying41, Result.andThen_ok, sizeOf, typeInfo]
  simp only [Std.Legacy.Range.forIn_eq_forIn_range', Std.Legacy.Range.size]
  simp [hi0, hz1, List.range', e1, p0, p1]
  by_cases h1 : a = c <;> by_cases h2 : b = d <;> simp [h1, h2]
theorem eql_pair (a b c d : Int) (w : World) : (binOp .eql 41 (.agg #[.int .i64 a, .int .i64 b]) (.agg #[.int .i64 c, .int .i64 d])).run Try.prog w = .ok (.bool (a == c && b == d)) w := by
  rw [run_eql_struct, show (10000 : Nat) = 9998 + 1 + 1 from rfl, equalIn_pair]
  rfl
theorem neq_pair (a b c d : Int) (w : World) : (binOp .neq 41 (.agg #[.int .i64 a, .int .i64 b]) (.agg #[.int .i64 c, .int .i64 d])).run Try.prog w = .ok (.bool (!(a == c && b == d))) w := by
  rw [run_neq_struct, show (10000 : Nat) = 9998 + 1 + 1 from rfl, equalIn_pair]
  rfl

/-- The map D holds each of the pairs, at its first place. -/
structure Idx (D : DataW Unit) (ps : List Pr) : Prop where
  tidy : Tidy D
  mem : ∀ p, PrOk p → (Maps.has D (kl p) = true ↔ p ∈ ps)
  at_ : ∀ (i : Nat) (p : Pr), PrOk p → ps[i]? = some p → (∀ j : Nat, j < i → ps[j]? ≠ some p) → ∀ z, D.atKey (kl p) z = .lit (.int .i64 (i : Int))
  le : Maps.size D ≤ ps.length
  all : Maps.size D = ps.length ↔ ps.Nodup

theorem Idx.nil : Idx (.map []) [] := ⟨tidy_empty, fun p _ => by simp [Maps.has], fun i p _ h => by simp at h, by simp [Maps.size], by simp [Maps.size]⟩

theorem Idx.keep {D : DataW Unit} {ps : List Pr} (h : Idx D ps) {p : Pr} (hp : p ∈ ps) : Idx D (ps ++ [p]) := by
  refine ⟨h.tidy, fun q hq => ?_, fun i q hq hi hf z => ?_, ?_, ?_⟩
  · rw [h.mem q hq]
    simp
    intro e
    rw [e]
    exact hp
  · by_cases hlt : i < ps.length
    · rw [List.getElem?_append_left hlt] at hi
      exact h.at_ i q hq hi (fun j hj => by have := hf j hj; rwa [List.getElem?_append_left (by omega)] at this) z
    · have hil : i < (ps ++ [p]).length := (List.getElem?_eq_some_iff.1 hi).1
      simp at hil
      have : i = ps.length := by omega
      subst this
      simp at hi
      subst hi
      obtain ⟨j, hj, e⟩ := List.getElem_of_mem hp
      exact absurd (by rw [List.getElem?_append_left hj, List.getElem?_eq_getElem hj, e]) (hf j hj)
  · simp
    exact Nat.le_succ_of_le h.le
  · have h1 := h.le
    constructor
    · intro e
      simp at e
      omega
    · intro hn
      have := (List.nodup_append.1 hn).2.2 p hp p (by simp)
      exact absurd rfl this

theorem Idx.put {D : DataW Unit} {ps : List Pr} (h : Idx D ps) {p : Pr} (hk : PrOk p) (hp : p ∉ ps) : Idx (D.put (kl p) (.lit (.int .i64 (ps.length : Int)))) (ps ++ [p]) := by
  have hno : Maps.has D (kl p) = false := by
    cases e : Maps.has D (kl p)
    · rfl
    · exact absurd ((h.mem p hk).1 e) hp
  have hm := h.tidy.isMap
  have hs : Maps.size (D.put (kl p) (.lit (.int .i64 (ps.length : Int)))) = Maps.size D + 1 := by
    rw [size_put h.tidy, hno]
    simp
  refine ⟨h.tidy.put (kl_key hk) _, fun q hq => ?_, fun i q hq hi hf z => ?_, ?_, ?_⟩
  · by_cases e : q = p
    · subst e
      simp [has_put_same hm (kl_key hk)]
    · have hne : kl q ≠ kl p := fun e' => e (kl_inj hq hk e')
      rw [has_put_other hne, h.mem q hq]
      simp [e]
  · by_cases hlt : i < ps.length
    · rw [List.getElem?_append_left hlt] at hi
      have hq' : q ∈ ps := List.mem_of_getElem? hi
      have e : q ≠ p := fun e => hp (by rw [← e]; exact hq')
      have hne : kl q ≠ kl p := fun e' => e (kl_inj hq hk e')
      rw [atKey_put_other hne]
      exact h.at_ i q hq hi (fun j hj => by have := hf j hj; rwa [List.getElem?_append_left (by omega)] at this) z
    · have hil : i < (ps ++ [p]).length := (List.getElem?_eq_some_iff.1 hi).1
      simp at hil
      have : i = ps.length := by omega
      subst this
      simp at hi
      subst hi
      exact atKey_put_same hm (kl_key hk) _ _
  · rw [hs]
    have := h.le
    simp
    omega
  · rw [hs]
    have h1 := h.le
    constructor
    · intro e
      simp at e
      refine List.nodup_append.2 ⟨h.all.1 e, by simp, fun a ha b hb => ?_⟩
      simp at hb
      subst hb
      rintro rfl
      exact hp ha
    · intro hn
      have := h.all.2 (List.nodup_append.1 hn).1
      simp
      omega
end Go.Proofs.Ytbdhkagcbncefaa

namespace Go.Proofs.Ytbdhkagcbncefaa
open Go.RowKit Go.Maps

theorem disable (w : World) : (callFunc 117 #[]).run Try.prog w = .ok (.value (.tuple #[])) w := run_call_mark0 Try.func117 (by kernel_rfl) (by kernel_rfl) (by kernel_rfl) .disable (by kernel_rfl) w
theorem enable (w : World) : (callFunc 119 #[]).run Try.prog w = .ok (.value (.tuple #[])) w := run_call_mark0 Try.func119 (by kernel_rfl) (by kernel_rfl) (by kernel_rfl) .enable (by kernel_rfl) w
theorem acquire (a : Addr) (w : World) : (callFunc 120 #[.pointer (some a)]).run Try.prog w = .ok (.value (.tuple #[])) w := run_call_marked Try.func120 (by kernel_rfl) (by kernel_rfl) (by kernel_rfl) .acquire (by kernel_rfl) a w
theorem releaseMerge (a : Addr) (w : World) : (callFunc 122 #[.pointer (some a)]).run Try.prog w = .ok (.value (.tuple #[])) w := run_call_marked Try.func122 (by kernel_rfl) (by kernel_rfl) (by kernel_rfl) .releaseMerge (by kernel_rfl) a w

/-- '(*sync/atomic.Bool).Store(true)', entered as a deferred call: the cell holds 1. -/
theorem store_deferred (a : Addr) (x : Value) (u : FrameMode) (w : World) (hc : w.cell? a = some x) (hz : w.frozen? a = false) :
    CallsD Try.prog 112 #[.pointer (some a), .bool true] u w fun e u' w' => u' = u ∧ (e = .returned (.tuple #[]) ∧ w' = w.drew.setCell a (.int .u32 1)) := by
  have hc' : w.drew.cell? a = some x := by go_simp
  have hz' : w.drew.frozen? a = false := by go_simp
  have hst := run_call_store (P := Try.prog) Try.func115 (by kernel_rfl) (by kernel_rfl) (by kernel_rfl) (by kernel_rfl) (k := .u32) (y := 1) hc' hz'
  go_enter_d Try.func112, Try.ntmps112
  go_wp2
  go_region_calls
  all_goals (go_end0; exact ⟨rfl, rfl⟩)

set_option maxRecDepth 100000 in
set_option maxHeartbeats 1600000 in
/-- '(*sync.Mutex).Unlock', entered as a deferred call, the lock held and nobody waiting (state 1): state 0. -/
theorem unlock_deferred (a : Addr) (u : FrameMode) (w : World) (hc : w.cell? a = some (.int .i32 1)) (hz : w.frozen? a = false) :
    CallsD Try.prog 111 #[.pointer (some a)] u w fun e u' w' => u' = u ∧ (e = .returned (.tuple #[]) ∧ w' = w.setCell a (.int .i32 0)) := by
  have hd := disable
  have he := enable
  have hr := releaseMerge
  have hadd := run_call_add (P := Try.prog) Try.func123 (by kernel_rfl) (by kernel_rfl) (by kernel_rfl) .i32 (by kernel_rfl) (y := -1) (s := 0) hc hz (by simp [go_sem]; rfl)
  have hcv := run_convert_to_unsafe (P := Try.prog) (src := 133) (dst := 137) Try.underlying133 Try.underlying137 (by kernel_rfl) hc
  go_enter_d Try.func111, Try.ntmps111
  go_wp2
  go_end0
  go_wp2
  go_end0
  exact ⟨rfl, rfl⟩

set_option maxRecDepth 100000 in
set_option maxHeartbeats 1600000 in
/-- '(*sync.Mutex).Lock', the lock free (state 0): state 1. -/
theorem lock_free (a : Addr) (w : World) (hc : w.cell? a = some (.int .i32 0)) (hz : w.frozen? a = false) :
    Calls Try.prog 110 #[.pointer (some a)] w fun e w' => e = .returned (.tuple #[]) ∧ w' = w.setCell a (.int .i32 1) := by
  have hd := disable
  have he := enable
  have ha := acquire
  have hcas := run_call_cas_hit (P := Try.prog) Try.func118 (by kernel_rfl) (by kernel_rfl) (by kernel_rfl) .i32 (by kernel_rfl) (y := 1) hc hz
  have hc' : (w.setCell a (.int .i32 1)).cell? a = some (.int .i32 1) := World.cell?_setCell_same w a _ hc
  have hcv := run_convert_to_unsafe (P := Try.prog) (src := 133) (dst := 137) Try.underlying133 Try.underlying137 (by kernel_rfl) hc'
  go_enter Try.func110, Try.ntmps110
  go_wp2
  first | go_end0 | (simp only [Exit.inBlock, Exit.then]; refine bodyPost_ret (results_none rfl _ _ _) rfl ?_) | refine bodyPost_ret (results_none rfl _ _ _) rfl ?_
  go_wp2
  go_end0
  exact ⟨rfl, rfl⟩
end Go.Proofs.Ytbdhkagcbncefaa

namespace Go.Proofs.Ytbdhkagcbncefaa
open Go.RowKit Go.Maps

/-- The index at block b, made. -/
def Made (w w' : World) (b : Nat) (x0 x1 x2 : Value) (A : Option Addr) (c : Nat) (ps : List Pr) : Prop :=
  Blk w' b 96 #[x0, x1, x2, .slice A ps.length c, .map (some w.heap.size)] ∧ w.grownBy w' (some b) ∧
    ∃ D n, w'.ownsMap Try.prog 41 (plainElem Try.prog 3) w.heap.size n D ∧ Idx D ps

/-- What holds at the head of round k. -/
def MkRel (w wr : World) (b : Nat) (x0 x1 x2 : Value) (A : Option Addr) (c : Nat) (ps : List Pr) (k : Nat) : Prop :=
  Blk wr b 96 #[x0, x1, x2, .slice A ps.length c, .map (some w.heap.size)] ∧ w.grownBy wr (some b) ∧
    ∃ D n, wr.ownsMap Try.prog 41 (plainElem Try.prog 3) w.heap.size n D ∧ n ≤ k ∧ Idx D (ps.take k)

theorem grown_alloc {a w : World} {row : Option Nat} (h : a.grownBy w row) (o : Obj) : a.grownBy (w.alloc o) row :=
  ⟨h.os, h.tape, h.output, Nat.le_trans h.size (by simp), fun i hi hne => (Below.heap_alloc w o i (Nat.lt_of_lt_of_le hi h.size)).trans (h.block i hi hne)⟩
theorem _root_.Go.World.grownBy.drew {a w : World} {row : Option Nat} (h : a.grownBy w row) : a.grownBy w.drew row := ⟨h.os, h.tape, h.output, h.size, h.block⟩
/-- A step more, which turns one block that is new. -/
theorem grown_grown {a w w' : World} {row : Option Nat} {g : Nat} (h : a.grownBy w row) (h' : w.grownBy w' (some g)) (hg : a.heap.size ≤ g) : a.grownBy w' row :=
  ⟨h'.os.trans h.os, h'.tape.trans h.tape, h'.output.trans h.output, Nat.le_trans h.size h'.size, fun i hi hne => (h'.block i (Nat.lt_of_lt_of_le hi h.size) (by simp; omega)).trans (h.block i hi hne)⟩

set_option maxHeartbeats 400000 in
theorem make_any (b : Nat) (x0 x1 x2 x4 : Value) (A : Option Addr) (c : Nat) (ps : List Pr) (w : World)
    (hx : Blk w b 96 #[x0, x1, x2, .slice A ps.length c, x4]) (hp : Prs w b A ps) (hok : ∀ p ∈ ps, PrOk p) (hl : ps.length ≤ 2000) :
    Calls Try.prog 100 #[.pointer (some ⟨b, 0, none⟩)] w fun e w' => e = .returned (.tuple #[]) ∧ Made w w' b x0 x1 x2 A c ps := by
  have hmm := @run_makeMap Try.prog
  have hnot := @not_run Try.prog
  have hx1 := hx.alloc (.map #[] 0)
  have c4 := hx1.cell 4
  have f4 := hx1.frozen 4
  have hx2 := hx1.set_ 4 (.map (some w.heap.size))
  have c3 := hx2.cell 3
  simp at c3 c4
  have H0 : MkRel w ((w.alloc (.map #[] 0)).setCell ⟨b, 4, none⟩ (.map (some w.heap.size))) b x0 x1 x2 A c ps 0 :=
    ⟨hx2, ⟨rfl, rfl, rfl, by simp [World.setCell], fun i hi hne => (Below.heap_setCell _ _ _ i (fun e => hne (by rw [e]))).trans (Below.heap_alloc w _ i hi)⟩, .map [], 0,
      (World.ownsMap_made w _ _ _).setCell (by have := hx.lt; simp; omega) _, Nat.le_refl _, by simpa using Idx.nil⟩
  go_enter Try.func100, Try.ntmps100
  go_wp2
  go_loopw [15] (fun i wr => ∃ k : Nat, k ≤ ps.length ∧ i = .int .i64 k ∧ MkRel w wr b x0 x1 x2 A c ps k) (fun i _ => ps.length - (intOf i).toNat)
  case atStart => exact ⟨0, Nat.zero_le _, rfl, H0⟩
  case round =>
    obtain ⟨k, hk, rfl, hr⟩ := hrel
    by_cases hlt : k < ps.length
    · obtain ⟨hb, hg, D, n, hown, hn, hI⟩ := hr
      obtain ⟨⟨a1, a2⟩, hpk⟩ : ∃ p, ps[k]? = some p := ⟨_, List.getElem?_eq_getElem hlt⟩
      have hpok := hok _ (List.mem_of_getElem? hpk)
      obtain ⟨b', o', rfl, hlb, hc1, hc2⟩ := hp k _ hpk
      have hbb : b' < w.heap.size := Nat.lt_trans hlb hx.lt
      have g1 : wr.cell? ⟨b', o' + k * 2, none⟩ = some (.int .i64 a1) := (World.cell?_of_block (hg.block b' hbb (by simp; omega))).trans hc1
      have g2 : wr.cell? ⟨b', o' + k * 2 + 1, none⟩ = some (.int .i64 a2) := (World.cell?_of_block (hg.block b' hbb (by simp; omega))).trans hc2
      have hkey := keyOf_pair hpok
      have hown2 : ((wr.alloc (.cells #[.int .i64 a1, .int .i64 a2] 41)).drew).ownsMap Try.prog 41 (plainElem Try.prog 3) w.heap.size n D := hown.alloc _
      have c4 : (wr.alloc (.cells #[.int .i64 a1, .int .i64 a2] 41)).drew.cell? ⟨b, 4, none⟩ = some (.map (some w.heap.size)) := ((hb.alloc _).cell 4).trans rfl
      have c5 : (wr.alloc (.cells #[.int .i64 a1, .int .i64 a2] 41)).drew.drew.cell? ⟨b, 4, none⟩ = some (.map (some w.heap.size)) := ((hb.alloc _).cell 4).trans rfl
      obtain ⟨v, pl, hrun, hv⟩ := hown2.look_ok pairLaw Try.underlying94 (zeroInt _) (plainElem_int Try.underlying3 (by decide)) hkey
      obtain ⟨vi, rfl, _, _⟩ := plainElem_int_inv Try.underlying3 hv
      have htk : ps.take (k + 1) = ps.take k ++ [(a1, a2)] := by rw [List.take_add_one, hpk]; rfl
      have hkl : (ps.take k).length = k := by simp; omega
      have hmem := hI.mem _ hpok
      by_cases hin : (a1, a2) ∈ ps.take k
      · rw [hmem.2 hin] at hrun
        have HF : Hid (MkRel w ((wr.alloc (.cells #[.int .i64 a1, .int .i64 a2] 41)).drew) b x0 x1 x2 (some ⟨b', o', none⟩) c ps (k + 1)) :=
          ⟨(hb.alloc _).drew, (grown_alloc hg _).drew, D, n, hown2, by omega, by rw [htk]; exact hI.keep hin⟩
        clear hb hown hkey hown2 hv hmem hok hI hx hx1 hx2 hpk hp htk hpok hkl hg hin f4 H0
        go_wp2_with fail
        go_region
        all_goals go_wp2_with fail
        all_goals go_roundw
        case rel => exact ⟨k + 1, by omega, by go_num, HF.out⟩
        case measure => simp [intOf]; omega
      · have hno : Maps.has D (kl (a1, a2)) = false := by
          cases e : Maps.has D (kl (a1, a2))
          · rfl
          · exact absurd (hmem.1 e) hin
        rw [hno] at hrun
        have hown3 : ((wr.alloc (.cells #[.int .i64 a1, .int .i64 a2] 41)).drew.drew).ownsMap Try.prog 41 (plainElem Try.prog 3) w.heap.size n D := hown2
        obtain ⟨w3, hrun3, hown4, ht3⟩ := hown3.store pairLaw Try.underlying94 (by unfold maxLen; omega) (val := .int .i64 k) hkey (plainElem_int Try.underlying3 (by simp [Lit.wf, IntKind.min, IntKind.max, IntKind.signed, IntKind.bits]; omega))
        have HF : Hid (MkRel w w3 b x0 x1 x2 (some ⟨b', o', none⟩) c ps (k + 1)) := by
          have hbm : b ≠ w.heap.size := by have := hx.lt; omega
          refine ⟨(Blk.drew (Blk.drew (hb.alloc _))).grown ht3.grown (fun e => hbm (by simpa using e)), grown_grown (grown_alloc hg _).drew.drew ht3.grown (Nat.le_refl _), _, n + 1, hown4, by omega, ?_⟩
          rw [htk]
          have := hI.put hpok hin
          rw [hkl] at this
          exact this
        clear hb hown hkey hown2 hown3 hown4 hv hmem hok hI hx hx1 hx2 hpk hp htk hpok hkl hg hin f4 H0 ht3 hno
        go_wp2_with fail
        go_region
        all_goals go_wp2_with fail
        all_goals go_region
        all_goals go_wp2_with fail
        all_goals go_roundw
        case rel => exact ⟨k + 1, by omega, by go_num, HF.out⟩
        case measure => simp [intOf]; omega
    · have hke : k = ps.length := by omega
      have HF : Hid (Made w wr b x0 x1 x2 A c ps) := by
        obtain ⟨hb, hg, D, n, hown, hn, hI⟩ := hr
        exact ⟨hb, hg, D, n, hown, by rw [hke, List.take_length] at hI; exact hI⟩
      clear hr hx hx1 hx2 hp hok H0 hke
      go_wp2_with fail
      go_end0
      exact ⟨rfl, HF.out⟩
end Go.Proofs.Ytbdhkagcbncefaa

namespace Go.Proofs.Ytbdhkagcbncefaa
open Go.RowKit Go.Maps

/-- An index that was never asked. -/
def Fresh (w : World) (b : Nat) (A : Option Addr) (c : Nat) (ps : List Pr) : Prop :=
  Blk w b 96 #[.int .u32 0, .int .i32 0, .int .u32 0, .slice A ps.length c, .map none]

/-- An index that was made. -/
def Ready (w : World) (b : Nat) (A : Option Addr) (c : Nat) (ps : List Pr) : Prop :=
  ∃ bm D n, Blk w b 96 #[.int .u32 1, .int .i32 0, .int .u32 0, .slice A ps.length c, .map (some bm)] ∧
    w.ownsMap Try.prog 41 (plainElem Try.prog 3) bm n D ∧ Idx D ps

theorem grown_set {a w : World} {g : Nat} (h : a.grownBy w (some g)) (i : Nat) (u : Value) : a.grownBy (w.setCell ⟨g, i, none⟩ u) (some g) :=
  ⟨h.os, h.tape, h.output, by simpa [World.setCell] using h.size, fun j hj hne => (Below.heap_setCell w _ u j (fun e => hne (by rw [e]))).trans (h.block j hj hne)⟩
theorem grown_trans {a w w' : World} {row : Option Nat} (h : a.grownBy w row) (h' : w.grownBy w' row) : a.grownBy w' row :=
  ⟨h'.os.trans h.os, h'.tape.trans h.tape, h'.output.trans h.output, Nat.le_trans h.size h'.size, fun i hi hne => (h'.block i (Nat.lt_of_lt_of_le hi h.size) hne).trans (h.block i hi hne)⟩

theorem make_func : ∀ (fn : Fn) (first cap : Array Value) (w : World), (Instr.makeFunc fn first cap).run Try.prog w = .ok (.func fn first cap) w := fun _ _ _ _ => rfl

theorem load_zero (a : Addr) (w : World) (h : w.cell? a = some (.int .u32 0)) :
    Calls Try.prog 106 #[.pointer (some a)] w fun e w' => e = .returned (.bool false) ∧ w' = w := by
  have hl := run_call_load (P := Try.prog) Try.func109 (by kernel_rfl) (by kernel_rfl) (by kernel_rfl) .u32 (by kernel_rfl) h
  go_enter Try.func106, Try.ntmps106
  go_wp2
  go_ret
  exact ⟨rfl, rfl⟩
theorem load_one (a : Addr) (w : World) (h : w.cell? a = some (.int .u32 1)) :
    Calls Try.prog 106 #[.pointer (some a)] w fun e w' => e = .returned (.bool true) ∧ w' = w := by
  have hl := run_call_load (P := Try.prog) Try.func109 (by kernel_rfl) (by kernel_rfl) (by kernel_rfl) .u32 (by kernel_rfl) h
  go_enter Try.func106, Try.ntmps106
  go_wp2
  go_ret
  exact ⟨rfl, rfl⟩

set_option maxRecDepth 100000 in
set_option maxHeartbeats 1600000 in
theorem slow_any (b : Nat) (A : Option Addr) (c : Nat) (ps : List Pr) (w : World) (hx : Fresh w b A c ps) (hp : Prs w b A ps) (hok : ∀ p ∈ ps, PrOk p) (hl : ps.length ≤ 2000) :
    Calls Try.prog 107 #[.pointer (some ⟨b, 0, none⟩), .func (.func 100) #[.pointer (some ⟨b, 0, none⟩)] #[]] w fun e w' =>
      e = .returned (.tuple #[]) ∧ w.grownBy w' (some b) ∧ Ready w' b A c ps := by
  have hx1 : Blk (w.setCell ⟨b, 1, none⟩ (.int .i32 1)) b 96 #[.int .u32 0, .int .i32 1, .int .u32 0, .slice A ps.length c, .map none] := Blk.set_ hx 1 _
  have hp1 : Prs (w.setCell ⟨b, 1, none⟩ (.int .i32 1)) b A ps := hp.keep (fun b' o h => World.cell?_setCell_other _ _ _ _ (fun e => by injection e; omega))
  have hnot := @not_run Try.prog
  go_enter_defers Try.func107, Try.ntmps107
  go_wp2_with (first
    | (go_at_call 110; refine (lock_free ⟨b, 1, none⟩ _ ((Blk.cell hx 1).trans rfl) (Blk.frozen hx 1)).mono ?_; rintro e w' ⟨rfl, rfl⟩)
    | (go_at_call 106; refine (load_zero ⟨b, 0, none⟩ _ ((hx1.cell 0).trans rfl)).mono ?_; rintro e w' ⟨rfl, rfl⟩))
  refine (make_any b _ _ _ _ A c ps _ hx1 hp1 hok hl).mono ?_
  rintro e w2 ⟨rfl, hb2, hg2, D, n, hown, hI⟩
  go_wp2
  refine leaves_cons (f := 112) (args := #[.pointer (some ⟨b, 0, none⟩), .bool true]) (by simp) (by simp [go_sem]) ?_
  refine (store_deferred ⟨b, 0, none⟩ (.int .u32 0) .returning _ ((hb2.cell 0).trans rfl) (hb2.frozen 0)).mono ?_
  rintro e u' w'' ⟨rfl, rfl, rfl⟩
  have hb3 := (Blk.drew hb2).set_ 0 (.int .u32 1)
  refine leaves_cons (f := 111) (args := #[.pointer (some ⟨b, 1, none⟩)]) (by simp [settle]) (by simp [go_sem]) ?_
  refine (unlock_deferred ⟨b, 1, none⟩ _ _ ((hb3.cell 1).trans rfl) (hb3.frozen 1)).mono ?_
  rintro e u' w'' ⟨rfl, rfl, rfl⟩
  have hb4 := hb3.set_ 1 (.int .i32 0)
  have HF : Hid (w.grownBy ((w2.drew.setCell ⟨b, 0, none⟩ (.int .u32 1)).setCell ⟨b, 1, none⟩ (.int .i32 0)) (some b) ∧ Ready ((w2.drew.setCell ⟨b, 0, none⟩ (.int .u32 1)).setCell ⟨b, 1, none⟩ (.int .i32 0)) b A c ps) := by
    have hbn : b ≠ w.heap.size := Nat.ne_of_lt hx.lt
    have hz : (w.setCell ⟨b, 1, none⟩ (.int .i32 1)).heap.size = w.heap.size := by simp [World.setCell]
    rw [hz] at hb4 hown
    exact ⟨grown_set (grown_set (grown_trans (grown_set (World.grownBy.refl w (some b)) 1 _) hg2).drew 0 _) 1 _, w.heap.size, D, n, hb4, (hown.drew.setCell (a := ⟨b, 0, none⟩) (Ne.symm hbn) _).setCell (a := ⟨b, 1, none⟩) (Ne.symm hbn) _, hI⟩
  clear hb2 hb3 hb4 hown hI hx hp hok hx1 hp1 hg2
  simp [Leaves, settle, results, Try.results107]
  exact HF.out

set_option maxRecDepth 100000 in
set_option maxHeartbeats 1600000 in
theorem do_first (b : Nat) (A : Option Addr) (c : Nat) (ps : List Pr) (w : World) (hx : Fresh w b A c ps) (hp : Prs w b A ps) (hok : ∀ p ∈ ps, PrOk p) (hl : ps.length ≤ 2000) :
    Calls Try.prog 99 #[.pointer (some ⟨b, 0, none⟩), .func (.func 100) #[.pointer (some ⟨b, 0, none⟩)] #[]] w fun e w' =>
      e = .returned (.tuple #[]) ∧ w.grownBy w' (some b) ∧ Ready w' b A c ps := by
  have hnot := @not_run Try.prog
  go_enter Try.func99, Try.ntmps99
  go_wp2_with (first
    | (go_at_call 106; refine (load_zero ⟨b, 0, none⟩ _ ((Blk.cell hx 0).trans rfl)).mono ?_; rintro e w' ⟨rfl, rfl⟩)
    | (go_at_call 107; refine (slow_any b A c ps _ hx hp hok hl).mono ?_; rintro e w2 ⟨rfl, hg2, hr2⟩))
  go_end0
  exact ⟨rfl, hg2, hr2⟩

set_option maxRecDepth 100000 in
theorem do_done (b : Nat) (A : Option Addr) (c : Nat) (ps : List Pr) (fv : Value) (w : World) (hx : Ready w b A c ps) :
    Calls Try.prog 99 #[.pointer (some ⟨b, 0, none⟩), fv] w fun e w' => e = .returned (.tuple #[]) ∧ w' = w := by
  have hnot := @not_run Try.prog
  obtain ⟨bm, D, n, hb, _, _⟩ := hx
  go_enter Try.func99, Try.ntmps99
  go_wp2_with (go_at_call 106; refine (load_one ⟨b, 0, none⟩ _ ((hb.cell 0).trans rfl)).mono ?_; rintro e w' ⟨rfl, rfl⟩)
  go_end0
  exact ⟨rfl, rfl⟩

/-- How many unlike gates there are. -/
def ManyIs (w w' : World) (b : Nat) (A : Option Addr) (c : Nat) (ps : List Pr) (e : Ending) : Prop :=
  ∃ m : Nat, e = .returned (.int .i64 m) ∧ m ≤ ps.length ∧ (m = ps.length ↔ ps.Nodup) ∧ w.grownBy w' (some b) ∧ Ready w' b A c ps

set_option maxRecDepth 100000 in
theorem many_fresh (b : Nat) (A : Option Addr) (c : Nat) (ps : List Pr) (w : World) (hx : Fresh w b A c ps) (hp : Prs w b A ps) (hok : ∀ p ∈ ps, PrOk p) (hl : ps.length ≤ 2000) :
    Calls Try.prog 98 #[.pointer (some ⟨b, 0, none⟩)] w fun e w' => ManyIs w w' b A c ps e := by
  have hmf := make_func
  go_enter Try.func98, Try.ntmps98
  go_wp2_with fail
  refine (do_first b A c ps _ hx hp hok hl).mono ?_
  rintro e w2 ⟨rfl, hg2, hr2⟩
  have HR := Lib.hid hr2
  obtain ⟨bm, D, n, hb2, hown, hI⟩ := hr2
  have c4 : w2.cell? ⟨b, 4, none⟩ = some (.map (some bm)) := (hb2.cell 4).trans rfl
  have hlen := hown.len Try.underlying94 3
  clear hb2 hown hx hp hok
  go_wp2_with fail
  go_ret
  exact ⟨Maps.size D, rfl, hI.le, hI.all, hg2, HR.out⟩

/-- A gate's place. -/
def FindIs (w w' : World) (ps : List Pr) (p : Pr) (e : Ending) : Prop :=
  ((∃ i : Nat, ps[i]? = some p ∧ e = .returned (.tuple #[.int .i64 i, .bool true])) ∨ (p ∉ ps ∧ e = .returned (.tuple #[.int .i64 0, .bool false]))) ∧ Below w.heap.size w w'

set_option maxRecDepth 100000 in
theorem find_ready (b : Nat) (A : Option Addr) (c : Nat) (ps : List Pr) (p1 p2 : Int) (w : World) (hx : Ready w b A c ps) (hok : PrOk (p1, p2)) (hn : ps.Nodup) :
    Calls Try.prog 74 #[.pointer (some ⟨b, 0, none⟩), .agg #[.int .i64 p1, .int .i64 p2]] w fun e w' => FindIs w w' ps (p1, p2) e := by
  have hmf := make_func
  have hbel : Below w.heap.size w ((w.alloc (.cells #[.int .i64 p1, .int .i64 p2] 41)).drew) := ((Below.refl _ _).alloc (Nat.le_refl _) _).drew
  have hx2 : Ready (w.alloc (.cells #[.int .i64 p1, .int .i64 p2] 41)) b A c ps := by
    obtain ⟨bm, D, n, hb, hown, hI⟩ := hx
    exact ⟨bm, D, n, hb.alloc _, hown.alloc _, hI⟩
  have HX := Lib.hid hx2
  clear hx2
  obtain ⟨bm, D, n, hb, hown, hI⟩ := hx
  have hkey := keyOf_pair hok
  have hown2 : ((w.alloc (.cells #[.int .i64 p1, .int .i64 p2] 41)).drew).ownsMap Try.prog 41 (plainElem Try.prog 3) bm n D := hown.alloc _
  obtain ⟨v, pl, hrun, hv⟩ := hown2.look_ok pairLaw Try.underlying94 (zeroInt _) (plainElem_int Try.underlying3 (by decide)) hkey
  obtain ⟨vi, rfl, hvi, _⟩ := plainElem_int_inv Try.underlying3 hv
  have hvi' : D.atKey (kl (p1, p2)) (.lit (.int .i64 0)) = .lit (.int .i64 vi) := congrArg Prod.fst hvi
  have HF : Hid (((∃ i : Nat, ps[i]? = some (p1, p2) ∧ Maps.has D (kl (p1, p2)) = true ∧ vi = i) ∨ ((p1, p2) ∉ ps ∧ Maps.has D (kl (p1, p2)) = false ∧ vi = 0))) := by
    by_cases hin : (p1, p2) ∈ ps
    · obtain ⟨i, hi, e⟩ := List.getElem_of_mem hin
      have hi' : ps[i]? = some (p1, p2) := by rw [List.getElem?_eq_getElem hi, e]
      refine .inl ⟨i, hi', (hI.mem _ hok).2 hin, ?_⟩
      have := hI.at_ i _ hok hi' (fun j hj hj' => by
        have h1 := (List.getElem?_inj (Nat.lt_trans hj hi) hn).1 (hj'.trans hi'.symm)
        omega) (.lit (.int .i64 0))
      rw [this] at hvi'
      simpa using hvi'.symm
    · have hno : Maps.has D (kl (p1, p2)) = false := by
        cases e : Maps.has D (kl (p1, p2))
        · rfl
        · exact absurd ((hI.mem _ hok).1 e) hin
      refine .inr ⟨hin, hno, ?_⟩
      rw [atKey_of_not_has hno] at hvi'
      simpa using hvi'.symm
  have c4 : (w.alloc (.cells #[.int .i64 p1, .int .i64 p2] 41)).drew.cell? ⟨b, 4, none⟩ = some (.map (some bm)) := ((hb.alloc _).cell 4).trans rfl
  clear hb hown hkey hown2 hv hI hvi hvi' hn hok
  generalize Maps.has D (kl (p1, p2)) = hd at *
  go_enter Try.func74, Try.ntmps74
  go_wp2_with fail
  refine (do_done b A c ps _ _ HX.out).mono ?_
  rintro e w' ⟨rfl, rfl⟩
  go_wp2_with fail
  go_region
  all_goals go_wp2_with fail
  all_goals go_ret2
  all_goals
    refine ⟨?_, hbel⟩
    rcases HF.out with ⟨i, hi, rfl, rfl⟩ | ⟨hi, rfl, rfl⟩
    · exact .inl ⟨i, hi, rfl⟩
    · exact .inr ⟨hi, rfl⟩
end Go.Proofs.Ytbdhkagcbncefaa

namespace Go.Proofs.Ytbdhkagcbncefaa
open Go.RowKit Go.Maps

/-- The list of gates fits. -/
def GOk (g : Gr) : Prop := (Lit.int .i64 g.n).wf = true ∧ g.as.length ≤ 8796093022208 ∧ ∀ p ∈ g.as, PrOk p

theorem wf_iff (x : Int) : (Lit.int .i64 x).wf = true ↔ (-9223372036854775808 ≤ x ∧ x ≤ 9223372036854775807) := by
  simp [Lit.wf, IntKind.min, IntKind.max, IntKind.signed, IntKind.bits]

theorem tdiv2 (l : Int) : l.tdiv 2 = if 0 ≤ l then l / 2 else -((-l) / 2) := by
  split
  · rename_i h
    exact Int.tdiv_eq_ediv_of_nonneg h
  · rename_i h
    have : l = -(-l) := by omega
    rw [this, Int.neg_tdiv, Int.tdiv_eq_ediv_of_nonneg (by omega)]
    omega

theorem wrap_tdiv2 (l : Int) (h : (Lit.int .i64 l).wf = true) : wrap64 (l.tdiv 2) = l.tdiv 2 := by
  rw [wf_iff] at h
  rw [tdiv2]
  unfold wrap64
  split <;> omega

theorem vars_any (n : Int) (A : Option Addr) (l c : Nat) (w : World) (h0 : 0 ≤ n) (h1 : n ≤ 2000) (h2 : l ≤ 8796093022208) :
    Calls Try.prog 75 #[.agg #[.int .i64 n, .slice A l c]] w (Ret w (.int .i64 (n + 1 + l))) := by
  go_enter Try.func75, Try.ntmps75
  go_wp2
  go_ret
  exact ⟨rfl, (Below.refl _ _).alloc (Nat.le_refl _) _⟩

theorem litB_eq (g : Gr) (l : Int) (b : Bool) : b = litB g l ↔ (b = true ↔ (0 ≤ g.n ∧ g.n ≤ 2000 ∧ 0 ≤ l ∧ l / 2 < g.n + 1 + g.as.length)) := by
  rw [Bool.eq_iff_iff]
  have : litB g l = true ↔ (0 ≤ g.n ∧ g.n ≤ 2000 ∧ 0 ≤ l ∧ l / 2 < g.n + 1 + g.as.length) := by unfold litB Gr.vars; exact decide_eq_true_iff
  rw [this]

theorem lit_any (g : Gr) (l : Int) (A : Option Addr) (c : Nat) (w : World) (h2 : g.as.length ≤ 8796093022208) (h3 : l ≤ 9223372036854775807) :
    Calls Try.prog 44 #[.agg #[.int .i64 g.n, .slice A g.as.length c], .int .i64 l] w (Ret w (.bool (litB g l))) := by
  go_enter Try.func44, Try.ntmps44
  go_wp2_with (go_at_call 75; refine (vars_any _ _ _ _ _ (by omega) (by omega) (by omega)).mono ?_; rintro e w1 ⟨rfl, hb⟩)
  all_goals go_ret
  all_goals refine Ret.mk (vbool ((litB_eq _ _ _).2 ?_)) ?_
  all_goals first
    | exact (Below.refl _ _).alloc (Nat.le_refl _) _
    | exact below2 ((Below.refl _ _).alloc (Nat.le_refl _) _) (by simp) hb
    | (simp; omega)

theorem mayB_eq (a b v : Int) (x : Bool) : x = mayB a b v ↔ (x = true ↔ (2 ≤ b ∧ b / 2 < a / 2 ∧ a / 2 < v)) := by
  rw [Bool.eq_iff_iff]
  have : mayB a b v = true ↔ (2 ≤ b ∧ b / 2 < a / 2 ∧ a / 2 < v) := by unfold mayB; exact decide_eq_true_iff
  rw [this]

theorem may_any (a b v : Int) (w : World) (ha : (Lit.int .i64 a).wf = true) (hb : (Lit.int .i64 b).wf = true) :
    Calls Try.prog 97 #[.agg #[.int .i64 a, .int .i64 b], .int .i64 v] w (Ret w (.bool (mayB a b v))) := by
  have ea := wrap_tdiv2 a ha
  have eb := wrap_tdiv2 b hb
  clear ha hb
  go_enter Try.func97, Try.ntmps97
  go_wp2
  all_goals go_ret
  all_goals refine Ret.mk (vbool ((mayB_eq _ _ _ _).2 ?_)) ?_
  all_goals first
    | exact (Below.refl _ _).alloc (Nat.le_refl _) _
    | (have h1 := tdiv2 a; have h2 := tdiv2 b; clear ea eb; simp only [decide_eq_true_eq, Bool.false_eq_true, false_iff]; split at h1 <;> split at h2 <;> omega)

/-- What 'right' leaves: the answer, and the index made where it is yes. -/
def RightIs (w w' : World) (b : Nat) (A : Option Addr) (c : Nat) (g : Gr) (e : Ending) : Prop :=
  e = .returned (.bool (rightB g)) ∧ w.grownBy w' (some b) ∧ (rightB g = true → Ready w' b A c g.as)

theorem below_grown {w w' : World} (h : Below w.heap.size w w') (row : Option Nat) : w.grownBy w' row := ⟨h.os, h.tape, h.output, h.size, fun i hi _ => h.block i hi⟩

set_option maxHeartbeats 400000 in
theorem right_in_size (g : Gr) (A : Option Addr) (c b : Nat) (w : World) (hs : sizeB g = false) (hl : g.as.length ≤ 8796093022208) :
    Calls Try.prog 72 #[.agg #[.int .i64 g.n, .slice A g.as.length c], .pointer (some ⟨b, 0, none⟩)] w fun e w' => RightIs w w' b A c g e := by
  have hr : Hid (rightB g = false) := by
    unfold Hid rightB
    rw [hs]
    rfl
  have hs' : ¬ (0 ≤ g.n ∧ g.n ≤ 2000 ∧ g.as.length ≤ 2000 ∧ g.n + 1 + g.as.length ≤ 2000) := by
    rw [← size_iff, hs]
    simp
  clear hs
  go_enter Try.func72, Try.ntmps72
  go_wp2_with (first
    | (go_at_call 75; refine (vars_any _ _ _ _ _ (by omega) (by omega) (by omega)).mono ?_; rintro e w1 ⟨rfl, hb⟩; obtain ⟨hc1, hc2⟩ := bcell hb))
  all_goals go_ret
  all_goals refine ⟨by rw [hr.out]; rfl, below_grown ?_ _, fun h => by rw [hr.out] at h; cases h⟩
  all_goals first
    | exact (Below.refl _ _).alloc (Nat.le_refl _) _
    | exact below2 ((Below.refl _ _).alloc (Nat.le_refl _) _) (by simp) hb

/-- At the head of round k: the gates before k may be. -/
def RightRel (w wr : World) (B : Nat) (g : Gr) (k : Nat) : Prop := Below B w wr ∧ ∀ (j : Nat) (p : Pr), j < k → g.as[j]? = some p → mayB p.1 p.2 (g.n + 1 + j) = true

set_option maxHeartbeats 400000 in
theorem right_in (g : Gr) (A : Option Addr) (c b : Nat) (w : World) (hs : sizeB g = true) (hx : Fresh w b A c g.as) (hp : Prs w b A g.as) (hok : ∀ p ∈ g.as, PrOk p) :
    Calls Try.prog 72 #[.agg #[.int .i64 g.n, .slice A g.as.length c], .pointer (some ⟨b, 0, none⟩)] w fun e w' => RightIs w w' b A c g e := by
  obtain ⟨h0, h1, h2, h3⟩ := (size_iff g).1 hs
  have hnot := @not_run Try.prog
  go_enter Try.func72, Try.ntmps72
  go_wp2_with (first
    | (go_at_call 75; refine (vars_any _ _ _ _ _ (by omega) (by omega) (by omega)).mono ?_; rintro e w1 ⟨rfl, hb⟩; obtain ⟨hc1, hc2⟩ := bcell hb))
  have hb1 : Below (w.heap.size + 1) (w.alloc (.cells #[.int .i64 g.n, .slice A g.as.length c] 24)) w1 := hb.mono (by simp)
  clear hb hc1 hc2
  go_loopw [29] (fun i wr => ∃ k : Nat, k ≤ g.as.length ∧ i = .int .i64 k ∧ RightRel (w.alloc (.cells #[.int .i64 g.n, .slice A g.as.length c] 24)) wr (w.heap.size + 1) g k) (fun i _ => g.as.length - (intOf i).toNat)
  case atStart => exact ⟨0, Nat.zero_le _, rfl, hb1, fun j p hj => by omega⟩
  case round =>
    obtain ⟨k, hk, rfl, hbr, hall⟩ := hrel
    have hbel : Below w.heap.size w wr := ((Below.refl _ _).alloc (Nat.le_refl _) _).trans (hbr.mono (by omega))
    by_cases hlt : k < g.as.length
    · obtain ⟨⟨a1, a2⟩, hpk⟩ : ∃ p, g.as[k]? = some p := ⟨_, List.getElem?_eq_getElem hlt⟩
      obtain ⟨ok1, ok2⟩ := hok _ (List.mem_of_getElem? hpk)
      obtain ⟨b', o', rfl, hlb, g1, g2⟩ := (hp.below (hbel.mono (Nat.le_of_lt (Blk.lt hx)))) k _ hpk
      have hsz : w.heap.size + 1 ≤ wr.heap.size := by have := hbr.size; simpa using this
      have c0 : ∀ O, (wr.alloc O).cell? ⟨w.heap.size, 0, none⟩ = some (.int .i64 g.n) := fun O => ((bcell (hbr.alloc hsz O)).1 _ _ (by omega)).trans (by simp)
      have hkeep : k < g.as.length → True := fun _ => trivial
      by_cases hm : mayB a1 a2 (g.n + 1 + k) = true
      · have HF : Hid (∀ (j : Nat) (p : Pr), j < k + 1 → g.as[j]? = some p → mayB p.1 p.2 (g.n + 1 + j) = true) := fun j p hj hpj => by
          rcases Nat.lt_or_ge j k with h | h
          · exact hall j p h hpj
          · obtain rfl : j = k := by omega
            rw [hpk] at hpj
            cases hpj
            exact hm
        have HB := Lib.hid hbr
        clear hall hbr hp hx hok hbel hpk hkeep
        go_wp2_with (go_at_call 97; refine (may_any _ _ _ _ ok1 ok2).mono ?_; rw [hm]; rintro e w2 ⟨rfl, hb2⟩)
        all_goals go_roundw
        case rel => exact ⟨k + 1, by omega, by go_num, below2 ((HB.out).alloc hsz _) (by simp; omega) hb2, HF.out⟩
        case measure => simp [intOf]; omega
      · have hm' : mayB a1 a2 (g.n + 1 + k) = false := by simpa using hm
        have HF : Hid (rightB g = false) := by
          cases e : rightB g
          · rfl
          · have := ((right_iff g).1 e).2.1 k _ hpk
            exact absurd this hm
        have HB := Lib.hid hbel
        clear hall hbr hp hx hok hbel hpk hm
        go_wp2_with (go_at_call 97; refine (may_any _ _ _ _ ok1 ok2).mono ?_; rw [hm']; rintro e w2 ⟨rfl, hb2⟩)
        all_goals go_ret
        exact ⟨by rw [HF.out]; rfl, below_grown (below2 ((HB.out).alloc (by omega) _) (by simp; omega) hb2) _, fun h => by rw [HF.out] at h; cases h⟩
    · have hke : k = g.as.length := by omega
      subst hke
      have hxr : Fresh wr.drew b A c g.as := Blk.below hx hbel.drew (Blk.lt hx)
      have hpr : Prs wr.drew b A g.as := hp.below (hbel.drew.mono (Nat.le_of_lt (Blk.lt hx)))
      have c1 : wr.cell? ⟨w.heap.size, 1, none⟩ = some (.slice A g.as.length c) := ((bcell hbr).1 _ _ (by omega)).trans (by simp)
      have hne : some w.heap.size ≠ some b := by have := Blk.lt hx; simp; omega
      have hsz : w.heap.size < wr.drew.heap.size := by have := hbr.size; simp at this; exact this
      have HC := Lib.hid (many_fresh b A c g.as wr.drew hxr hpr hok h2)
      have HX := Lib.hid hbel
      have HA := Lib.hid hall
      have hle : g.as.length ≤ 2000 := h2
      clear hall hbr hp hx hok hbel hxr hpr hs
      go_wp2_with fail
      go_region_with (go_at_call 98; refine HC.out.mono ?_; rintro e w2 ⟨m, rfl, hm1, hm2, hg2, hr2⟩; have c2 : w2.cell? ⟨w.heap.size, 1, none⟩ = some (.slice A g.as.length c) := (World.cell?_of_block (hg2.block w.heap.size hsz hne)).trans c1; have HM := Lib.hid hm2; have HR := Lib.hid hr2; clear hm2 hr2)
      all_goals go_wp2_with fail
      all_goals go_ret
      all_goals
        have hv : ((m : Int) == (g.as.length : Int)) = rightB g := by
          rw [Bool.eq_iff_iff, right_iff]
          simp only [beq_iff_eq, Int.natCast_inj, HM.out]
          exact ⟨fun h => ⟨⟨h0, h1, h2, h3⟩, fun j p hj => HA.out j p (List.getElem?_eq_some_iff.1 hj).1 hj, h⟩, fun h => h.2.2⟩
        refine ⟨?_, grown_trans (below_grown HX.out.drew _) hg2, fun _ => HR.out⟩
        rw [← hv]
        simp [Act.put]
end Go.Proofs.Ytbdhkagcbncefaa

namespace Go.Proofs.Ytbdhkagcbncefaa
open Go.RowKit Go.Maps

theorem xor_mod2 (a b : Nat) : (a ^^^ b) % 2 = (a + b) % 2 := by
  have h : (a ^^^ b) % 2 ^ 1 = (a % 2 ^ 1) ^^^ (b % 2 ^ 1) := Nat.xor_mod_two_pow
  simp only [Nat.pow_one] at h
  rw [h]
  rcases Nat.mod_two_eq_zero_or_one a with ha | ha <;> rcases Nat.mod_two_eq_zero_or_one b with hb | hb <;> rw [ha, hb] <;> simp <;> omega
theorem xor_zero_iff (a b : Nat) : a ^^^ b = 0 ↔ a = b := by
  constructor
  · intro h
    have : a ^^^ b ^^^ b = 0 ^^^ b := by rw [h]
    rwa [Nat.xor_assoc, Nat.xor_self, Nat.xor_zero, Nat.zero_xor] at this
  · rintro rfl
    exact Nat.xor_self a
theorem xor_one_nat (a b : Nat) : a ^^^ b = 1 ↔ (a / 2 = b / 2 ∧ a ≠ b) := by
  have h1 : (a ^^^ b) / 2 = a / 2 ^^^ b / 2 := Nat.xor_div_two
  have h2 := xor_mod2 a b
  have h3 := xor_zero_iff (a / 2) (b / 2)
  constructor
  · intro h
    rw [h] at h1 h2
    have := h3.1 (by omega)
    omega
  · intro ⟨h, hne⟩
    have := h3.2 h
    omega
theorem flip_nat (a : Nat) : a ^^^ 1 = if a % 2 = 0 then a + 1 else a - 1 := by
  have h1 : (a ^^^ 1) / 2 = a / 2 ^^^ 1 / 2 := Nat.xor_div_two
  have h2 := xor_mod2 a 1
  rw [show 1 / 2 = 0 from rfl, Nat.xor_zero] at h1
  split <;> omega
theorem ofInt64_nat (a : Nat) (ha : a < 9223372036854775808) : (BitVec.ofInt 64 (a : Int)).toNat = a := by
  rw [BitVec.ofInt_natCast, BitVec.toNat_ofNat]; exact Nat.mod_eq_of_lt (by omega)
theorem xor_i64 (a b : Nat) (ha : a < 9223372036854775808) (hb : b < 9223372036854775808) : bits .xor .i64 (a : Int) (b : Int) = ((a ^^^ b : Nat) : Int) := by
  have hx : a ^^^ b < 2 ^ 63 := Nat.xor_lt_two_pow (by omega) (by omega)
  show IntKind.i64.wrap ((BitVec.ofInt 64 (a : Int) ^^^ BitVec.ofInt 64 (b : Int)).toNat : Int) = _
  rw [BitVec.toNat_xor, ofInt64_nat a ha, ofInt64_nat b hb, IntKind.wrap_i64]
  omega
theorem xor_flip (a : Int) (h0 : 0 ≤ a) (h1 : a ≤ 9223372036854775807) : bits .xor .i64 a 1 = flip a := by
  obtain ⟨n, rfl⟩ := Int.eq_ofNat_of_zero_le h0
  have := xor_i64 n 1 (by omega) (by omega)
  rw [show ((1 : Nat) : Int) = 1 from rfl] at this
  rw [this, flip_nat]
  unfold flip
  split <;> split <;> omega
theorem xor_is_one (a b : Int) (h0 : 0 ≤ a) (h1 : a ≤ 9223372036854775807) (h2 : 0 ≤ b) (h3 : b ≤ 9223372036854775807) : (bits .xor .i64 a b == 1) = decide (a / 2 = b / 2 ∧ a ≠ b) := by
  obtain ⟨m, rfl⟩ := Int.eq_ofNat_of_zero_le h0
  obtain ⟨n, rfl⟩ := Int.eq_ofNat_of_zero_le h2
  rw [xor_i64 m n (by omega) (by omega), Bool.eq_iff_iff, decide_eq_true_eq, beq_iff_eq]
  have := xor_one_nat m n
  omega
theorem flip_range {a : Int} (h0 : 0 ≤ a) : 0 ≤ flip a ∧ flip a ≤ a + 1 ∧ flip a / 2 = a / 2 := by
  unfold flip
  split <;> omega
theorem flip_flip {a : Int} : flip (flip a) = a := by
  unfold flip
  split <;> split <;> omega

theorem Right_any (g : Gr) (A : Option Addr) (c : Nat) (w : World) (hg : GOk g) (hp : Prs w w.heap.size A g.as) :
    Calls Try.prog 42 #[.agg #[.int .i64 g.n, .slice A g.as.length c]] w (Ret w (.bool (rightB g))) := by
  have hC : Calls Try.prog 72 #[.agg #[.int .i64 g.n, .slice A g.as.length c], .pointer (some ⟨w.heap.size + 1, 0, none⟩)]
      ((w.alloc (.cells #[.int .i64 g.n, .slice A g.as.length c] 24)).alloc (.cells #[.int .u32 0, .int .i32 0, .int .u32 0, .slice A g.as.length c, .map none] 96)) fun e w' => RightIs ((w.alloc (.cells #[.int .i64 g.n, .slice A g.as.length c] 24)).alloc (.cells #[.int .u32 0, .int .i32 0, .int .u32 0, .slice A g.as.length c, .map none] 96)) w' (w.heap.size + 1) A c g e := by
    obtain ⟨h1, h2, h3⟩ := hg
    cases hs : sizeB g
    · exact right_in_size g A c _ _ hs h2
    · refine right_in g A c _ _ hs ?_ ?_ h3
      · have := Blk.new (w.alloc (.cells #[.int .i64 g.n, .slice A g.as.length c] 24)) 96 #[.int .u32 0, .int .i32 0, .int .u32 0, .slice A g.as.length c, .map none]
        rw [World.size_alloc] at this
        exact this
      · exact ((hp.alloc (Nat.le_refl _) _).more (Nat.le_succ _)).alloc (by simp) _
  go_enter Try.func42, Try.ntmps42
  go_wp2_with (go_at_call 72; refine hC.mono ?_; rintro e w2 ⟨rfl, hg2, hr2⟩)
  go_ret
  refine ⟨rfl, ?_⟩
  exact ((((Below.refl _ _).alloc (Nat.le_refl _) _).alloc (by simp) _).grown hg2 (by simp; omega) (by rintro k h; cases h; omega))

set_option maxHeartbeats 400000 in
theorem trivial_any (a b : Int) (w : World) (h0 : 0 ≤ a) (h1 : a ≤ 9223372036854775807) (h2 : 0 ≤ b) (h3 : b ≤ 9223372036854775807) :
    Calls Try.prog 73 #[.int .i64 a, .int .i64 b] w fun e w' => e = .returned (.tuple #[.int .i64 ((trivG a b).getD 0), .bool (trivG a b).isSome]) ∧ w' = w := by
  have hx := xor_is_one a b h0 h1 h2 h3
  go_enter Try.func73, Try.ntmps73
  go_wp2
  all_goals go_ret2
  all_goals refine ⟨?_, rfl⟩
  all_goals simp only [beq_iff_eq, beq_eq_false_iff_ne, ne_eq, Bool.not_eq_true', decide_eq_false_iff_not, Bool.not_eq_false', decide_eq_true_eq] at *
  all_goals clear hx
  all_goals (first
    | (have e : trivG a b = some 0 := if_pos (by omega)
       rw [e]; rfl)
    | (have e : trivG a b = some a := (if_neg (by omega)).trans (if_pos (by omega))
       rw [e]; rfl)
    | (have e : trivG a b = none := (if_neg (by omega)).trans (if_neg (by omega))
       rw [e]; rfl))

theorem pairInfo : (Try.prog.info? 41).map (fun i => (i.zero, i.size, i.bytes)) = some (some (.agg #[.int .i64 0, .int .i64 0]), 2, 16) := by kernel_rfl

/-- A graph, a literal and an error are handed back; nothing that was there turns. -/
def RetG (w : World) (Q : Nat → Prop) (r : Gr × Int × Int) (e : Ending) (w' : World) : Prop :=
  ∃ A c, e = .returned (.tuple #[.agg #[.int .i64 r.1.n, .slice A r.1.as.length c], .int .i64 r.2.1, .int .i64 r.2.2]) ∧ r.1.as.length ≤ c ∧ PrsQ w' (QNew w Q) A r.1.as ∧ Below w.heap.size w w'

/-- The world in which And looks whether its graph may be. -/
abbrev andW (w : World) (g : Gr) (A : Option Addr) (c : Nat) : World :=
  ((w.alloc (.cells #[.int .i64 g.n, .slice A g.as.length c] 24)).alloc (.cells #[.int .i64 0, .slice none 0 0] 24)).alloc (.cells #[.int .u32 0, .int .i32 0, .int .u32 0, .slice A g.as.length c, .map none] 96)

theorem andW_size (w : World) (g : Gr) (A : Option Addr) (c : Nat) : (andW w g A c).heap.size = w.heap.size + 3 := by simp [andW]
theorem andW_below (w : World) (g : Gr) (A : Option Addr) (c : Nat) : Below w.heap.size w (andW w g A c) :=
  (((Below.refl _ _).alloc (Nat.le_refl _) _).alloc (by simp) _).alloc (by simp; omega) _
theorem andW_g (w : World) (g : Gr) (A : Option Addr) (c : Nat) : Blk (andW w g A c) w.heap.size 24 #[.int .i64 g.n, .slice A g.as.length c] := ((Blk.new _ _ _).alloc _).alloc _
theorem andW_r (w : World) (g : Gr) (A : Option Addr) (c : Nat) : Blk (andW w g A c) (w.heap.size + 1) 24 #[.int .i64 0, .slice none 0 0] := by
  have := (Blk.new (w.alloc (.cells #[.int .i64 g.n, .slice A g.as.length c] 24)) 24 #[.int .i64 0, .slice none 0 0]).alloc (.cells #[.int .u32 0, .int .i32 0, .int .u32 0, .slice A g.as.length c, .map none] 96)
  rw [World.size_alloc] at this
  exact this
theorem andW_x (w : World) (g : Gr) (A : Option Addr) (c : Nat) : Fresh (andW w g A c) (w.heap.size + 1 + 1) A c g.as := by
  have := Blk.new ((w.alloc (.cells #[.int .i64 g.n, .slice A g.as.length c] 24)).alloc (.cells #[.int .i64 0, .slice none 0 0] 24)) 96 #[.int .u32 0, .int .i32 0, .int .u32 0, .slice A g.as.length c, .map none]
  rw [World.size_alloc, World.size_alloc] at this
  exact this

theorem and_right (g : Gr) (A : Option Addr) (c : Nat) (w : World) (hg : GOk g) (hp : Prs w w.heap.size A g.as) :
    Calls Try.prog 72 #[.agg #[.int .i64 g.n, .slice A g.as.length c], .pointer (some ⟨w.heap.size + 1 + 1, 0, none⟩)] (andW w g A c) fun e w' => RightIs (andW w g A c) w' (w.heap.size + 1 + 1) A c g e := by
  obtain ⟨h1, h2, h3⟩ := hg
  cases hs : sizeB g
  · exact right_in_size g A c _ _ hs h2
  · exact right_in g A c _ _ hs (andW_x w g A c) ((hp.below (andW_below w g A c)).more (by omega)) h3

set_option maxHeartbeats 400000 in
theorem and_no (g : Gr) (a b : Int) (A : Option Addr) (c : Nat) (w : World) (Q : Nat → Prop) (hg : GOk g) (hp : Prs w w.heap.size A g.as) (hr : rightB g = false) :
    Calls Try.prog 40 #[.agg #[.int .i64 g.n, .slice A g.as.length c], .int .i64 a, .int .i64 b] w (RetG w Q (noG, 0, 1)) := by
  have HC := Lib.hid (and_right g A c w hg hp)
  have hnot := @not_run Try.prog
  clear hg hp
  go_enter Try.func40, Try.ntmps40
  go_wp2_with (go_at_call 72; refine HC.out.mono ?_; rintro e w2 ⟨he, hg2, _⟩; rw [hr] at he; subst he; have hB2 : Blk w2 (w.heap.size + 1) 24 #[.int .i64 0, .slice none 0 0] := (andW_r w g A c).grown hg2 (by simp); have d0 : w2.cell? ⟨w.heap.size + 1, 0, none⟩ = some (.int .i64 0) := hB2.cell 0; have d1 : w2.cell? ⟨w.heap.size + 1, 1, none⟩ = some (.slice none 0 0) := hB2.cell 1; have f0 := hB2.frozen 0; have f1 := hB2.frozen 1)
  refine bodyPost_ret (v := .tuple #[.agg #[.int .i64 0, .slice none 0 0], .int .i64 0, .int .i64 1]) (by simp [results, Try.results40, go_sem, d0, d1]) rfl ?_
  refine ⟨none, 0, rfl, Nat.le_refl _, PrsQ.nil, ?_⟩
  exact ((((andW_below w g A c).grown hg2 (by rw [andW_size]; omega) (by rintro k h; cases h; omega)).setCell (p := ⟨w.heap.size + 1, 0, none⟩) (by simp) _).setCell (p := ⟨w.heap.size + 1, 1, none⟩) (by simp) _)

theorem clip_any (A : Option Addr) (n c : Nat) (w : World) (hc : n ≤ c) (_hn : n ≤ 2000) :
    Calls Try.prog 76 #[.slice A n c] w fun e w' => e = .returned (.slice A n n) ∧ w' = w := by
  go_enter Try.func76, Try.ntmps76
  go_wp2
  go_ret
  exact ⟨rfl, rfl⟩

theorem Ready.below {w w' : World} {b : Nat} {A : Option Addr} {c : Nat} {ps : List Pr} (h : Ready w b A c ps) (hb : Below w.heap.size w w') : Ready w' b A c ps := by
  obtain ⟨bm, D, n, h1, h2, h3⟩ := h
  exact ⟨bm, D, n, h1.below hb h1.lt, h2.kept (below_grown hb none) (by simp), h3⟩

/-- What And holds while it looks at its literals. -/
structure AndSt (w w' : World) (g : Gr) (A : Option Addr) (c : Nat) : Prop where
  below : Below w.heap.size w w'
  big : w.heap.size + 3 ≤ w'.heap.size
  gb : Blk w' w.heap.size 24 #[.int .i64 g.n, .slice A g.as.length c]
  rb : Blk w' (w.heap.size + 1) 24 #[.int .i64 0, .slice none 0 0]
  rd : Ready w' (w.heap.size + 1 + 1) A c g.as
  prs : Prs w' w.heap.size A g.as

theorem AndSt.step {w w' w'' : World} {g : Gr} {A : Option Addr} {c : Nat} (h : AndSt w w' g A c) (hb : Below w'.heap.size w' w'') : AndSt w w'' g A c :=
  ⟨below2 h.below h.below.size hb, Nat.le_trans h.big hb.size, h.gb.below hb h.gb.lt, h.rb.below hb h.rb.lt, h.rd.below hb, h.prs.below (hb.mono h.below.size)⟩

theorem AndSt.begin_ {w w' : World} {g : Gr} {A : Option Addr} {c : Nat} (hp : Prs w w.heap.size A g.as) (hg : (andW w g A c).grownBy w' (some (w.heap.size + 1 + 1))) (hr : Ready w' (w.heap.size + 1 + 1) A c g.as) : AndSt w w' g A c := by
  have hb : Below w.heap.size w w' := (andW_below w g A c).grown hg (by rw [andW_size]; omega) (by rintro k h; cases h; omega)
  refine ⟨hb, ?_, (andW_g w g A c).grown hg (by simp; omega), (andW_r w g A c).grown hg (by simp), hr, hp.below hb⟩
  have := hg.size
  rw [andW_size] at this
  exact this

theorem lit_yes (g : Gr) (l : Int) (x : Bool) (hx : litB g l = x) (A : Option Addr) (c : Nat) (w : World) (h2 : g.as.length ≤ 8796093022208) (h3 : l ≤ 9223372036854775807) :
    Calls Try.prog 44 #[.agg #[.int .i64 g.n, .slice A g.as.length c], .int .i64 l] w (Ret w (.bool x)) := by
  subst hx
  exact lit_any g l A c w h2 h3

/-- And's way to its literals, where the graph may be. -/
theorem and_no_lit (g : Gr) (a b : Int) (A : Option Addr) (c : Nat) (w : World) (Q : Nat → Prop) (hg : GOk g) (ha : a ≤ 9223372036854775807) (hb : b ≤ 9223372036854775807) (hp : Prs w w.heap.size A g.as) (hr : rightB g = true) (hl : (litB g a && litB g b) = false) :
    Calls Try.prog 40 #[.agg #[.int .i64 g.n, .slice A g.as.length c], .int .i64 a, .int .i64 b] w (RetG w Q (noG, 0, 1)) := by
  have HC := Lib.hid (and_right g A c w hg hp)
  have hnot := @not_run Try.prog
  have hgl : g.as.length ≤ 8796093022208 := hg.2.1
  have HP := Lib.hid hp
  have HR := Lib.hid hr
  clear hg hp hr
  cases hla : litB g a
  · have HLA := Lib.hid hla
    clear hl hla
    go_enter Try.func40, Try.ntmps40
    go_wp2_with fail
    refine HC.out.mono ?_
    rintro e w2 ⟨he, hg2, hrd⟩
    rw [HR.out] at he
    subst he
    have st := AndSt.begin_ HP.out hg2 (hrd HR.out)
    have e0 : w2.cell? ⟨w.heap.size, 0, none⟩ = some (.int .i64 g.n) := st.gb.cell 0
    have e1 : w2.cell? ⟨w.heap.size, 1, none⟩ = some (.slice A g.as.length c) := st.gb.cell 1
    have ST := Lib.hid st
    clear st hg2 hrd
    go_wp2_with fail
    refine (lit_yes g a false HLA.out A c _ hgl ha).mono ?_
    rintro e w3 ⟨rfl, hb3⟩
    have st := ST.out.step hb3
    have d0 : w3.cell? ⟨w.heap.size + 1, 0, none⟩ = some (.int .i64 0) := st.rb.cell 0
    have d1 : w3.cell? ⟨w.heap.size + 1, 1, none⟩ = some (.slice none 0 0) := st.rb.cell 1
    have f0 := st.rb.frozen 0
    have f1 := st.rb.frozen 1
    have ST3 := Lib.hid st
    clear st hb3 e0 e1
    go_wp2_with fail
    refine bodyPost_ret (v := .tuple #[.agg #[.int .i64 0, .slice none 0 0], .int .i64 0, .int .i64 1]) (by simp [results, Try.results40, go_sem, d0, d1]) rfl ?_
    exact ⟨none, 0, rfl, Nat.le_refl _, PrsQ.nil, (ST3.out.below.setCell (p := ⟨w.heap.size + 1, 0, none⟩) (by simp) _).setCell (p := ⟨w.heap.size + 1, 1, none⟩) (by simp) _⟩
  · have hlb : litB g b = false := by rw [hla] at hl; simpa using hl
    have HLA := Lib.hid hla
    have HLB := Lib.hid hlb
    clear hl hla hlb
    go_enter Try.func40, Try.ntmps40
    go_wp2_with fail
    refine HC.out.mono ?_
    rintro e w2 ⟨he, hg2, hrd⟩
    rw [HR.out] at he
    subst he
    have st := AndSt.begin_ HP.out hg2 (hrd HR.out)
    have e0 : w2.cell? ⟨w.heap.size, 0, none⟩ = some (.int .i64 g.n) := st.gb.cell 0
    have e1 : w2.cell? ⟨w.heap.size, 1, none⟩ = some (.slice A g.as.length c) := st.gb.cell 1
    have ST := Lib.hid st
    clear st hg2 hrd
    go_wp2_with fail
    refine (lit_yes g a true HLA.out A c _ hgl ha).mono ?_
    rintro e w3 ⟨rfl, hb3⟩
    have st := ST.out.step hb3
    have e0 : w3.cell? ⟨w.heap.size, 0, none⟩ = some (.int .i64 g.n) := st.gb.cell 0
    have e1 : w3.cell? ⟨w.heap.size, 1, none⟩ = some (.slice A g.as.length c) := st.gb.cell 1
    have ST3 := Lib.hid st
    clear st hb3
    go_wp2_with fail
    refine (lit_yes g b false HLB.out A c _ hgl hb).mono ?_
    rintro e w4 ⟨rfl, hb4⟩
    have st := ST3.out.step hb4
    have d0 : w4.cell? ⟨w.heap.size + 1, 0, none⟩ = some (.int .i64 0) := st.rb.cell 0
    have d1 : w4.cell? ⟨w.heap.size + 1, 1, none⟩ = some (.slice none 0 0) := st.rb.cell 1
    have f0 := st.rb.frozen 0
    have f1 := st.rb.frozen 1
    have ST4 := Lib.hid st
    clear st hb4 e0 e1
    go_wp2_with fail
    refine bodyPost_ret (v := .tuple #[.agg #[.int .i64 0, .slice none 0 0], .int .i64 0, .int .i64 1]) (by simp [results, Try.results40, go_sem, d0, d1]) rfl ?_
    exact ⟨none, 0, rfl, Nat.le_refl _, PrsQ.nil, (ST4.out.below.setCell (p := ⟨w.heap.size + 1, 0, none⟩) (by simp) _).setCell (p := ⟨w.heap.size + 1, 1, none⟩) (by simp) _⟩

set_option maxRecDepth 100000 in
set_option maxHeartbeats 1000000 in
theorem and_hi (g : Gr) (a b x y : Int) (hxy : (x = a ∧ y = b) ∨ (x = b ∧ y = a)) (hlt : y < x) (A : Option Addr) (c : Nat) (w : World) (Q : Nat → Prop) (hg : GOk g) (hy0 : 0 ≤ y) (hx1 : x ≤ 4001) (hc : g.as.length ≤ c) (hq : PrsQ w Q A g.as) (hr : rightB g = true) (hla : litB g a = true) (hlb : litB g b = true) :
    Calls Try.prog 40 #[.agg #[.int .i64 g.n, .slice A g.as.length c], .int .i64 a, .int .i64 b] w (RetG w Q (andHi g x y)) := by
  have hp := hq.prs
  have HQ := Lib.hid hq.new
  clear hq
  have HC := Lib.hid (and_right g A c w hg hp)
  have hnot := @not_run Try.prog
  have hgl : g.as.length ≤ 8796093022208 := hg.2.1
  have HP := Lib.hid hp
  have HR := Lib.hid hr
  have HG := Lib.hid hg
  clear hg hp hr
  rcases hxy with ⟨rfl, rfl⟩ | ⟨rfl, rfl⟩
  all_goals
    have HLA := Lib.hid hla
    have HLB := Lib.hid hlb
    clear hla hlb
    go_enter Try.func40, Try.ntmps40
    go_wp2_with fail
    refine HC.out.mono ?_
    rintro e w2 ⟨he, hg2, hrd⟩
    rw [HR.out] at he
    subst he
    have st := AndSt.begin_ HP.out hg2 (hrd HR.out)
    have e0 : w2.cell? ⟨w.heap.size, 0, none⟩ = some (.int .i64 g.n) := st.gb.cell 0
    have e1 : w2.cell? ⟨w.heap.size, 1, none⟩ = some (.slice A g.as.length c) := st.gb.cell 1
    have ST := Lib.hid st
    clear st hg2 hrd HC
    go_wp2_with fail
    refine (lit_yes g _ true HLA.out A c _ hgl (by omega)).mono ?_
    rintro e w3 ⟨rfl, hb3⟩
    have st := ST.out.step hb3
    clear e0 e1
    have e0 : w3.cell? ⟨w.heap.size, 0, none⟩ = some (.int .i64 g.n) := st.gb.cell 0
    have e1 : w3.cell? ⟨w.heap.size, 1, none⟩ = some (.slice A g.as.length c) := st.gb.cell 1
    have ST3 := Lib.hid st
    clear st hb3
    go_wp2_with fail
    refine (lit_yes g _ true HLB.out A c _ hgl (by omega)).mono ?_
    rintro e w4 ⟨rfl, hb4⟩
    have st := ST3.out.step hb4
    clear e0 e1
    have e0 : w4.cell? ⟨w.heap.size, 0, none⟩ = some (.int .i64 g.n) := st.gb.cell 0
    have e1 : w4.cell? ⟨w.heap.size, 1, none⟩ = some (.slice A g.as.length c) := st.gb.cell 1
    have d0 : w4.cell? ⟨w.heap.size + 1, 0, none⟩ = some (.int .i64 0) := st.rb.cell 0
    have d1 : w4.cell? ⟨w.heap.size + 1, 1, none⟩ = some (.slice none 0 0) := st.rb.cell 1
    have f0 := st.rb.frozen 0
    have f1 := st.rb.frozen 1
    have ST4 := Lib.hid st
    clear st hb4 ST ST3 HLA HLB
    go_wp2_with fail
  all_goals
    refine (trivial_any x y _ (by omega) (by omega) hy0 (by omega)).mono ?_
    rintro e w5 ⟨rfl, rfl⟩
    cases ht : trivG x y with
    | some l =>
      have HT := Lib.hid ht
      clear ht
      go_wp2_with fail
      refine bodyPost_ret (v := .tuple #[.agg #[.int .i64 g.n, .slice A g.as.length c], .int .i64 l, .int .i64 0]) (by simp [results, Try.results40, go_sem, d0, d1]) rfl ?_
      have hb5 := (ST4.out.below.setCell (p := ⟨w.heap.size + 1, 0, none⟩) (by simp) (.int .i64 g.n)).setCell (p := ⟨w.heap.size + 1, 1, none⟩) (by simp) (.slice A g.as.length c)
      have e : andHi g x y = (g, l, 0) := by unfold andHi; rw [HT.out]
      rw [e]
      exact ⟨A, c, rfl, hc, HQ.out.below hb5, hb5⟩
    | none =>
      have HT := Lib.hid ht
      clear ht
      go_wp2_with fail
      refine (find_ready (w.heap.size + 1 + 1) A c g.as x y _ ST4.out.rd ⟨(wf_iff _).2 (by dsimp only; omega), (wf_iff _).2 (by dsimp only; omega)⟩ ((right_iff g).1 HR.out).2.2).mono ?_
      rintro e w6 ⟨hf, hb6⟩
      have st := ST4.out.step hb6
      clear e0 e1 d0 d1 f0 f1
      have e0 : w6.cell? ⟨w.heap.size, 0, none⟩ = some (.int .i64 g.n) := st.gb.cell 0
      have e1 : w6.cell? ⟨w.heap.size, 1, none⟩ = some (.slice A g.as.length c) := st.gb.cell 1
      have d0 : w6.cell? ⟨w.heap.size + 1, 0, none⟩ = some (.int .i64 0) := st.rb.cell 0
      have d1 : w6.cell? ⟨w.heap.size + 1, 1, none⟩ = some (.slice none 0 0) := st.rb.cell 1
      have f0 := st.rb.frozen 0
      have f1 := st.rb.frozen 1
      have ST6 := Lib.hid st
      obtain ⟨⟨n0, n1, n2, n3⟩, _, hnd⟩ := (right_iff g).1 HR.out
      clear st hb6 ST4
      rcases hf with ⟨i, hi, rfl⟩ | ⟨hi, rfl⟩
      · have hil : i < g.as.length := (List.getElem?_eq_some_iff.1 hi).1
        have HI : Hid (andHi g x y = (g, 2 * (g.n + 1 + i), 0)) := by
          show andHi g x y = _
          unfold andHi
          rw [HT.out]
          simp only []
          rw [placeOf_at hnd hi]
        clear hi hnd
        go_wp2_with fail
        go_region
        all_goals go_wp2_with fail
        all_goals
          refine bodyPost_ret (v := .tuple #[.agg #[.int .i64 g.n, .slice A g.as.length c], .int .i64 (2 * (g.n + 1 + i)), .int .i64 0]) (by simp [results, Try.results40, go_sem, d0, d1]) rfl ?_
          have hb7 := (ST6.out.below.drew.setCell (p := ⟨w.heap.size + 1, 0, none⟩) (by simp) (.int .i64 g.n)).setCell (p := ⟨w.heap.size + 1, 1, none⟩) (by simp) (.slice A g.as.length c)
          rw [HI.out]
          exact ⟨A, c, rfl, hc, HQ.out.below hb7, hb7⟩
      · have HI : Hid (andHi g x y = if g.vars ≥ 2000 then (noG, 0, 2) else (⟨g.n, g.as ++ [(x, y)]⟩, 2 * g.vars, 0)) := by
          show andHi g x y = _
          unfold andHi
          rw [HT.out]
          simp only []
          rw [placeOf_none.2 hi]
        clear hi hnd
        go_wp2_with fail
        refine (vars_any g.n A g.as.length c _ n0 n1 hgl).mono ?_
        rintro e w7 ⟨rfl, hb7⟩
        have st := ST6.out.step hb7
        clear e0 e1 d0 d1 f0 f1
        have e0 : w7.cell? ⟨w.heap.size, 0, none⟩ = some (.int .i64 g.n) := st.gb.cell 0
        have e1 : w7.cell? ⟨w.heap.size, 1, none⟩ = some (.slice A g.as.length c) := st.gb.cell 1
        have d0 : w7.cell? ⟨w.heap.size + 1, 0, none⟩ = some (.int .i64 0) := st.rb.cell 0
        have d1 : w7.cell? ⟨w.heap.size + 1, 1, none⟩ = some (.slice none 0 0) := st.rb.cell 1
        have f0 := st.rb.frozen 0
        have f1 := st.rb.frozen 1
        have ST7 := Lib.hid st
        clear st hb7 ST6
        by_cases hv : g.n + 1 + g.as.length ≥ 2000
        · have HI2 : Hid (andHi g x y = (noG, 0, 2)) := HI.out.trans (if_pos hv)
          go_wp2_with fail
          refine bodyPost_ret (v := .tuple #[.agg #[.int .i64 0, .slice none 0 0], .int .i64 0, .int .i64 2]) (by simp [results, Try.results40, go_sem, d0, d1]) rfl ?_
          rw [HI2.out]
          exact ⟨none, 0, rfl, Nat.le_refl _, PrsQ.nil, (ST7.out.below.setCell (p := ⟨w.heap.size + 1, 0, none⟩) (by simp) _).setCell (p := ⟨w.heap.size + 1, 1, none⟩) (by simp) _⟩
        · have HI2 : Hid (andHi g x y = (⟨g.n, g.as ++ [(x, y)]⟩, 2 * g.vars, 0)) := HI.out.trans (if_neg hv)
          have hv' : g.n + 1 + g.as.length < 2000 := by omega
          clear hv
          go_wp2_with fail
          refine (clip_any A g.as.length c _ hc (by omega)).mono ?_
          rintro e w8 ⟨rfl, rfl⟩
          have hB : Below w.heap.size w (w8.alloc (.cells #[.int .i64 x, .int .i64 y] 41)) := ST7.out.below.alloc ST7.out.below.size _
          have hV := ((HP.out.below hB).vals)
          have HV := Lib.hid hV
          have HL : Hid ((flat g.as).length = g.as.length * 2) := flat_length g.as
          clear hV
          obtain ⟨i0, hi0, hz0, hz1, hz2⟩ := info_parts pairInfo
          go_wp2_with (at_builtin; refine wpList_append_grows _ rfl (.tmp 74) (.tmp 78) _ rfl 41 i0 _ 2 16 Try.underlying22 hi0 hz0 hz1 hz2 rfl (by omega) A g.as.length g.as.length (flat g.as) rfl (fun h => by rw [HP.out.none_ h]; exact ⟨rfl, rfl⟩) HL.out HV.out.cells ⟨w8.heap.size, 0, none⟩ 1 1 [.int .i64 x, .int .i64 y] rfl rfl (cells_new w8 [.int .i64 x, .int .i64 y] 41) (flat_one [(x, y)]) (by omega) (by unfold maxLen; omega) (by omega) ?_; intro v' w9 hown hg9; obtain ⟨A9, c9, hv9, hc9⟩ := own_form hown; have hb9 : Below w8.heap.size w8 w9 := ((Below.refl _ _).alloc (Nat.le_refl _) _).grown hg9 (by simp) (by simp); have st := ST7.out.step hb9; clear e0 e1 d0 d1 f0 f1; have e0 : w9.cell? ⟨w.heap.size, 0, none⟩ = some (.int .i64 g.n) := st.gb.cell 0; have e1 : w9.cell? ⟨w.heap.size, 1, none⟩ = some (.slice A g.as.length c) := st.gb.cell 1; have d0 : w9.cell? ⟨w.heap.size + 1, 0, none⟩ = some (.int .i64 0) := st.rb.cell 0; have d1 : w9.cell? ⟨w.heap.size + 1, 1, none⟩ = some (.slice none 0 0) := st.rb.cell 1; have f0 := st.rb.frozen 0; have f1 := st.rb.frozen 1; have f2 := st.gb.frozen 1; subst hv9; have HW := Lib.hid hown; have ST9 := Lib.hid st; clear hown hg9 st hb9)
          refine bodyPost_ret (v := .tuple #[.agg #[.int .i64 g.n, .slice A9 (g.as.length + 1) c9], .int .i64 (2 * (g.n + 1 + g.as.length)), .int .i64 0]) (by simp [results, Try.results40, go_sem, d0, d1]) rfl ?_
          have hbig := ST7.out.big
          have own := ownsRow_setCell_below (ownsRow_setCell_below (ownsRow_setCell_below HW.out (a := ⟨w.heap.size, 1, none⟩) (by simp; omega) (.slice A9 (g.as.length + 1) c9)) (a := ⟨w.heap.size + 1, 0, none⟩) (by simp; omega) (.int .i64 g.n)) (a := ⟨w.heap.size + 1, 1, none⟩) (by simp; omega) (.slice A9 (g.as.length + 1) c9)
          have hb10 := ((ST9.out.below.setCell (p := ⟨w.heap.size, 1, none⟩) (by simp) (.slice A9 (g.as.length + 1) c9)).setCell (p := ⟨w.heap.size + 1, 0, none⟩) (by simp) (.int .i64 g.n)).setCell (p := ⟨w.heap.size + 1, 1, none⟩) (by simp) (.slice A9 (g.as.length + 1) c9)
          rw [HI2.out]
          refine ⟨A9, c9, ?_, ?_, ?_, hb10⟩
          · simp [Gr.vars]
          · simpa using hc9
          · exact PrsQ.of_own (by rw [flat_append]; exact own) (fun b hb => .inr (by simp at hb; omega))
end Go.Proofs.Ytbdhkagcbncefaa

namespace Go.Proofs.Ytbdhkagcbncefaa
open Go.RowKit Go.Maps

theorem and_same (g : Gr) (x : Int) (A : Option Addr) (c : Nat) (w : World) (Q : Nat → Prop) (hg : GOk g) (hy0 : 0 ≤ x) (hx1 : x ≤ 4001) (hc : g.as.length ≤ c) (hq : PrsQ w Q A g.as) (hr : rightB g = true) (hla : litB g x = true) :
    Calls Try.prog 40 #[.agg #[.int .i64 g.n, .slice A g.as.length c], .int .i64 x, .int .i64 x] w (RetG w Q (andHi g x x)) := by
  have hp := hq.prs
  have HQ := Lib.hid hq.new
  clear hq
  have HC := Lib.hid (and_right g A c w hg hp)
  have hnot := @not_run Try.prog
  have hgl : g.as.length ≤ 8796093022208 := hg.2.1
  have HP := Lib.hid hp
  have HR := Lib.hid hr
  have HLA := Lib.hid hla
  clear hg hp hr hla
  go_enter Try.func40, Try.ntmps40
  go_wp2_with fail
  refine HC.out.mono ?_
  rintro e w2 ⟨he, hg2, hrd⟩
  rw [HR.out] at he
  subst he
  have st := AndSt.begin_ HP.out hg2 (hrd HR.out)
  have e0 : w2.cell? ⟨w.heap.size, 0, none⟩ = some (.int .i64 g.n) := st.gb.cell 0
  have e1 : w2.cell? ⟨w.heap.size, 1, none⟩ = some (.slice A g.as.length c) := st.gb.cell 1
  have ST := Lib.hid st
  clear st hg2 hrd HC
  go_wp2_with fail
  refine (lit_yes g _ true HLA.out A c _ hgl (by omega)).mono ?_
  rintro e w3 ⟨rfl, hb3⟩
  have st := ST.out.step hb3
  clear e0 e1
  have e0 : w3.cell? ⟨w.heap.size, 0, none⟩ = some (.int .i64 g.n) := st.gb.cell 0
  have e1 : w3.cell? ⟨w.heap.size, 1, none⟩ = some (.slice A g.as.length c) := st.gb.cell 1
  have ST3 := Lib.hid st
  clear st hb3
  go_wp2_with fail
  refine (lit_yes g _ true HLA.out A c _ hgl (by omega)).mono ?_
  rintro e w4 ⟨rfl, hb4⟩
  have st := ST3.out.step hb4
  clear e0 e1
  have e0 : w4.cell? ⟨w.heap.size, 0, none⟩ = some (.int .i64 g.n) := st.gb.cell 0
  have e1 : w4.cell? ⟨w.heap.size, 1, none⟩ = some (.slice A g.as.length c) := st.gb.cell 1
  have d0 : w4.cell? ⟨w.heap.size + 1, 0, none⟩ = some (.int .i64 0) := st.rb.cell 0
  have d1 : w4.cell? ⟨w.heap.size + 1, 1, none⟩ = some (.slice none 0 0) := st.rb.cell 1
  have f0 := st.rb.frozen 0
  have f1 := st.rb.frozen 1
  have ST4 := Lib.hid st
  clear st hb4 ST ST3 HLA
  go_wp2_with fail
  refine (trivial_any x x _ (by omega) (by omega) hy0 (by omega)).mono ?_
  rintro e w5 ⟨rfl, rfl⟩
  obtain ⟨l, ht⟩ : ∃ l, trivG x x = some l := by
    unfold trivG
    split
    · exact ⟨_, rfl⟩
    · rw [if_pos (Or.inr rfl)]
      exact ⟨_, rfl⟩
  rw [ht]
  have HT := Lib.hid ht
  clear ht
  go_wp2_with fail
  refine bodyPost_ret (v := .tuple #[.agg #[.int .i64 g.n, .slice A g.as.length c], .int .i64 l, .int .i64 0]) (by simp [results, Try.results40, go_sem, d0, d1]) rfl ?_
  have hb5 := (ST4.out.below.setCell (p := ⟨w.heap.size + 1, 0, none⟩) (by simp) (.int .i64 g.n)).setCell (p := ⟨w.heap.size + 1, 1, none⟩) (by simp) (.slice A g.as.length c)
  have e : andHi g x x = (g, l, 0) := by unfold andHi; rw [HT.out]
  rw [e]
  exact ⟨A, c, rfl, hc, HQ.out.below hb5, hb5⟩

theorem litB_iff (g : Gr) (l : Int) : litB g l = true ↔ (0 ≤ g.n ∧ g.n ≤ 2000 ∧ 0 ≤ l ∧ l / 2 < g.n + 1 + g.as.length) := by unfold litB Gr.vars; exact decide_eq_true_iff

/-- '(graph.And)': what is made of two literals. -/
theorem and_any (g : Gr) (a b : Int) (A : Option Addr) (c : Nat) (w : World) (Q : Nat → Prop) (hg : GOk g) (ha : a ≤ 9223372036854775807) (hb : b ≤ 9223372036854775807) (hc : g.as.length ≤ c) (hp : PrsQ w Q A g.as) :
    Calls Try.prog 40 #[.agg #[.int .i64 g.n, .slice A g.as.length c], .int .i64 a, .int .i64 b] w (RetG w Q (andG g a b)) := by
  unfold andG
  cases hr : rightB g
  · exact and_no g a b A c w Q hg hp.prs hr
  · cases hl : (litB g a && litB g b)
    · exact and_no_lit g a b A c w Q hg ha hb hp.prs hr hl
    · rw [Bool.and_eq_true] at hl
      obtain ⟨h1, h2⟩ := hl
      have l1 := (litB_iff g a).1 h1
      have l2 := (litB_iff g b).1 h2
      have hs := (right_iff g).1 hr
      rw [Bool.and_true, if_pos rfl]
      rcases Int.lt_trichotomy a b with h | h | h
      · rw [Int.max_eq_right (by omega), Int.min_eq_left (by omega)]
        exact and_hi g a b b a (.inr ⟨rfl, rfl⟩) h A c w Q hg (by omega) (by omega) hc hp hr h1 h2
      · subst h
        rw [Int.max_eq_right (Int.le_refl _), Int.min_eq_left (Int.le_refl _)]
        exact and_same g a A c w Q hg (by omega) (by omega) hc hp hr h1
      · rw [Int.max_eq_left (by omega), Int.min_eq_right (by omega)]
        exact and_hi g a b a b (.inl ⟨rfl, rfl⟩) h A c w Q hg (by omega) (by omega) hc hp hr h1 h2

/-- What And's literal may be. -/
theorem andHi_lit {g : Gr} {a b : Int} (hs : 0 ≤ g.n ∧ g.n ≤ 2000 ∧ g.as.length ≤ 2000 ∧ g.n + 1 + g.as.length ≤ 2000) (ha0 : 0 ≤ a) (ha : a ≤ 4001) : 0 ≤ (andHi g a b).2.1 ∧ (andHi g a b).2.1 ≤ 4001 := by
  unfold andHi
  cases ht : trivG a b with
  | some l =>
    unfold trivG at ht
    split at ht
    · cases ht
      simp
    · split at ht
      · cases ht
        exact ⟨ha0, ha⟩
      · cases ht
  | none =>
    dsimp only
    cases hq : placeOf g.as (a, b) with
    | some i =>
      have hi : i < g.as.length := (List.getElem?_eq_some_iff.1 (placeOf_some hq)).1
      dsimp only
      omega
    | none =>
      dsimp only
      split
      · simp
      · rename_i h
        unfold Gr.vars at h ⊢
        dsimp only
        omega

theorem andG_lit (g : Gr) (a b : Int) : 0 ≤ (andG g a b).2.1 ∧ (andG g a b).2.1 ≤ 4001 := by
  unfold andG
  split
  · rename_i h
    rw [Bool.and_eq_true, Bool.and_eq_true, litB_iff, litB_iff, right_iff] at h
    exact andHi_lit h.1.1 (by omega) (by omega)
  · simp

theorem flip_max {a : Int} (h0 : 0 ≤ a) (h1 : a ≤ 9223372036854775807) : 0 ≤ flip a ∧ flip a ≤ 9223372036854775807 := by
  unfold flip
  split <;> omega

theorem or_any (g : Gr) (a b : Int) (A : Option Addr) (c : Nat) (w : World) (Q : Nat → Prop) (hg : GOk g) (ha : a ≤ 9223372036854775807) (hb : b ≤ 9223372036854775807) (hc : g.as.length ≤ c) (hp : PrsQ w Q A g.as) :
    Calls Try.prog 45 #[.agg #[.int .i64 g.n, .slice A g.as.length c], .int .i64 a, .int .i64 b] w (RetG w Q (orG g a b)) := by
  by_cases hneg : a < 0 ∨ b < 0
  · have HE : Hid (orG g a b = (noG, 0, 1)) := if_pos hneg
    clear hg hp hc ha hb
    by_cases ha : a < 0
    all_goals
      go_enter Try.func45, Try.ntmps45
      go_wp2_with fail
      refine bodyPost_ret (v := .tuple #[.agg #[.int .i64 0, .slice none 0 0], .int .i64 0, .int .i64 1]) (by simp [results, Try.results45, go_sem]) rfl ?_
      rw [HE.out]
      exact ⟨none, 0, rfl, Nat.le_refl _, PrsQ.nil, ((Below.refl _ _).alloc (Nat.le_refl _) _).alloc (by simp) _⟩
  · have ha0 : 0 ≤ a := by omega
    have hb0 : 0 ≤ b := by omega
    have hxa := xor_flip a ha0 ha
    have hxb := xor_flip b hb0 hb
    have fa := flip_max ha0 ha
    have fb := flip_max hb0 hb
    have HE : Hid (orG g a b = if (andG g (flip a) (flip b)).2.2 = 0 then ((andG g (flip a) (flip b)).1, flip (andG g (flip a) (flip b)).2.1, 0) else (noG, 0, (andG g (flip a) (flip b)).2.2)) := if_neg hneg
    have HB := Lib.hid (((Below.refl w.heap.size w).alloc (Nat.le_refl _) (.cells #[.int .i64 g.n, .slice A g.as.length c] 24)).alloc (by simp) (.cells #[.int .i64 0, .slice none 0 0] 24))
    have HP := Lib.hid ((hp.imp (Q' := fun b => Q b ∧ b < w.heap.size) fun _ h1 h2 => ⟨h1, h2⟩).below HB.out)
    have hlit := andG_lit g (flip a) (flip b)
    have hxr := xor_flip _ hlit.1 (by omega)
    have HC := Lib.hid (and_any g (flip a) (flip b) A c _ _ hg fa.2 fb.2 hc HP.out)
    clear hg hp hc fa fb HP
    generalize andG g (flip a) (flip b) = r at *
    go_enter Try.func45, Try.ntmps45
    go_wp2_with fail
    refine HC.out.mono ?_
    rintro e w1 ⟨A1, c1, rfl, hc1, hp1, hb1⟩
    have hb2 := below2 HB.out HB.out.size hb1
    have rb : Blk w1 (w.heap.size + 1) 24 #[.int .i64 0, .slice none 0 0] := by
      have := Blk.new (w.alloc (.cells #[.int .i64 g.n, .slice A g.as.length c] 24)) 24 #[.int .i64 0, .slice none 0 0]
      rw [World.size_alloc] at this
      exact this.below hb1 (by simp)
    have d0 : ∀ O, (w1.alloc O).cell? ⟨w.heap.size + 1, 0, none⟩ = some (.int .i64 0) := fun O => (rb.alloc O).cell 0
    have d1 : ∀ O, (w1.alloc O).cell? ⟨w.heap.size + 1, 1, none⟩ = some (.slice none 0 0) := fun O => (rb.alloc O).cell 1
    have f0 : ∀ O, (w1.alloc O).frozen? ⟨w.heap.size + 1, 0, none⟩ = false := fun O => (rb.alloc O).frozen 0
    have f1 : ∀ O, (w1.alloc O).frozen? ⟨w.heap.size + 1, 1, none⟩ = false := fun O => (rb.alloc O).frozen 1
    have HB2 := Lib.hid hb2
    have HP1 := Lib.hid hp1
    have HC1 := Lib.hid hc1
    clear rb hb2 hp1 hb1 hc1
    by_cases hz : r.2.2 = 0
    · have hz' : (r.2.2 != 0) = false := by simp [hz]
      have HF : Hid (orG g a b = (r.1, flip r.2.1, 0)) := HE.out.trans (if_pos hz)
      clear hz HE HB
      go_wp2_with fail
      refine bodyPost_ret (v := .tuple #[.agg #[.int .i64 r.1.n, .slice A1 r.1.as.length c1], .int .i64 (flip r.2.1), .int .i64 0]) (by simp [results, Try.results45, go_sem, d0, d1]) rfl ?_
      have hb3 := (((Below.refl w1.heap.size w1).alloc (Nat.le_refl _) (.cells #[.int .i64 r.1.n, .slice A1 r.1.as.length c1] 24)))
      rw [HF.out]
      have h1 := HB2.out.alloc HB2.out.size (.cells #[.int .i64 r.1.n, .slice A1 r.1.as.length c1] 24)
      refine ⟨A1, c1, rfl, HC1.out, ?_, (h1.setCell (p := ⟨w.heap.size + 1, 0, none⟩) (by simp) _).setCell (p := ⟨w.heap.size + 1, 1, none⟩) (by simp) _⟩
      refine (((HP1.out.below hb3).setCell (g := w.heap.size + 1) ?_ _).setCell (g := w.heap.size + 1) ?_ _).imp ?_
      · rintro b (⟨⟨_, h⟩, _⟩ | h)
        · omega
        · simp at h
          omega
      · rintro b (⟨⟨_, h⟩, _⟩ | h)
        · omega
        · simp at h
          omega
      · rintro b (⟨⟨h1, h2⟩, _⟩ | h) _
        · exact .inl ⟨h1, h2⟩
        · simp at h
          exact .inr (by omega)
    · have hz' : (r.2.2 != 0) = true := by simp [hz]
      have HF : Hid (orG g a b = (noG, 0, r.2.2)) := HE.out.trans (if_neg hz)
      clear hz HE HB
      go_wp2_with fail
      refine bodyPost_ret (v := .tuple #[.agg #[.int .i64 0, .slice none 0 0], .int .i64 0, .int .i64 r.2.2]) (by simp [results, Try.results45, go_sem, d0, d1]) rfl ?_
      have h1 := HB2.out.alloc HB2.out.size (.cells #[.int .i64 r.1.n, .slice A1 r.1.as.length c1] 24)
      rw [HF.out]
      exact ⟨none, 0, rfl, Nat.le_refl _, PrsQ.nil, (h1.setCell (p := ⟨w.heap.size + 1, 0, none⟩) (by simp) _).setCell (p := ⟨w.heap.size + 1, 1, none⟩) (by simp) _⟩
end Go.Proofs.Ytbdhkagcbncefaa

namespace Go.Proofs.Ytbdhkagcbncefaa
open Go.RowKit Go.Maps

theorem noG_ok : GOk noG := ⟨by decide, by simp [noG], by simp [noG]⟩

theorem andHi_ok {g : Gr} {a b : Int} (hg : GOk g) (hn : g.as.length ≤ 2000) (ha : 0 ≤ a ∧ a ≤ 4001) (hb : 0 ≤ b ∧ b ≤ 4001) : GOk (andHi g a b).1 := by
  unfold andHi
  cases trivG a b with
  | some l => exact hg
  | none =>
    dsimp only
    cases placeOf g.as (a, b) with
    | some i => exact hg
    | none =>
      dsimp only
      split
      · exact noG_ok
      · rename_i h
        obtain ⟨h1, h2, h3⟩ := hg
        unfold Gr.vars at h
        have := (wf_iff _).1 h1
        refine ⟨h1, ?_, ?_⟩
        · simp
          omega
        · intro p hp
          simp at hp
          rcases hp with hp | rfl
          · exact h3 p hp
          · exact ⟨(wf_iff _).2 (by dsimp only; omega), (wf_iff _).2 (by dsimp only; omega)⟩

theorem andG_ok {g : Gr} (hg : GOk g) (a b : Int) : GOk (andG g a b).1 := by
  unfold andG
  split
  · rename_i h
    rw [Bool.and_eq_true, Bool.and_eq_true, litB_iff, litB_iff, right_iff] at h
    exact andHi_ok hg h.1.1.2.2.1 (by omega) (by omega)
  · exact noG_ok
theorem orG_ok {g : Gr} (hg : GOk g) (a b : Int) : GOk (orG g a b).1 := by
  unfold orG
  split
  · exact noG_ok
  · dsimp only
    split
    · exact andG_ok hg _ _
    · exact noG_ok
theorem iteG_ok {g : Gr} (hg : GOk g) (c a b : Int) : GOk (iteG g c a b).1 := by
  unfold iteG
  split
  · exact noG_ok
  · dsimp only
    split
    · split
      · exact orG_ok (andG_ok (andG_ok hg _ _) _ _) _ _
      · exact noG_ok
    · exact noG_ok

/-- Two boxes of a caller: the graph that it holds, and the one that it hands back. -/
structure Two (w w' : World) (Q : Nat → Prop) (g : Gr) (A : Option Addr) (c : Nat) : Prop where
  below : Below w.heap.size w w'
  big : w.heap.size + 2 ≤ w'.heap.size
  gb : Blk w' w.heap.size 24 #[.int .i64 g.n, .slice A g.as.length c]
  rb : Blk w' (w.heap.size + 1) 24 #[.int .i64 0, .slice none 0 0]
  prs : PrsQ w' (fun b => (Q b ∧ b < w.heap.size) ∨ w.heap.size + 2 ≤ b) A g.as

theorem Two.begin_ {w : World} {Q : Nat → Prop} {g : Gr} {A : Option Addr} {c : Nat} (hp : PrsQ w Q A g.as) :
    Two w ((w.alloc (.cells #[.int .i64 g.n, .slice A g.as.length c] 24)).alloc (.cells #[.int .i64 0, .slice none 0 0] 24)) Q g A c := by
  refine ⟨((Below.refl _ _).alloc (Nat.le_refl _) _).alloc (by simp) _, by simp, (Blk.new _ _ _).alloc _, ?_, ?_⟩
  · have := Blk.new (w.alloc (.cells #[.int .i64 g.n, .slice A g.as.length c] 24)) 24 #[.int .i64 0, .slice none 0 0]
    rw [World.size_alloc] at this
    exact this
  · exact ((hp.imp (Q' := fun b => (Q b ∧ b < w.heap.size) ∨ w.heap.size + 2 ≤ b) fun b h1 h2 => .inl ⟨h1, h2⟩).alloc _).alloc _

/-- A call that hands back a graph, which is put into the first box. -/
theorem Two.put {w w' w'' : World} {Q : Nat → Prop} {g g' : Gr} {A A' : Option Addr} {c c' : Nat} (h : Two w w' Q g A c) (hb : Below w'.heap.size w' w'')
    (hp : PrsQ w'' (QNew w' (fun b => (Q b ∧ b < w.heap.size) ∨ w.heap.size + 2 ≤ b)) A' g'.as) :
    Two w ((w''.setCell ⟨w.heap.size, 0, none⟩ (.int .i64 g'.n)).setCell ⟨w.heap.size, 1, none⟩ (.slice A' g'.as.length c')) Q g' A' c' := by
  have hz : ∀ (x : World) (p : Addr) (u : Value), (x.setCell p u).heap.size = x.heap.size := fun x p u => by simp [World.setCell]
  have hw := h.below.size
  have hbig := h.big
  refine ⟨(((below2 h.below hw hb).setCell (p := ⟨w.heap.size, 0, none⟩) (Nat.le_refl _) _).setCell (p := ⟨w.heap.size, 1, none⟩) (Nat.le_refl _) _), ?_, ?_, ?_, ?_⟩
  · rw [hz, hz]
    exact Nat.le_trans h.big hb.size
  · have := ((h.gb.below hb h.gb.lt).set_ 0 (.int .i64 g'.n)).set_ 1 (.slice A' g'.as.length c')
    exact this
  · exact ((h.rb.below hb h.rb.lt).far (p := ⟨w.heap.size, 0, none⟩) (by simp) _).far (p := ⟨w.heap.size, 1, none⟩) (by simp) _
  · have hq : ∀ b, QNew w' (fun b => (Q b ∧ b < w.heap.size) ∨ w.heap.size + 2 ≤ b) b → b ≠ w.heap.size := by
      rintro b (⟨⟨_, h⟩ | h, _⟩ | h) <;> omega
    refine ((hp.setCell (g := w.heap.size) hq _).setCell (g := w.heap.size) hq _).imp ?_
    rintro b (⟨h, _⟩ | h) _
    · exact h
    · exact .inr (by omega)

theorem ite_any (g : Gr) (k a b : Int) (A : Option Addr) (c : Nat) (w : World) (Q : Nat → Prop) (hg : GOk g) (hk : k ≤ 9223372036854775807) (ha : a ≤ 9223372036854775807) (hb : b ≤ 9223372036854775807) (hc : g.as.length ≤ c) (hp : PrsQ w Q A g.as) :
    Calls Try.prog 41 #[.agg #[.int .i64 g.n, .slice A g.as.length c], .int .i64 k, .int .i64 a, .int .i64 b] w (RetG w Q (iteG g k a b)) := by
  by_cases hneg : k < 0
  · have HE : Hid (iteG g k a b = (noG, 0, 1)) := if_pos hneg
    clear hg hp hc ha hb
    go_enter Try.func41, Try.ntmps41
    go_wp2_with fail
    refine bodyPost_ret (v := .tuple #[.agg #[.int .i64 0, .slice none 0 0], .int .i64 0, .int .i64 1]) (by simp [results, Try.results41, go_sem]) rfl ?_
    rw [HE.out]
    exact ⟨none, 0, rfl, Nat.le_refl _, PrsQ.nil, ((Below.refl _ _).alloc (Nat.le_refl _) _).alloc (by simp) _⟩
  · have hk0 : 0 ≤ k := by omega
    have hxk := xor_flip k hk0 hk
    have fk := flip_max hk0 hk
    have HT := Lib.hid (Two.begin_ (c := c) hp)
    have HC := Lib.hid (and_any g k a A c _ _ hg hk ha hc HT.out.prs)
    have HE : Hid (iteG g k a b = if (andG g k a).2.2 = 0 then (if (andG (andG g k a).1 (flip k) b).2.2 = 0 then orG (andG (andG g k a).1 (flip k) b).1 (andG g k a).2.1 (andG (andG g k a).1 (flip k) b).2.1 else (noG, 0, (andG (andG g k a).1 (flip k) b).2.2)) else (noG, 0, (andG g k a).2.2)) := if_neg hneg
    have HO := Lib.hid (andG_ok hg k a)
    have hl1 := andG_lit g k a
    clear hg hp hc hneg
    generalize andG g k a = r at *
    go_enter Try.func41, Try.ntmps41
    go_wp2_with fail
    refine HC.out.mono ?_
    rintro e w1 ⟨A1, c1, rfl, hc1, hp1, hb1⟩
    have t1 := HT.out.put (c' := c1) hb1 hp1
    have g1 := HT.out.gb.below hb1 HT.out.gb.lt
    have d0 : w1.cell? ⟨w.heap.size, 0, none⟩ = some (.int .i64 g.n) := g1.cell 0
    have d1 : w1.cell? ⟨w.heap.size, 1, none⟩ = some (.slice A g.as.length c) := g1.cell 1
    have f0 := g1.frozen 0
    have f1 := g1.frozen 1
    have HT1 := Lib.hid t1
    have HC1 := Lib.hid hc1
    clear g1 t1 hp1 hb1 hc1 HC HT
    by_cases hz : r.2.2 = 0
    · have hz' : (r.2.2 != 0) = false := by simp [hz]
      have HE1 := Lib.hid (HE.out.trans (if_pos hz))
      clear hz HE
      have HCb := Lib.hid (and_any r.1 (flip k) b A1 c1 _ _ HO.out fk.2 hb HC1.out HT1.out.prs)
      have HO2 := Lib.hid (andG_ok HO.out (flip k) b)
      have hl2 := andG_lit r.1 (flip k) b
      generalize andG r.1 (flip k) b = s at *
      go_wp2_with fail
      refine HCb.out.mono ?_
      rintro e w2 ⟨A2, c2, rfl, hc2, hp2, hb2⟩
      have t2 := HT1.out.put (c' := c2) hb2 hp2
      have g2 := HT1.out.gb.below hb2 HT1.out.gb.lt
      clear d0 d1 f0 f1
      have d0 : w2.cell? ⟨w.heap.size, 0, none⟩ = some (.int .i64 r.1.n) := g2.cell 0
      have d1 : w2.cell? ⟨w.heap.size, 1, none⟩ = some (.slice A1 r.1.as.length c1) := g2.cell 1
      have f0 := g2.frozen 0
      have f1 := g2.frozen 1
      have HT2 := Lib.hid t2
      have HC2 := Lib.hid hc2
      clear g2 t2 hp2 hb2 hc2 HCb HT1 HC1 HO
      by_cases hy : s.2.2 = 0
      · have hy' : (s.2.2 != 0) = false := by simp [hy]
        have HE2 := Lib.hid (HE1.out.trans (if_pos hy))
        clear hy HE1
        have HCc := Lib.hid (or_any s.1 r.2.1 s.2.1 A2 c2 _ _ HO2.out (by omega) (by omega) HC2.out HT2.out.prs)
        generalize orG s.1 r.2.1 s.2.1 = o at *
        go_wp2_with fail
        refine HCc.out.mono ?_
        rintro e w3 ⟨A3, c3, rfl, hc3, hp3, hb3⟩
        have g3 := HT2.out.rb.below hb3 HT2.out.rb.lt
        clear d0 d1 f0 f1
        have d0 : w3.cell? ⟨w.heap.size + 1, 0, none⟩ = some (.int .i64 0) := g3.cell 0
        have d1 : w3.cell? ⟨w.heap.size + 1, 1, none⟩ = some (.slice none 0 0) := g3.cell 1
        have f0 := g3.frozen 0
        have f1 := g3.frozen 1
        have HB3 := Lib.hid (below2 HT2.out.below HT2.out.below.size hb3)
        have HP3 := Lib.hid hp3
        have hbig := HT2.out.big
        clear g3 hp3 hb3 HCc
        go_wp2_with fail
        refine bodyPost_ret (v := .tuple #[.agg #[.int .i64 o.1.n, .slice A3 o.1.as.length c3], .int .i64 o.2.1, .int .i64 o.2.2]) (by simp [results, Try.results41, go_sem, d0, d1]) rfl ?_
        rw [HE2.out]
        refine ⟨A3, c3, rfl, hc3, ?_, (HB3.out.setCell (p := ⟨w.heap.size + 1, 0, none⟩) (by simp) _).setCell (p := ⟨w.heap.size + 1, 1, none⟩) (by simp) _⟩
        refine ((HP3.out.setCell (g := w.heap.size + 1) ?_ _).setCell (g := w.heap.size + 1) ?_ _).imp ?_
        · rintro b (⟨⟨_, h⟩ | h, _⟩ | h) <;> omega
        · rintro b (⟨⟨_, h⟩ | h, _⟩ | h) <;> omega
        · rintro b (⟨h | h, _⟩ | h) _
          · exact .inl h
          · exact .inr (by omega)
          · exact .inr (by omega)
      · have hy' : (s.2.2 != 0) = true := by simp [hy]
        have HE2 := Lib.hid (HE1.out.trans (if_neg hy))
        clear hy HE1
        have g3 := HT2.out.rb
        have q0 : ((w2.setCell ⟨w.heap.size, 0, none⟩ (.int .i64 s.1.n)).setCell ⟨w.heap.size, 1, none⟩ (.slice A2 s.1.as.length c2)).cell? ⟨w.heap.size + 1, 0, none⟩ = some (.int .i64 0) := g3.cell 0
        have q1 : ((w2.setCell ⟨w.heap.size, 0, none⟩ (.int .i64 s.1.n)).setCell ⟨w.heap.size, 1, none⟩ (.slice A2 s.1.as.length c2)).cell? ⟨w.heap.size + 1, 1, none⟩ = some (.slice none 0 0) := g3.cell 1
        have p0 := g3.frozen 0
        have p1 := g3.frozen 1
        clear g3
        go_wp2_with fail
        refine bodyPost_ret (v := .tuple #[.agg #[.int .i64 0, .slice none 0 0], .int .i64 0, .int .i64 s.2.2]) (by simp [results, Try.results41, go_sem, q0, q1]) rfl ?_
        rw [HE2.out]
        exact ⟨none, 0, rfl, Nat.le_refl _, PrsQ.nil, (HT2.out.below.setCell (p := ⟨w.heap.size + 1, 0, none⟩) (by simp) _).setCell (p := ⟨w.heap.size + 1, 1, none⟩) (by simp) _⟩
    · have hz' : (r.2.2 != 0) = true := by simp [hz]
      have HE1 := Lib.hid (HE.out.trans (if_neg hz))
      clear hz HE
      have g3 := HT1.out.rb
      have q0 : ((w1.setCell ⟨w.heap.size, 0, none⟩ (.int .i64 r.1.n)).setCell ⟨w.heap.size, 1, none⟩ (.slice A1 r.1.as.length c1)).cell? ⟨w.heap.size + 1, 0, none⟩ = some (.int .i64 0) := g3.cell 0
      have q1 : ((w1.setCell ⟨w.heap.size, 0, none⟩ (.int .i64 r.1.n)).setCell ⟨w.heap.size, 1, none⟩ (.slice A1 r.1.as.length c1)).cell? ⟨w.heap.size + 1, 1, none⟩ = some (.slice none 0 0) := g3.cell 1
      have p0 := g3.frozen 0
      have p1 := g3.frozen 1
      clear g3
      go_wp2_with fail
      refine bodyPost_ret (v := .tuple #[.agg #[.int .i64 0, .slice none 0 0], .int .i64 0, .int .i64 r.2.2]) (by simp [results, Try.results41, go_sem, q0, q1]) rfl ?_
      rw [HE1.out]
      exact ⟨none, 0, rfl, Nat.le_refl _, PrsQ.nil, (HT1.out.below.setCell (p := ⟨w.heap.size + 1, 0, none⟩) (by simp) _).setCell (p := ⟨w.heap.size + 1, 1, none⟩) (by simp) _⟩
end Go.Proofs.Ytbdhkagcbncefaa
