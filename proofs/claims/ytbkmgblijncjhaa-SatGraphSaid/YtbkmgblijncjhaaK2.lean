/- Pairs of ints as keys of a map; which pairs a map holds that was made gate by gate. The index of a graph's gates: made once, by sync.Once, in one goroutine. '(*index).make': the map holds each gate at its first place. sync.Once.Do over the index; '(*index).many', '(*index).find'. The package graph: whether a graph may be, a literal, what needs no gate. The package graph: Right, And, Or, Ite. The package graph: And at all literals, Or, Ite. The package graph: Ite. The document's answer for layer 1: Vars, Lit, Right, Same. The document's answer for layer 1: And. The document's answer for layer 1: And at all literals, Or, Ite. A small graph: plain data. -/
import Derived.Maps.OwnSet
import Derived.Maps.OwnOps
import Derived.DeepKeys4
import Derived.Carry
import Derived.Test.YtbkmgblijncjhaaG1
import Derived.Test.YtbkmgblijncjhaaProg
import Derived.Test.YtbkmgblijncjhaaLaid
import Derived.Maps.OwnIn
import Derived.Deep.QuietTactic
import Derived.BigQuiet
import Derived.Deep.RegionWith
import Derived.Deep.RegionLaw
import Derived.Lib.Hide
import Derived.Laws.BitsAllLaws
import Derived.Laws.BitsLemmas
import Derived.BigRegion
namespace Go.Proofs.Ytbkmgblijncjhaa
open Go.RowKit Go.Maps

theorem pairRow : 79 < Try.prog.types.size := of_decide_eq_true (by kernel_rfl)
theorem pairDeep : Try.prog.keyType 79 = true := by kernel_rfl
theorem pairLaw : Keyed Try.prog 79 := Keyed.of_law (deep_law_laid laidOut (m := 3) (by omega) pairRow (by kernel_rfl) (by kernel_rfl))
theorem pairCells : Try.prog.cellsOf 79 = 2 := by kernel_rfl
theorem intCells : Try.prog.cellsOf 3 = 1 := by kernel_rfl
theorem typesPos : Try.prog.types.size = (Try.prog.types.size - 2) + 2 := by kernel_rfl

/-- What a pair reads as, as a key. -/
def kl (p : Pr) : Lit := .string (keyBytes [.int .i64 p.1, .int .i64 p.2])

/-- Both are ints of 64 bits. -/
def PrOk (p : Pr) : Prop := (Lit.int .i64 p.1).wf = true ∧ (Lit.int .i64 p.2).wf = true

theorem keyOf_pair {a b : Int} (h : PrOk (a, b)) : keyOf Try.prog 79 (.agg #[.int .i64 a, .int .i64 b]) = some (kl (a, b)) := by
  obtain ⟨h1, h2⟩ := h
  dsimp only at h1 h2
  have hk : ∀ m, Try.prog.keyLits (m + 1 + 1) 79 [.int .i64 a, .int .i64 b] = some [.int .i64 a, .int .i64 b] := by
    intro m
    unfold Program.keyLits
    rw [Try.underlying79]
    simp only [pairCells, intCells]
    have e : List.range 2 = [0, 1] := rfl
    simp only [e, List.length_cons, List.length_nil, Nat.reduceAdd, if_true]
    unfold Program.keyLits
    rw [Try.underlying3]
    simp [h1, h2]
  unfold keyOf
  rw [Try.underlying79]
  simp only [pairDeep, Value.formed, Try.underlying79, pairCells]
  have e2 : Try.prog.types.size + 1 = (Try.prog.types.size - 1) + 1 + 1 := by have := typesPos; omega
  simp only [Value.cells]
  rw [e2, hk]
  simp [kl]

theorem kl_key {p : Pr} (h : PrOk p) : WideAt.IsKeyLit (kl p) := pairLaw.key (keyOf_pair (a := p.1) (b := p.2) h)
theorem kl_inj {p q : Pr} (hp : PrOk p) (hq : PrOk q) (h : kl p = kl q) : p = q := by
  have h1 := keyOf_pair (a := p.1) (b := p.2) hp
  have h2 := keyOf_pair (a := q.1) (b := q.2) hq
  rw [show kl (p.1, p.2) = kl p from rfl] at h1
  rw [show kl (q.1, q.2) = kl q from rfl, ← h] at h2
  have e := congrArg (fun v => v.cells.toList) (pairLaw.inj h1 h2)
  simp only [Value.cells, List.cons.injEq, Value.int.injEq, true_and, and_true] at e
  exact Prod.ext e.1 e.2

theorem zeroInt (w : World) : (zeroValue 3).run Try.prog w = .ok (.int .i64 0) w := by kernel_rfl

/-! Two pairs. -/
theorem intInfo : (Try.prog.info? 3).map (fun i => (i.zero, i.size, i.bytes)) = some (some (.int .i64 0), 1, 8) := by kernel_rfl
theorem equalIn_pair (n : Nat) (a b c d : Int) (w : World) : (Op.equalIn (n + 1 + 1) 79 (.agg #[.int .i64 a, .int .i64 b]) (.agg #[.int .i64 c, .int .i64 d])).run Try.prog w = .ok (a == c && b == d) w := by
  obtain ⟨i0, hi0, hz0, hz1, hz2⟩ := info_parts intInfo
  have e1 : ∀ x y : Int, (Op.equalIn (n + 1) 3 (.int .i64 x) (.int .i64 y)).run Try.prog w = .ok (x == y) w := fun x y => run_equalIn_int w n 3 .i64 .i64 x y Try.underlying3
  have p0 : ∀ x y : Int, (part 3 #[.int .i64 x, .int .i64 y] 0).run Try.prog w = .ok (.int .i64 x) w := fun x y => by kernel_rfl
  have p1 : ∀ x y : Int, (part 3 #[.int .i64 x, .int .i64 y] 1).run Try.prog w = .ok (.int .i64 y) w := fun x y => by kernel_rfl
  rw [Op.equalIn]
  simp only [Sem.run_bind, run_underlying Try.underlying79, Result.andThen_ok, sizeOf, typeInfo]
  simp only [Std.Legacy.Range.forIn_eq_forIn_range', Std.Legacy.Range.size]
  simp [hi0, hz1, List.range', e1, p0, p1]
  by_cases h1 : a = c <;> by_cases h2 : b = d <;> simp [h1, h2]
theorem eql_pair (a b c d : Int) (w : World) : (binOp .eql 79 (.agg #[.int .i64 a, .int .i64 b]) (.agg #[.int .i64 c, .int .i64 d])).run Try.prog w = .ok (.bool (a == c && b == d)) w := by
  rw [run_eql_struct, show (10000 : Nat) = 9998 + 1 + 1 from rfl, equalIn_pair]
  rfl
theorem neq_pair (a b c d : Int) (w : World) : (binOp .neq 79 (.agg #[.int .i64 a, .int .i64 b]) (.agg #[.int .i64 c, .int .i64 d])).run Try.prog w = .ok (.bool (!(a == c && b == d))) w := by
  rw [run_neq_struct, show (10000 : Nat) = 9998 + 1 + 1 from rfl, equalIn_pair]
  rfl

/-- The map D holds each of the pairs, at its first place. -/
structure Idx (D : DataW Unit) (ps : List Pr) : Prop where
  tidy : Tidy D
  mem : ∀ p, PrOk p → (Maps.has D (kl p) = true ↔ p ∈ ps)
  at_ : ∀ (i : Nat) (p : Pr), PrOk p → ps[i]? = some p → (∀ j : Nat, j < i → ps[j]? ≠ some p) → ∀ z, D.atKey (kl p) z = .lit (.int .i64 (i : Int))
  le : Maps.size D ≤ ps.length
  all : Maps.size D = ps.length ↔ ps.Nodup

theorem Idx.nil : Idx (.map []) [] := ⟨tidy_empty, fun p _ => by simp [Maps.has], fun i p _ h => by simp at h, by simp [Maps.size], by simp [Maps.size]⟩

theorem Idx.keep {D : DataW Unit} {ps : List Pr} (h : Idx D ps) {p : Pr} (hp : p ∈ ps) : Idx D (ps ++ [p]) := by
  refine ⟨h.tidy, fun q hq => ?_, fun i q hq hi hf z => ?_, ?_, ?_⟩
  · rw [h.mem q hq]
    simp
    intro e
    rw [e]
    exact hp
  · by_cases hlt : i < ps.length
    · rw [List.getElem?_append_left hlt] at hi
      exact h.at_ i q hq hi (fun j hj => by have := hf j hj; rwa [List.getElem?_append_left (by omega)] at this) z
    · have hil : i < (ps ++ [p]).length := (List.getElem?_eq_some_iff.1 hi).1
      simp at hil
      have : i = ps.length := by omega
      subst this
      simp at hi
      subst hi
      obtain ⟨j, hj, e⟩ := List.getElem_of_mem hp
      exact absurd (by rw [List.getElem?_append_left hj, List.getElem?_eq_getElem hj, e]) (hf j hj)
  · simp
    exact Nat.le_succ_of_le h.le
  · have h1 := h.le
    constructor
    · intro e
      simp at e
      omega
    · intro hn
      have := (List.nodup_append.1 hn).2.2 p hp p (by simp)
      exact absurd rfl this

theorem Idx.put {D : DataW Unit} {ps : List Pr} (h : Idx D ps) {p : Pr} (hk : PrOk p) (hp : p ∉ ps) : Idx (D.put (kl p) (.lit (.int .i64 (ps.length : Int)))) (ps ++ [p]) := by
  have hno : Maps.has D (kl p) = false := by
    cases e : Maps.has D (kl p)
    · rfl
    · exact absurd ((h.mem p hk).1 e) hp
  have hm := h.tidy.isMap
  have hs : Maps.size (D.put (kl p) (.lit (.int .i64 (ps.length : Int)))) = Maps.size D + 1 := by
    rw [size_put h.tidy, hno]
    simp
  refine ⟨h.tidy.put (kl_key hk) _, fun q hq => ?_, fun i q hq hi hf z => ?_, ?_, ?_⟩
  · by_cases e : q = p
    · subst e
      simp [has_put_same hm (kl_key hk)]
    · have hne : kl q ≠ kl p := fun e' => e (kl_inj hq hk e')
      rw [has_put_other hne, h.mem q hq]
      simp [e]
  · by_cases hlt : i < ps.length
    · rw [List.getElem?_append_left hlt] at hi
      have hq' : q ∈ ps := List.mem_of_getElem? hi
      have e : q ≠ p := fun e => hp (by rw [← e]; exact hq')
      have hne : kl q ≠ kl p := fun e' => e (kl_inj hq hk e')
      rw [atKey_put_other hne]
      exact h.at_ i q hq hi (fun j hj => by have := hf j hj; rwa [List.getElem?_append_left (by omega)] at this) z
    · have hil : i < (ps ++ [p]).length := (List.getElem?_eq_some_iff.1 hi).1
      simp at hil
      have : i = ps.length := by omega
      subst this
      simp at hi
      subst hi
      exact atKey_put_same hm (kl_key hk) _ _
  · rw [hs]
    have := h.le
    simp
    omega
  · rw [hs]
    have h1 := h.le
    constructor
    · intro e
      simp at e
      refine List.nodup_append.2 ⟨h.all.1 e, by simp, fun a ha b hb => ?_⟩
      simp at hb
      subst hb
      rintro rfl
      exact hp ha
    · intro hn
      have := h.all.2 (List.nodup_append.1 hn).1
      simp
      omega
end Go.Proofs.Ytbkmgblijncjhaa

namespace Go.Proofs.Ytbkmgblijncjhaa
open Go.RowKit Go.Maps

end Go.Proofs.Ytbkmgblijncjhaa

namespace Go.Proofs.Ytbkmgblijncjhaa
open Go.RowKit Go.Maps

theorem grown_alloc {a w : World} {row : Option Nat} (h : a.grownBy w row) (o : Obj) : a.grownBy (w.alloc o) row :=
  ⟨h.os, h.tape, h.output, Nat.le_trans h.size (by simp), fun i hi hne => (Below.heap_alloc w o i (Nat.lt_of_lt_of_le hi h.size)).trans (h.block i hi hne)⟩
theorem _root_.Go.World.grownBy.drew {a w : World} {row : Option Nat} (h : a.grownBy w row) : a.grownBy w.drew row := ⟨h.os, h.tape, h.output, h.size, h.block⟩
/-- A step more, which turns one block that is new. -/
theorem grown_grown {a w w' : World} {row : Option Nat} {g : Nat} (h : a.grownBy w row) (h' : w.grownBy w' (some g)) (hg : a.heap.size ≤ g) : a.grownBy w' row :=
  ⟨h'.os.trans h.os, h'.tape.trans h.tape, h'.output.trans h.output, Nat.le_trans h.size h'.size, fun i hi hne => (h'.block i (Nat.lt_of_lt_of_le hi h.size) (by simp; omega)).trans (h.block i hi hne)⟩

end Go.Proofs.Ytbkmgblijncjhaa

namespace Go.Proofs.Ytbkmgblijncjhaa
open Go.RowKit Go.Maps

theorem make_func : ∀ (fn : Fn) (first cap : Array Value) (w : World), (Instr.makeFunc fn first cap).run Try.prog w = .ok (.func fn first cap) w := fun _ _ _ _ => rfl

/-- A gate's place. -/
def FindIs (w w' : World) (ps : List Pr) (p : Pr) (e : Ending) : Prop :=
  ((∃ i : Nat, ps[i]? = some p ∧ e = .returned (.tuple #[.int .i64 i, .bool true])) ∨ (p ∉ ps ∧ e = .returned (.tuple #[.int .i64 0, .bool false]))) ∧ Below w.heap.size w w'

end Go.Proofs.Ytbkmgblijncjhaa

namespace Go.Proofs.Ytbkmgblijncjhaa
open Go.RowKit Go.Maps

/-- The list of gates fits. -/
def GOk (g : Gr) : Prop := (Lit.int .i64 g.n).wf = true ∧ g.as.length ≤ 8796093022208 ∧ ∀ p ∈ g.as, PrOk p

theorem wf_iff (x : Int) : (Lit.int .i64 x).wf = true ↔ (-9223372036854775808 ≤ x ∧ x ≤ 9223372036854775807) := by
  simp [Lit.wf, IntKind.min, IntKind.max, IntKind.signed, IntKind.bits]

theorem tdiv2 (l : Int) : l.tdiv 2 = if 0 ≤ l then l / 2 else -((-l) / 2) := by
  split
  · rename_i h
    exact Int.tdiv_eq_ediv_of_nonneg h
  · rename_i h
    have : l = -(-l) := by omega
    rw [this, Int.neg_tdiv, Int.tdiv_eq_ediv_of_nonneg (by omega)]
    omega

theorem wrap_tdiv2 (l : Int) (h : (Lit.int .i64 l).wf = true) : wrap64 (l.tdiv 2) = l.tdiv 2 := by
  rw [wf_iff] at h
  rw [tdiv2]
  unfold wrap64
  split <;> omega

theorem litB_eq (g : Gr) (l : Int) (b : Bool) : b = litB g l ↔ (b = true ↔ (0 ≤ g.n ∧ g.n ≤ 2000 ∧ 0 ≤ l ∧ l / 2 < g.n + 1 + g.as.length)) := by
  rw [Bool.eq_iff_iff]
  have : litB g l = true ↔ (0 ≤ g.n ∧ g.n ≤ 2000 ∧ 0 ≤ l ∧ l / 2 < g.n + 1 + g.as.length) := by unfold litB Gr.vars; exact decide_eq_true_iff
  rw [this]

theorem mayB_eq (a b v : Int) (x : Bool) : x = mayB a b v ↔ (x = true ↔ (2 ≤ b ∧ b / 2 < a / 2 ∧ a / 2 < v)) := by
  rw [Bool.eq_iff_iff]
  have : mayB a b v = true ↔ (2 ≤ b ∧ b / 2 < a / 2 ∧ a / 2 < v) := by unfold mayB; exact decide_eq_true_iff
  rw [this]

theorem below_grown {w w' : World} (h : Below w.heap.size w w') (row : Option Nat) : w.grownBy w' row := ⟨h.os, h.tape, h.output, h.size, fun i hi _ => h.block i hi⟩

/-- At the head of round k: the gates before k may be. -/
def RightRel (w wr : World) (B : Nat) (g : Gr) (k : Nat) : Prop := Below B w wr ∧ ∀ (j : Nat) (p : Pr), j < k → g.as[j]? = some p → mayB p.1 p.2 (g.n + 1 + j) = true

end Go.Proofs.Ytbkmgblijncjhaa

namespace Go.Proofs.Ytbkmgblijncjhaa
open Go.RowKit Go.Maps

theorem xor_mod2 (a b : Nat) : (a ^^^ b) % 2 = (a + b) % 2 := by
  have h : (a ^^^ b) % 2 ^ 1 = (a % 2 ^ 1) ^^^ (b % 2 ^ 1) := Nat.xor_mod_two_pow
  simp only [Nat.pow_one] at h
  rw [h]
  rcases Nat.mod_two_eq_zero_or_one a with ha | ha <;> rcases Nat.mod_two_eq_zero_or_one b with hb | hb <;> rw [ha, hb] <;> simp <;> omega
theorem xor_zero_iff (a b : Nat) : a ^^^ b = 0 ↔ a = b := by
  constructor
  · intro h
    have : a ^^^ b ^^^ b = 0 ^^^ b := by rw [h]
    rwa [Nat.xor_assoc, Nat.xor_self, Nat.xor_zero, Nat.zero_xor] at this
  · rintro rfl
    exact Nat.xor_self a
theorem xor_one_nat (a b : Nat) : a ^^^ b = 1 ↔ (a / 2 = b / 2 ∧ a ≠ b) := by
  have h1 : (a ^^^ b) / 2 = a / 2 ^^^ b / 2 := Nat.xor_div_two
  have h2 := xor_mod2 a b
  have h3 := xor_zero_iff (a / 2) (b / 2)
  constructor
  · intro h
    rw [h] at h1 h2
    have := h3.1 (by omega)
    omega
  · intro ⟨h, hne⟩
    have := h3.2 h
    omega
theorem flip_nat (a : Nat) : a ^^^ 1 = if a % 2 = 0 then a + 1 else a - 1 := by
  have h1 : (a ^^^ 1) / 2 = a / 2 ^^^ 1 / 2 := Nat.xor_div_two
  have h2 := xor_mod2 a 1
  rw [show 1 / 2 = 0 from rfl, Nat.xor_zero] at h1
  split <;> omega
theorem ofInt64_nat (a : Nat) (ha : a < 9223372036854775808) : (BitVec.ofInt 64 (a : Int)).toNat = a := by
  rw [BitVec.ofInt_natCast, BitVec.toNat_ofNat]; exact Nat.mod_eq_of_lt (by omega)
theorem xor_i64 (a b : Nat) (ha : a < 9223372036854775808) (hb : b < 9223372036854775808) : bits .xor .i64 (a : Int) (b : Int) = ((a ^^^ b : Nat) : Int) := by
  have hx : a ^^^ b < 2 ^ 63 := Nat.xor_lt_two_pow (by omega) (by omega)
  show IntKind.i64.wrap ((BitVec.ofInt 64 (a : Int) ^^^ BitVec.ofInt 64 (b : Int)).toNat : Int) = _
  rw [BitVec.toNat_xor, ofInt64_nat a ha, ofInt64_nat b hb, IntKind.wrap_i64]
  omega
theorem xor_flip (a : Int) (h0 : 0 ≤ a) (h1 : a ≤ 9223372036854775807) : bits .xor .i64 a 1 = flip a := by
  obtain ⟨n, rfl⟩ := Int.eq_ofNat_of_zero_le h0
  have := xor_i64 n 1 (by omega) (by omega)
  rw [show ((1 : Nat) : Int) = 1 from rfl] at this
  rw [this, flip_nat]
  unfold flip
  split <;> split <;> omega
theorem xor_is_one (a b : Int) (h0 : 0 ≤ a) (h1 : a ≤ 9223372036854775807) (h2 : 0 ≤ b) (h3 : b ≤ 9223372036854775807) : (bits .xor .i64 a b == 1) = decide (a / 2 = b / 2 ∧ a ≠ b) := by
  obtain ⟨m, rfl⟩ := Int.eq_ofNat_of_zero_le h0
  obtain ⟨n, rfl⟩ := Int.eq_ofNat_of_zero_le h2
  rw [xor_i64 m n (by omega) (by omega), Bool.eq_iff_iff, decide_eq_true_eq, beq_iff_eq]
  have := xor_one_nat m n
  omega
theorem flip_range {a : Int} (h0 : 0 ≤ a) : 0 ≤ flip a ∧ flip a ≤ a + 1 ∧ flip a / 2 = a / 2 := by
  unfold flip
  split <;> omega
theorem flip_flip {a : Int} : flip (flip a) = a := by
  unfold flip
  split <;> split <;> omega

theorem pairInfo : (Try.prog.info? 79).map (fun i => (i.zero, i.size, i.bytes)) = some (some (.agg #[.int .i64 0, .int .i64 0]), 2, 16) := by kernel_rfl

/-- A graph, a literal and an error are handed back; nothing that was there turns. -/
def RetG (w : World) (Q : Nat → Prop) (r : Gr × Int × Int) (e : Ending) (w' : World) : Prop :=
  ∃ A c, e = .returned (.tuple #[.agg #[.int .i64 r.1.n, .slice A r.1.as.length c], .int .i64 r.2.1, .int .i64 r.2.2]) ∧ r.1.as.length ≤ c ∧ PrsQ w' (QNew w Q) A r.1.as ∧ Below w.heap.size w w'

end Go.Proofs.Ytbkmgblijncjhaa

namespace Go.Proofs.Ytbkmgblijncjhaa
open Go.RowKit Go.Maps

theorem litB_iff (g : Gr) (l : Int) : litB g l = true ↔ (0 ≤ g.n ∧ g.n ≤ 2000 ∧ 0 ≤ l ∧ l / 2 < g.n + 1 + g.as.length) := by unfold litB Gr.vars; exact decide_eq_true_iff

/-- What And's literal may be. -/
theorem andHi_lit {g : Gr} {a b : Int} (hs : 0 ≤ g.n ∧ g.n ≤ 2000 ∧ g.as.length ≤ 2000 ∧ g.n + 1 + g.as.length ≤ 2000) (ha0 : 0 ≤ a) (ha : a ≤ 4001) : 0 ≤ (andHi g a b).2.1 ∧ (andHi g a b).2.1 ≤ 4001 := by
  unfold andHi
  cases ht : trivG a b with
  | some l =>
    unfold trivG at ht
    split at ht
    · cases ht
      simp
    · split at ht
      · cases ht
        exact ⟨ha0, ha⟩
      · cases ht
  | none =>
    dsimp only
    cases hq : placeOf g.as (a, b) with
    | some i =>
      have hi : i < g.as.length := (List.getElem?_eq_some_iff.1 (placeOf_some hq)).1
      dsimp only
      omega
    | none =>
      dsimp only
      split
      · simp
      · rename_i h
        unfold Gr.vars at h ⊢
        dsimp only
        omega

theorem andG_lit (g : Gr) (a b : Int) : 0 ≤ (andG g a b).2.1 ∧ (andG g a b).2.1 ≤ 4001 := by
  unfold andG
  split
  · rename_i h
    rw [Bool.and_eq_true, Bool.and_eq_true, litB_iff, litB_iff, right_iff] at h
    exact andHi_lit h.1.1 (by omega) (by omega)
  · simp

theorem flip_max {a : Int} (h0 : 0 ≤ a) (h1 : a ≤ 9223372036854775807) : 0 ≤ flip a ∧ flip a ≤ 9223372036854775807 := by
  unfold flip
  split <;> omega

end Go.Proofs.Ytbkmgblijncjhaa

namespace Go.Proofs.Ytbkmgblijncjhaa
open Go.RowKit Go.Maps

theorem noG_ok : GOk noG := ⟨by decide, by simp [noG], by simp [noG]⟩

theorem andHi_ok {g : Gr} {a b : Int} (hg : GOk g) (hn : g.as.length ≤ 2000) (ha : 0 ≤ a ∧ a ≤ 4001) (hb : 0 ≤ b ∧ b ≤ 4001) : GOk (andHi g a b).1 := by
  unfold andHi
  cases trivG a b with
  | some l => exact hg
  | none =>
    dsimp only
    cases placeOf g.as (a, b) with
    | some i => exact hg
    | none =>
      dsimp only
      split
      · exact noG_ok
      · rename_i h
        obtain ⟨h1, h2, h3⟩ := hg
        unfold Gr.vars at h
        have := (wf_iff _).1 h1
        refine ⟨h1, ?_, ?_⟩
        · simp
          omega
        · intro p hp
          simp at hp
          rcases hp with hp | rfl
          · exact h3 p hp
          · exact ⟨(wf_iff _).2 (by dsimp only; omega), (wf_iff _).2 (by dsimp only; omega)⟩

theorem andG_ok {g : Gr} (hg : GOk g) (a b : Int) : GOk (andG g a b).1 := by
  unfold andG
  split
  · rename_i h
    rw [Bool.and_eq_true, Bool.and_eq_true, litB_iff, litB_iff, right_iff] at h
    exact andHi_ok hg h.1.1.2.2.1 (by omega) (by omega)
  · exact noG_ok
theorem orG_ok {g : Gr} (hg : GOk g) (a b : Int) : GOk (orG g a b).1 := by
  unfold orG
  split
  · exact noG_ok
  · dsimp only
    split
    · exact andG_ok hg _ _
    · exact noG_ok
theorem iteG_ok {g : Gr} (hg : GOk g) (c a b : Int) : GOk (iteG g c a b).1 := by
  unfold iteG
  split
  · exact noG_ok
  · dsimp only
    split
    · split
      · exact orG_ok (andG_ok (andG_ok hg _ _) _ _) _ _
      · exact noG_ok
    · exact noG_ok

/-- Two boxes of a caller: the graph that it holds, and the one that it hands back. -/
structure Two (w w' : World) (Q : Nat → Prop) (g : Gr) (A : Option Addr) (c : Nat) : Prop where
  below : Below w.heap.size w w'
  big : w.heap.size + 2 ≤ w'.heap.size
  gb : Blk w' w.heap.size 41 #[.int .i64 g.n, .slice A g.as.length c]
  rb : Blk w' (w.heap.size + 1) 41 #[.int .i64 0, .slice none 0 0]
  prs : PrsQ w' (fun b => (Q b ∧ b < w.heap.size) ∨ w.heap.size + 2 ≤ b) A g.as

theorem Two.begin_ {w : World} {Q : Nat → Prop} {g : Gr} {A : Option Addr} {c : Nat} (hp : PrsQ w Q A g.as) :
    Two w ((w.alloc (.cells #[.int .i64 g.n, .slice A g.as.length c] 41)).alloc (.cells #[.int .i64 0, .slice none 0 0] 41)) Q g A c := by
  refine ⟨((Below.refl _ _).alloc (Nat.le_refl _) _).alloc (by simp) _, by simp, (Blk.new _ _ _).alloc _, ?_, ?_⟩
  · have := Blk.new (w.alloc (.cells #[.int .i64 g.n, .slice A g.as.length c] 41)) 41 #[.int .i64 0, .slice none 0 0]
    rw [World.size_alloc] at this
    exact this
  · exact ((hp.imp (Q' := fun b => (Q b ∧ b < w.heap.size) ∨ w.heap.size + 2 ≤ b) fun b h1 h2 => .inl ⟨h1, h2⟩).alloc _).alloc _

/-- A call that hands back a graph, which is put into the first box. -/
theorem Two.put {w w' w'' : World} {Q : Nat → Prop} {g g' : Gr} {A A' : Option Addr} {c c' : Nat} (h : Two w w' Q g A c) (hb : Below w'.heap.size w' w'')
    (hp : PrsQ w'' (QNew w' (fun b => (Q b ∧ b < w.heap.size) ∨ w.heap.size + 2 ≤ b)) A' g'.as) :
    Two w ((w''.setCell ⟨w.heap.size, 0, none⟩ (.int .i64 g'.n)).setCell ⟨w.heap.size, 1, none⟩ (.slice A' g'.as.length c')) Q g' A' c' := by
  have hz : ∀ (x : World) (p : Addr) (u : Value), (x.setCell p u).heap.size = x.heap.size := fun x p u => by simp [World.setCell]
  have hw := h.below.size
  have hbig := h.big
  refine ⟨(((below2 h.below hw hb).setCell (p := ⟨w.heap.size, 0, none⟩) (Nat.le_refl _) _).setCell (p := ⟨w.heap.size, 1, none⟩) (Nat.le_refl _) _), ?_, ?_, ?_, ?_⟩
  · rw [hz, hz]
    exact Nat.le_trans h.big hb.size
  · have := ((h.gb.below hb h.gb.lt).set_ 0 (.int .i64 g'.n)).set_ 1 (.slice A' g'.as.length c')
    exact this
  · exact ((h.rb.below hb h.rb.lt).far (p := ⟨w.heap.size, 0, none⟩) (by simp) _).far (p := ⟨w.heap.size, 1, none⟩) (by simp) _
  · have hq : ∀ b, QNew w' (fun b => (Q b ∧ b < w.heap.size) ∨ w.heap.size + 2 ≤ b) b → b ≠ w.heap.size := by
      rintro b (⟨⟨_, h⟩ | h, _⟩ | h) <;> omega
    refine ((hp.setCell (g := w.heap.size) hq _).setCell (g := w.heap.size) hq _).imp ?_
    rintro b (⟨h, _⟩ | h) _
    · exact h
    · exact .inr (by omega)

end Go.Proofs.Ytbkmgblijncjhaa

namespace Go.Proofs.Ytbkmgblijncjhaa
open Go.RowKit Go.Maps

theorem rvars_any (n : Int) (A : Option Addr) (l c : Nat) (w : World) (h0 : 0 ≤ n) (h1 : n ≤ 4000) (h2 : l ≤ 8796093022208) :
    Calls Try.prog 31 #[.agg #[.int .i64 n, .slice A l c]] w (Ret w (.int .i64 (n + 1 + l))) := by
  go_enter Try.func31, Try.ntmps31
  go_wp2
  go_ret
  exact ⟨rfl, (Below.refl _ _).alloc (Nat.le_refl _) _⟩

theorem rlit_any (g : Gr) (l : Int) (A : Option Addr) (c : Nat) (w : World) (h2 : g.as.length ≤ 8796093022208) (h3 : l ≤ 9223372036854775807) :
    Calls Try.prog 34 #[.agg #[.int .i64 g.n, .slice A g.as.length c], .int .i64 l] w (Ret w (.bool (litB g l))) := by
  go_enter Try.func34, Try.ntmps34
  go_wp2_with (go_at_call 31; refine (rvars_any _ _ _ _ _ (by omega) (by omega) (by omega)).mono ?_; rintro e w1 ⟨rfl, hb⟩)
  all_goals go_ret
  all_goals refine Ret.mk (vbool ((litB_eq _ _ _).2 ?_)) ?_
  all_goals first
    | exact (Below.refl _ _).alloc (Nat.le_refl _) _
    | exact below2 ((Below.refl _ _).alloc (Nat.le_refl _) _) (by simp) hb
    | (simp; omega)

set_option maxHeartbeats 400000 in
theorem rright_size (g : Gr) (A : Option Addr) (c : Nat) (w : World) (hs : sizeB g = false) (hl : g.as.length ≤ 8796093022208) :
    Calls Try.prog 33 #[.agg #[.int .i64 g.n, .slice A g.as.length c]] w (Ret w (.bool (rightB g))) := by
  have hr : Hid (rightB g = false) := by
    unfold Hid rightB
    rw [hs]
    rfl
  have hs' : ¬ (0 ≤ g.n ∧ g.n ≤ 2000 ∧ g.as.length ≤ 2000 ∧ g.n + 1 + g.as.length ≤ 2000) := by
    rw [← size_iff, hs]
    simp
  clear hs
  go_enter Try.func33, Try.ntmps33
  go_wp2_with (first
    | (go_at_call 31; refine (rvars_any _ _ _ _ _ (by omega) (by omega) (by omega)).mono ?_; rintro e w1 ⟨rfl, hb⟩; obtain ⟨hc1, hc2⟩ := bcell hb))
  all_goals go_ret
  all_goals refine ⟨by rw [hr.out]; rfl, ?_⟩
  all_goals first
    | exact (Below.refl _ _).alloc (Nat.le_refl _) _
    | exact below2 ((Below.refl _ _).alloc (Nat.le_refl _) _) (by simp) hb

/-- At the head of round i: the gates before i may be, and are unlike. -/
def RefRel (w wr : World) (B : Nat) (g : Gr) (i : Nat) : Prop :=
  Below B w wr ∧ (∀ (j : Nat) (p : Pr), j < i → g.as[j]? = some p → mayB p.1 p.2 (g.n + 1 + j) = true) ∧ (g.as.take i).Nodup

set_option maxHeartbeats 1000000 in
theorem rright_in (g : Gr) (A : Option Addr) (c : Nat) (w : World) (hs : sizeB g = true) (hp : Prs w w.heap.size A g.as) (hok : ∀ p ∈ g.as, PrOk p) :
    Calls Try.prog 33 #[.agg #[.int .i64 g.n, .slice A g.as.length c]] w (Ret w (.bool (rightB g))) := by
  obtain ⟨h0, h1, h2, h3⟩ := (size_iff g).1 hs
  have hnot := @not_run Try.prog
  go_enter Try.func33, Try.ntmps33
  go_wp2_with (first
    | (go_at_call 31; refine (rvars_any _ _ _ _ _ (by omega) (by omega) (by omega)).mono ?_; rintro e w1 ⟨rfl, hb⟩; obtain ⟨hc1, hc2⟩ := bcell hb))
  have hb1 : Below (w.heap.size + 1) (w.alloc (.cells #[.int .i64 g.n, .slice A g.as.length c] 41)) w1 := hb.mono (by simp)
  clear hb hc1 hc2
  go_loopw [3] (fun s wr => ∃ i : Nat, i ≤ g.as.length ∧ s = .int .i64 i ∧ RefRel (w.alloc (.cells #[.int .i64 g.n, .slice A g.as.length c] 41)) wr (w.heap.size + 1) g i) (fun s _ => g.as.length - (intOf s).toNat)
  case atStart => exact ⟨0, Nat.zero_le _, rfl, hb1, fun j p hj => by omega, by simp⟩
  case round =>
    obtain ⟨i, hi, rfl, hbr, hall, hnd⟩ := hrel
    have hbel : Below w.heap.size w wr := ((Below.refl _ _).alloc (Nat.le_refl _) _).trans (hbr.mono (by omega))
    have c0 : wr.cell? ⟨w.heap.size, 0, none⟩ = some (.int .i64 g.n) := ((bcell hbr).1 _ _ (by omega)).trans (by simp)
    have c1 : wr.cell? ⟨w.heap.size, 1, none⟩ = some (.slice A g.as.length c) := ((bcell hbr).1 _ _ (by omega)).trans (by simp)
    by_cases hlt : i < g.as.length
    · obtain ⟨⟨a1, a2⟩, hpk⟩ : ∃ p, g.as[i]? = some p := ⟨_, List.getElem?_eq_getElem hlt⟩
      obtain ⟨ok1, ok2⟩ := hok _ (List.mem_of_getElem? hpk)
      have ea := wrap_tdiv2 a1 ok1
      have eb := wrap_tdiv2 a2 ok2
      obtain ⟨b', o', rfl, hlb, g1, g2⟩ := (hp.below hbel) i _ hpk
      have t1 := tdiv2 a1
      have t2 := tdiv2 a2
      cases hm : mayB a1 a2 (g.n + 1 + i)
      · have hm' : ¬ (2 ≤ a2 ∧ a2.tdiv 2 < a1.tdiv 2 ∧ a1.tdiv 2 < g.n + 1 + i) := by
          intro h
          have := ((mayB_eq a1 a2 (g.n + 1 + i) _).1 hm.symm).2 (by split at t1 <;> split at t2 <;> omega)
          cases this
        have HF : Hid (rightB g = false) := by
          cases e : rightB g
          · rfl
          · have := ((right_iff g).1 e).2.1 i _ hpk
            rw [hm] at this
            cases this
        have HB := Lib.hid hbel
        clear hall hbr hp hok hbel hpk hm hnd t1 t2 ok1 ok2
        go_wp2_with fail
        go_quiet (fail)
        all_goals go_wp2_with fail
        all_goals go_ret
        all_goals exact ⟨by rw [HF.out]; rfl, below_drewN HB.out _⟩
      · have hm' : 2 ≤ a2 ∧ a2.tdiv 2 < a1.tdiv 2 ∧ a1.tdiv 2 < g.n + 1 + i := by
          have := ((mayB_eq a1 a2 (g.n + 1 + i) _).1 hm.symm).1 rfl
          split at t1 <;> split at t2 <;> omega
        obtain ⟨m1, m2, m3⟩ := hm'
        clear t1 t2 ok1 ok2
        have HB := Lib.hid hbr
        have HBL := Lib.hid hbel
        have HP := Lib.hid hp
        have HOK := Lib.hid hok
        have HND := Lib.hid hnd
        have HA : Hid (∀ (j : Nat) (p : Pr), j < i + 1 → g.as[j]? = some p → mayB p.1 p.2 (g.n + 1 + j) = true) := fun j p hj hpj => by
          rcases Nat.lt_or_ge j i with h | h
          · exact hall j p h hpj
          · obtain rfl : j = i := by omega
            rw [hpk] at hpj
            cases hpj
            exact hm
        have HK := Lib.hid hpk
        clear hall hbr hp hok hbel hpk hm hnd
        go_wp2_with fail
        go_quiet (fail)
        go_wp2_with fail
        obtain ⟨wo, rfl⟩ : ∃ wo : World, wo = wr := ⟨_, rfl⟩
        go_loopw [6] (fun s wi => ∃ k : Nat, k ≤ i ∧ s = .int .i64 k ∧ Below (w.heap.size + 1) (w.alloc (.cells #[.int .i64 g.n, .slice (some ⟨b', o', none⟩) g.as.length c] 41)) wi ∧ Hid (∀ j : Nat, j < k → g.as[j]? ≠ some (a1, a2))) (fun s _ => i - (intOf s).toNat)
        case atStart => exact ⟨0, Nat.zero_le _, rfl, below_drewN HB.out _, fun j hj => by omega⟩
        case round =>
          obtain ⟨k, hk, rfl, hbi, hne⟩ := hrel
          have hbel : Below w.heap.size w wr := ((Below.refl _ _).alloc (Nat.le_refl _) _).trans (hbi.mono (by omega))
          have c1' : wr.cell? ⟨w.heap.size, 1, none⟩ = some (.slice (some ⟨b', o', none⟩) g.as.length c) := ((bcell hbi).1 _ _ (by omega)).trans (by simp)
          obtain ⟨b3, o3, e3, _, j1, j2⟩ := (HP.out.below hbel) i _ HK.out
          injection e3 with e3
          injection e3 with e3 e4
          subst e3 e4
          clear c0 c1 g1 g2
          by_cases hki : k < i
          · obtain ⟨⟨p1, p2⟩, hpj⟩ : ∃ p, g.as[k]? = some p := ⟨_, List.getElem?_eq_getElem (Nat.lt_trans hki hlt)⟩
            obtain ⟨b3, o3, e3, _, q1, q2⟩ := (HP.out.below hbel) k _ hpj
            injection e3 with e3
            injection e3 with e3 e4
            subst e3 e4
            have hki' : (k : Int) < (g.as.length : Int) := by omega
            have hii' : (i : Int) < (g.as.length : Int) := by omega
            have hqe := @eql_pair
            have HBI := Lib.hid hbi
            have HPJ := Lib.hid hpj
            clear hbi hpj hbel
            by_cases he : p1 = a1 ∧ p2 = a2
            · obtain ⟨rfl, rfl⟩ := he
              go_wp2_with fail
              go_quiet (fail)
              all_goals go_wp2_with fail
              all_goals go_ret
              have HF : rightB g = false := by
                cases e : rightB g
                · rfl
                · have hn := ((right_iff g).1 e).2.2
                  have := (List.getElem?_inj (Nat.lt_trans hki hlt) hn).1 (HPJ.out.trans HK.out.symm)
                  omega
              exact ⟨by rw [HF]; rfl, below_drewN (((Below.refl _ _).alloc (Nat.le_refl _) _).trans (HBI.out.mono (by omega))) _⟩
            · have he' : (p1 == a1 && p2 == a2) = false := by simpa using he
              have HNE : Hid (∀ j : Nat, j < k + 1 → g.as[j]? ≠ some (a1, a2)) := fun j hj => by
                rcases Nat.lt_or_ge j k with h | h
                · exact hne.out j h
                · obtain rfl : j = k := by omega
                  rw [HPJ.out]
                  intro e'
                  simp at e'
                  exact he e'
              clear he
              go_wp2_with fail
              go_quiet (fail)
              all_goals go_wp2_with fail
              all_goals go_roundw
              case rel => exact ⟨k + 1, by omega, by go_num, below_drewN HBI.out _, HNE.out⟩
              case measure => simp [intOf]; omega
          · have hke : k = i := by omega
            subst hke
            have HB2 := Lib.hid hbi
            have HND2 : Hid ((g.as.take (k + 1)).Nodup) := by
              show (g.as.take (k + 1)).Nodup
              rw [List.take_add_one, HK.out]
              refine List.nodup_append.2 ⟨HND.out, by simp, fun x hx y hy => ?_⟩
              simp at hy
              subst hy
              rintro rfl
              obtain ⟨j, hj, e⟩ := List.getElem_of_mem hx
              rw [List.length_take] at hj
              refine hne.out j (by omega) ?_
              rw [List.getElem_take] at e
              rw [List.getElem?_eq_getElem (by omega), e]
            clear hbi hne hbel
            go_wp2_with fail
            go_roundw
            case rel => exact ⟨k + 1, by omega, by go_num, HB2.out, HA.out, HND2.out⟩
            case measure => simp [intOf]; omega
    · have hie : i = g.as.length := by omega
      subst hie
      have HF : Hid (rightB g = true) := (right_iff g).2 ⟨⟨h0, h1, h2, h3⟩, fun j p hj => hall j p (List.getElem?_eq_some_iff.1 hj).1 hj, by rw [List.take_length] at hnd; exact hnd⟩
      have HB := Lib.hid hbel
      clear hall hbr hp hok hbel hnd hs
      go_wp2_with fail
      go_ret
      exact ⟨by rw [HF.out]; rfl, HB.out⟩

theorem rright_any (g : Gr) (A : Option Addr) (c : Nat) (w : World) (hg : GOk g) (hp : Prs w w.heap.size A g.as) :
    Calls Try.prog 33 #[.agg #[.int .i64 g.n, .slice A g.as.length c]] w (Ret w (.bool (rightB g))) := by
  obtain ⟨h1, h2, h3⟩ := hg
  cases hs : sizeB g
  · exact rright_size g A c w hs h2
  · exact rright_in g A c w hs hp h3
end Go.Proofs.Ytbkmgblijncjhaa

namespace Go.Proofs.Ytbkmgblijncjhaa
open Go.RowKit Go.Maps

theorem Two.step {w w' w'' : World} {Q : Nat → Prop} {g : Gr} {A : Option Addr} {c : Nat} (h : Two w w' Q g A c) (hb : Below w'.heap.size w' w'') : Two w w'' Q g A c :=
  ⟨below2 h.below h.below.size hb, Nat.le_trans h.big hb.size, h.gb.below hb h.gb.lt, h.rb.below hb h.rb.lt, h.prs.below hb⟩

/-- What Two's own world hands back: no graph, an error. -/
theorem Two.err {w w' : World} {Q : Nat → Prop} {g : Gr} {A : Option Addr} {c : Nat} (h : Two w w' Q g A c) (e : Int) (x y : Value) :
    RetG w Q (noG, 0, e) (.returned (.tuple #[.agg #[.int .i64 0, .slice none 0 0], .int .i64 0, .int .i64 e])) ((w'.setCell ⟨w.heap.size + 1, 0, none⟩ x).setCell ⟨w.heap.size + 1, 1, none⟩ y) :=
  ⟨none, 0, rfl, Nat.le_refl _, PrsQ.nil, (h.below.setCell (p := ⟨w.heap.size + 1, 0, none⟩) (by simp) _).setCell (p := ⟨w.heap.size + 1, 1, none⟩) (by simp) _⟩

/-- .. or its graph, and a literal. -/
theorem Two.same {w w' : World} {Q : Nat → Prop} {g : Gr} {A : Option Addr} {c : Nat} (h : Two w w' Q g A c) (hc : g.as.length ≤ c) (l : Int) (x y : Value) :
    RetG w Q (g, l, 0) (.returned (.tuple #[.agg #[.int .i64 g.n, .slice A g.as.length c], .int .i64 l, .int .i64 0])) ((w'.setCell ⟨w.heap.size + 1, 0, none⟩ x).setCell ⟨w.heap.size + 1, 1, none⟩ y) := by
  refine ⟨A, c, rfl, hc, ?_, (h.below.setCell (p := ⟨w.heap.size + 1, 0, none⟩) (by simp) _).setCell (p := ⟨w.heap.size + 1, 1, none⟩) (by simp) _⟩
  refine ((h.prs.setCell (g := w.heap.size + 1) ?_ _).setCell (g := w.heap.size + 1) ?_ _).imp ?_
  · rintro b (⟨_, h⟩ | h) <;> omega
  · rintro b (⟨_, h⟩ | h) <;> omega
  · rintro b (⟨h1, h2⟩ | h) _
    · exact .inl ⟨h1, h2⟩
    · exact .inr (by omega)

theorem own_snoc {w : World} {base : Nat} {e : TypeId} {v : Value} {n : Nat} {ps : List Pr} {x y : Int} (h : w.ownsRow base e 2 v (0 + n + 1) ([] ++ flat ps ++ [.int .i64 x, .int .i64 y])) :
    w.ownsRow base e 2 v (n + 1) (flat (ps ++ [(x, y)])) := by
  rw [flat_append]
  rw [Nat.zero_add] at h
  exact h

theorem rlit_is (g : Gr) (l : Int) (x : Bool) (hx : litB g l = x) (A : Option Addr) (c : Nat) (w : World) (h2 : g.as.length ≤ 8796093022208) (h3 : l ≤ 9223372036854775807) :
    Calls Try.prog 34 #[.agg #[.int .i64 g.n, .slice A g.as.length c], .int .i64 l] w (Ret w (.bool x)) := by
  subst hx
  exact rlit_any g l A c w h2 h3
theorem rright_is (g : Gr) (x : Bool) (hx : rightB g = x) (A : Option Addr) (c : Nat) (w : World) (hg : GOk g) (hp : Prs w w.heap.size A g.as) :
    Calls Try.prog 33 #[.agg #[.int .i64 g.n, .slice A g.as.length c]] w (Ret w (.bool x)) := by
  subst hx
  exact rright_any g A c w hg hp

theorem rand_no (g : Gr) (a b : Int) (A : Option Addr) (c : Nat) (w : World) (Q : Nat → Prop) (hg : GOk g) (ha : a ≤ 9223372036854775807) (hb : b ≤ 9223372036854775807) (hp : PrsQ w Q A g.as) (hl : (rightB g && (litB g a && litB g b)) = false) :
    Calls Try.prog 32 #[.agg #[.int .i64 g.n, .slice A g.as.length c], .int .i64 a, .int .i64 b] w (RetG w Q (noG, 0, 1)) := by
  have hnot := @not_run Try.prog
  have hgl : g.as.length ≤ 8796093022208 := hg.2.1
  have HT := Lib.hid (Two.begin_ (c := c) hp)
  have HG := Lib.hid hg
  clear hg hp
  cases hr : rightB g
  · have HC := Lib.hid (rright_is g false hr A c _ HG.out HT.out.prs.prs)
    clear hl hr
    go_enter Try.func32, Try.ntmps32
    go_wp2_with fail
    refine HC.out.mono ?_
    rintro e w2 ⟨rfl, hb2⟩
    have HT2 := Lib.hid (HT.out.step hb2)
    have d0 : w2.cell? ⟨w.heap.size + 1, 0, none⟩ = some (.int .i64 0) := HT2.out.rb.cell 0
    have d1 : w2.cell? ⟨w.heap.size + 1, 1, none⟩ = some (.slice none 0 0) := HT2.out.rb.cell 1
    have f0 := HT2.out.rb.frozen 0
    have f1 := HT2.out.rb.frozen 1
    clear hb2
    go_wp2_with fail
    refine bodyPost_ret (v := .tuple #[.agg #[.int .i64 0, .slice none 0 0], .int .i64 0, .int .i64 1]) (by simp [results, Try.results32, go_sem, d0, d1]) rfl (HT2.out.err 1 _ _)
  · rw [hr] at hl
    have HC := Lib.hid (rright_is g true hr A c _ HG.out HT.out.prs.prs)
    clear hr
    cases hla : litB g a
    · have HLA := Lib.hid hla
      clear hl hla
      go_enter Try.func32, Try.ntmps32
      go_wp2_with fail
      refine HC.out.mono ?_
      rintro e w2 ⟨rfl, hb2⟩
      have HT2 := Lib.hid (HT.out.step hb2)
      have e0 : w2.cell? ⟨w.heap.size, 0, none⟩ = some (.int .i64 g.n) := HT2.out.gb.cell 0
      have e1 : w2.cell? ⟨w.heap.size, 1, none⟩ = some (.slice A g.as.length c) := HT2.out.gb.cell 1
      clear hb2
      go_wp2_with fail
      refine (rlit_is g a false HLA.out A c _ hgl ha).mono ?_
      rintro e w3 ⟨rfl, hb3⟩
      have HT3 := Lib.hid (HT2.out.step hb3)
      clear hb3 e0 e1
      have d0 : w3.cell? ⟨w.heap.size + 1, 0, none⟩ = some (.int .i64 0) := HT3.out.rb.cell 0
      have d1 : w3.cell? ⟨w.heap.size + 1, 1, none⟩ = some (.slice none 0 0) := HT3.out.rb.cell 1
      have f0 := HT3.out.rb.frozen 0
      have f1 := HT3.out.rb.frozen 1
      go_wp2_with fail
      refine bodyPost_ret (v := .tuple #[.agg #[.int .i64 0, .slice none 0 0], .int .i64 0, .int .i64 1]) (by simp [results, Try.results32, go_sem, d0, d1]) rfl (HT3.out.err 1 _ _)
    · have hlb : litB g b = false := by rw [hla] at hl; simpa using hl
      have HLA := Lib.hid hla
      have HLB := Lib.hid hlb
      clear hl hla hlb
      go_enter Try.func32, Try.ntmps32
      go_wp2_with fail
      refine HC.out.mono ?_
      rintro e w2 ⟨rfl, hb2⟩
      have HT2 := Lib.hid (HT.out.step hb2)
      have e0 : w2.cell? ⟨w.heap.size, 0, none⟩ = some (.int .i64 g.n) := HT2.out.gb.cell 0
      have e1 : w2.cell? ⟨w.heap.size, 1, none⟩ = some (.slice A g.as.length c) := HT2.out.gb.cell 1
      clear hb2
      go_wp2_with fail
      refine (rlit_is g a true HLA.out A c _ hgl ha).mono ?_
      rintro e w3 ⟨rfl, hb3⟩
      have HT3 := Lib.hid (HT2.out.step hb3)
      clear hb3 e0 e1
      have e0 : w3.cell? ⟨w.heap.size, 0, none⟩ = some (.int .i64 g.n) := HT3.out.gb.cell 0
      have e1 : w3.cell? ⟨w.heap.size, 1, none⟩ = some (.slice A g.as.length c) := HT3.out.gb.cell 1
      go_wp2_with fail
      refine (rlit_is g b false HLB.out A c _ hgl hb).mono ?_
      rintro e w4 ⟨rfl, hb4⟩
      have HT4 := Lib.hid (HT3.out.step hb4)
      clear hb4 e0 e1
      have d0 : w4.cell? ⟨w.heap.size + 1, 0, none⟩ = some (.int .i64 0) := HT4.out.rb.cell 0
      have d1 : w4.cell? ⟨w.heap.size + 1, 1, none⟩ = some (.slice none 0 0) := HT4.out.rb.cell 1
      have f0 := HT4.out.rb.frozen 0
      have f1 := HT4.out.rb.frozen 1
      go_wp2_with fail
      refine bodyPost_ret (v := .tuple #[.agg #[.int .i64 0, .slice none 0 0], .int .i64 0, .int .i64 1]) (by simp [results, Try.results32, go_sem, d0, d1]) rfl (HT4.out.err 1 _ _)

theorem triv_cases (x y : Int) (hle : y ≤ x) (hy : 0 ≤ y) :
    (y = 0 ∧ trivG x y = some 0) ∨ (y ≠ 0 ∧ x / 2 = y / 2 ∧ x ≠ y ∧ trivG x y = some 0) ∨ (y ≠ 0 ∧ x / 2 = y / 2 ∧ x = y ∧ trivG x y = some x) ∨ (y ≠ 0 ∧ x / 2 ≠ y / 2 ∧ x ≠ y ∧ y = 1 ∧ trivG x y = some x) ∨
      (y ≠ 0 ∧ x / 2 ≠ y / 2 ∧ y ≠ 1 ∧ x ≠ y ∧ trivG x y = none) := by
  unfold trivG
  by_cases h1 : y = 0
  · exact .inl ⟨h1, if_pos (.inl h1)⟩
  · by_cases h2 : x / 2 = y / 2
    · by_cases h3 : x = y
      · exact .inr (.inr (.inl ⟨h1, h2, h3, (if_neg (by omega)).trans (if_pos (.inr h3))⟩))
      · exact .inr (.inl ⟨h1, h2, h3, if_pos (.inr ⟨h2, h3⟩)⟩)
    · have h3 : x ≠ y := fun e => h2 (by rw [e])
      by_cases h4 : y = 1
      · exact .inr (.inr (.inr (.inl ⟨h1, h2, h3, h4, (if_neg (by omega)).trans (if_pos (.inl h4))⟩)))
      · exact .inr (.inr (.inr (.inr ⟨h1, h2, h4, h3, (if_neg (by omega)).trans (if_neg (by omega))⟩)))

set_option maxRecDepth 100000 in
set_option maxHeartbeats 1000000 in
theorem rand_hi (g : Gr) (a b x y : Int) (hxy : (x = a ∧ y = b) ∨ (x = b ∧ y = a)) (hlt : y < x) (A : Option Addr) (c : Nat) (w : World) (Q : Nat → Prop) (hg : GOk g) (hy0 : 0 ≤ y) (hx1 : x ≤ 4001) (hc : g.as.length ≤ c) (hp : PrsQ w Q A g.as) (hr : rightB g = true) (hla : litB g a = true) (hlb : litB g b = true) :
    Calls Try.prog 32 #[.agg #[.int .i64 g.n, .slice A g.as.length c], .int .i64 a, .int .i64 b] w (RetG w Q (andHi g x y)) := by
  have hnot := @not_run Try.prog
  have hgl : g.as.length ≤ 8796093022208 := hg.2.1
  have HT := Lib.hid (Two.begin_ (c := c) hp)
  have HC := Lib.hid (rright_is g true hr A c _ hg HT.out.prs.prs)
  obtain ⟨⟨n0, n1, n2, n3⟩, _, hnd⟩ := (right_iff g).1 hr
  clear hg hp hr hnd
  rcases hxy with ⟨rfl, rfl⟩ | ⟨rfl, rfl⟩
  all_goals
    have HLA := Lib.hid hla
    have HLB := Lib.hid hlb
    clear hla hlb
    go_enter Try.func32, Try.ntmps32
    go_wp2_with fail
    refine HC.out.mono ?_
    rintro e w2 ⟨rfl, hb2⟩
    have HT2 := Lib.hid (HT.out.step hb2)
    have e0 : w2.cell? ⟨w.heap.size, 0, none⟩ = some (.int .i64 g.n) := HT2.out.gb.cell 0
    have e1 : w2.cell? ⟨w.heap.size, 1, none⟩ = some (.slice A g.as.length c) := HT2.out.gb.cell 1
    clear hb2
    go_wp2_with fail
    refine (rlit_is g _ true HLA.out A c _ hgl (by omega)).mono ?_
    rintro e w3 ⟨rfl, hb3⟩
    have HT3 := Lib.hid (HT2.out.step hb3)
    clear hb3 e0 e1
    have e0 : w3.cell? ⟨w.heap.size, 0, none⟩ = some (.int .i64 g.n) := HT3.out.gb.cell 0
    have e1 : w3.cell? ⟨w.heap.size, 1, none⟩ = some (.slice A g.as.length c) := HT3.out.gb.cell 1
    go_wp2_with fail
    refine (rlit_is g _ true HLB.out A c _ hgl (by omega)).mono ?_
    rintro e w4 ⟨rfl, hb4⟩
    have HT4 := Lib.hid (HT3.out.step hb4)
    clear hb4 e0 e1 HLA HLB HT HT2 HT3 HC
    have e0 : w4.cell? ⟨w.heap.size, 0, none⟩ = some (.int .i64 g.n) := HT4.out.gb.cell 0
    have e1 : w4.cell? ⟨w.heap.size, 1, none⟩ = some (.slice A g.as.length c) := HT4.out.gb.cell 1
    have d0 : w4.cell? ⟨w.heap.size + 1, 0, none⟩ = some (.int .i64 0) := HT4.out.rb.cell 0
    have d1 : w4.cell? ⟨w.heap.size + 1, 1, none⟩ = some (.slice none 0 0) := HT4.out.rb.cell 1
    have f0 := HT4.out.rb.frozen 0
    have f1 := HT4.out.rb.frozen 1
    rcases triv_cases x y (by omega) hy0 with ⟨h1, ht⟩ | ⟨h1, h2, h3, ht⟩ | ⟨h1, h2, h3, ht⟩ | ⟨h1, h2, h3, h4, ht⟩ | ⟨h1, h2, h3, h4, ht⟩
    · have hA : Hid (andHi g x y = (g, 0, 0)) := by show andHi g x y = _; unfold andHi; rw [ht]
      have b1 : (y == 0) = true := by simpa using h1
      clear h1 ht
      go_wp2_with fail
      refine bodyPost_ret (v := .tuple #[.agg #[.int .i64 g.n, .slice A g.as.length c], .int .i64 0, .int .i64 0]) (by simp [results, Try.results32, go_sem, d0, d1]) rfl ?_
      rw [hA.out]
      exact HT4.out.same hc 0 _ _
    · have hA : Hid (andHi g x y = (g, 0, 0)) := by show andHi g x y = _; unfold andHi; rw [ht]
      have b1 : (y == 0) = false := by simpa using h1
      have b2 : (x / 2 == y / 2) = true := by simpa using h2
      have b3 : (x != y) = true := by simpa using h3
      clear h1 h2 h3 ht
      go_wp2_with fail
      refine bodyPost_ret (v := .tuple #[.agg #[.int .i64 g.n, .slice A g.as.length c], .int .i64 0, .int .i64 0]) (by simp [results, Try.results32, go_sem, d0, d1]) rfl ?_
      rw [hA.out]
      exact HT4.out.same hc 0 _ _
    · omega
    · have hA : Hid (andHi g x y = (g, x, 0)) := by show andHi g x y = _; unfold andHi; rw [ht]
      have b1 : (y == 0) = false := by simpa using h1
      have b2 : (x / 2 == y / 2) = false := by simpa using h2
      have b3 : (y == 1) = true := by simpa using h4
      clear h1 h2 h3 h4 ht
      go_wp2_with fail
      refine bodyPost_ret (v := .tuple #[.agg #[.int .i64 g.n, .slice A g.as.length c], .int .i64 x, .int .i64 0]) (by simp [results, Try.results32, go_sem, d0, d1]) rfl ?_
      rw [hA.out]
      exact HT4.out.same hc x _ _
    · have hA : Hid (andHi g x y = match placeOf g.as (x, y) with
        | some i => (g, 2 * (g.n + 1 + i), 0)
        | none => if g.vars ≥ 2000 then (noG, 0, 2) else (⟨g.n, g.as ++ [(x, y)]⟩, 2 * g.vars, 0)) := by show andHi g x y = _; unfold andHi; rw [ht]; rfl
      have b1 : (y == 0) = false := by simpa using h1
      have b2 : (x / 2 == y / 2) = false := by simpa using h2
      have b3 : (y == 1) = false := by simpa using h3
      have b4 : (x == y) = false := by simpa using h4
      clear h1 h2 h3 h4 ht
      go_wp2_with fail
      go_loop [9] (fun s => ∃ k : Nat, k ≤ g.as.length ∧ s = .int .i64 k ∧ Hid (∀ j : Nat, j < k → g.as[j]? ≠ some (x, y))) (fun s => g.as.length - (intOf s).toNat)
      case atStart => exact ⟨0, Nat.zero_le _, rfl, fun j hj => by omega⟩
      case round =>
        obtain ⟨k, hk, rfl, hne⟩ := hrel
        by_cases hlk : k < g.as.length
        · obtain ⟨⟨p1, p2⟩, hpk⟩ : ∃ p, g.as[k]? = some p := ⟨_, List.getElem?_eq_getElem hlk⟩
          obtain ⟨b', o', rfl, hlb, q1, q2⟩ := HT4.out.prs k _ hpk
          have hqe := @eql_pair
          have HPK := Lib.hid hpk
          clear hpk
          by_cases he : p1 = x ∧ p2 = y
          · obtain ⟨rfl, rfl⟩ := he
            have HI : Hid (andHi g p1 p2 = (g, 2 * (g.n + 1 + k), 0)) := by
              show andHi g p1 p2 = _
              rw [hA.out, placeOf_first HPK.out hne.out]
            clear hA hne
            go_wp2_with fail
            go_region
            all_goals go_wp2_with fail
            all_goals
              refine bodyPost_ret (v := .tuple #[.agg #[.int .i64 g.n, .slice (some ⟨b', o', none⟩) g.as.length c], .int .i64 (2 * (g.n + 1 + k)), .int .i64 0]) (by simp [results, Try.results32, go_sem, d0, d1]) rfl ?_
              rw [HI.out]
              exact (HT4.out.step (Below.refl _ _).drew).same hc _ _ _
          · have he' : (p1 == x && p2 == y) = false := by simpa using he
            have HNE : Hid (∀ j : Nat, j < k + 1 → g.as[j]? ≠ some (x, y)) := fun j hj => by
              rcases Nat.lt_or_ge j k with h | h
              · exact hne.out j h
              · obtain rfl : j = k := by omega
                rw [HPK.out]
                intro e'
                simp at e'
                exact he e'
            clear he hne
            go_wp2_with fail
            go_round
            case rel => exact ⟨k + 1, by omega, by go_num, HNE.out⟩
            case measure => simp [intOf]; omega
        · have hke : k = g.as.length := by omega
          subst hke
          have HI : Hid (andHi g x y = if g.vars ≥ 2000 then (noG, 0, 2) else (⟨g.n, g.as ++ [(x, y)]⟩, 2 * g.vars, 0)) := by
            show andHi g x y = _
            rw [hA.out, placeOf_none.2]
            intro hm
            obtain ⟨j, hj, e⟩ := List.getElem_of_mem hm
            exact hne.out j hj (by rw [List.getElem?_eq_getElem hj, e])
          clear hA hne
          go_wp2_with fail
          refine (rvars_any g.n A g.as.length c _ n0 (by omega) hgl).mono ?_
          rintro e w5 ⟨rfl, hb5⟩
          have HT5 := Lib.hid (HT4.out.step hb5)
          clear hb5 e0 e1 d0 d1 f0 f1 HT4
          have e0 : w5.cell? ⟨w.heap.size, 0, none⟩ = some (.int .i64 g.n) := HT5.out.gb.cell 0
          have e1 : w5.cell? ⟨w.heap.size, 1, none⟩ = some (.slice A g.as.length c) := HT5.out.gb.cell 1
          have d0 : w5.cell? ⟨w.heap.size + 1, 0, none⟩ = some (.int .i64 0) := HT5.out.rb.cell 0
          have d1 : w5.cell? ⟨w.heap.size + 1, 1, none⟩ = some (.slice none 0 0) := HT5.out.rb.cell 1
          have f0 := HT5.out.rb.frozen 0
          have f1 := HT5.out.rb.frozen 1
          by_cases hv : g.n + 1 + g.as.length ≥ 2000
          · have HI2 : Hid (andHi g x y = (noG, 0, 2)) := HI.out.trans (if_pos hv)
            go_wp2_with fail
            refine bodyPost_ret (v := .tuple #[.agg #[.int .i64 0, .slice none 0 0], .int .i64 0, .int .i64 2]) (by simp [results, Try.results32, go_sem, d0, d1]) rfl ?_
            rw [HI2.out]
            exact HT5.out.err 2 _ _
          · have HI2 : Hid (andHi g x y = (⟨g.n, g.as ++ [(x, y)]⟩, 2 * g.vars, 0)) := HI.out.trans (if_neg hv)
            have hv' : g.n + 1 + g.as.length < 2000 := by omega
            clear hv
            clear e0 e1
            have g0 : ∀ O, (w5.alloc O).cell? ⟨w.heap.size, 0, none⟩ = some (.int .i64 g.n) := fun O => (HT5.out.gb.alloc O).cell 0
            have g1 : ∀ O, (w5.alloc O).cell? ⟨w.heap.size, 1, none⟩ = some (.slice A g.as.length c) := fun O => (HT5.out.gb.alloc O).cell 1
            have HV : ∀ O, Hid (Vals (w5.alloc O) _ A (flat g.as)) := fun O => ((HT5.out.prs.prs.alloc (Nat.le_refl _) O).vals)
            obtain ⟨i0, hi0, hz0, hz1, hz2⟩ := info_parts pairInfo
            go_wp2_with (first
              | (at_builtin; refine wpList_append_vals _ rfl (.tmp 90) (.tmp 92) _ rfl (w5.heap.size + 1) 79 i0 _ 2 16 Try.underlying39 hi0 hz0 hz1 hz2 rfl (by omega) (.slice none 0 0) 0 [] rfl (World.ownsRow_nil _ _ _ _) _ A g.as.length c (flat g.as) rfl (flat_length g.as) (HV _).out (flat_one g.as) (by unfold maxLen; omega) (by omega) (by simp) ?_; intro v1 w6 hown1 hg6; have hz6 : w5.heap.size + 1 ≤ w6.heap.size := (by have := hg6.size; simpa using this); have HO6 := Lib.hid hown1; have HG6 := Lib.hid hg6; clear hown1 hg6)
              | (at_builtin; refine wpList_append_vals _ rfl (.tmp 93) (.tmp 97) _ rfl (w5.heap.size + 1) 79 i0 _ 2 16 Try.underlying39 hi0 hz0 hz1 hz2 rfl (by omega) v1 (0 + g.as.length) ([] ++ flat g.as) rfl (HO6.out.alloc _) _ _ 1 1 [.int .i64 x, .int .i64 y] rfl rfl (vals_new w6 [.int .i64 x, .int .i64 y] 79) (flat_one [(x, y)]) (by unfold maxLen; omega) (by omega) (by simp; omega) ?_; intro v2 w7 hown2 hg7; have HO7 := Lib.hid (own_snoc hown2); obtain ⟨A7, c7, hv7, hc7⟩ := own_form HO7.out; have HG7 := Lib.hid hg7; clear hown2 hg7; subst hv7; have OB := ((Blk.new w5 41 #[.int .i64 g.n, .slice none 0 0]).grown HG6.out (by simp [Value.ownBlock])).alloc (.cells #[.int .i64 x, .int .i64 y] 79); have OB7 := OB.grown HG7.out (fun e => by have := own_block HO6.out _ e.symm; omega); have o0 : w7.cell? ⟨w5.heap.size, 0, none⟩ = some (.int .i64 g.n) := OB7.cell 0; have o1 : w7.cell? ⟨w5.heap.size, 1, none⟩ = some (.slice none 0 0) := OB7.cell 1; have fo1 := OB7.frozen 1; have HOB := Lib.hid OB7; clear OB OB7))
            have hb7 : Below w5.heap.size w5 w7 := (((Below.refl _ _).alloc (Nat.le_refl _) _).grown HG6.out (by simp) (by simp [Value.ownBlock])).alloc (by omega) _ |>.grown HG7.out (by simp; omega) (fun k hk => by have := own_block HO6.out _ hk; omega)
            have HT7 := Lib.hid (HT5.out.step hb7)
            have OB8 := HOB.out.set_ 1 (.slice A7 (g.as.length + 1) c7)
            have hbig := HT5.out.big
            have hz7 := hb7.size
            have rb8 := HT7.out.rb.far (p := ⟨w5.heap.size, 1, none⟩) (by simp; omega) (.slice A7 (g.as.length + 1) c7)
            have hbl8 := HT7.out.below.setCell (p := ⟨w5.heap.size, 1, none⟩) (by simp; omega) (.slice A7 (g.as.length + 1) c7)
            have own8 := ownsRow_setCell_below HO7.out (a := ⟨w5.heap.size, 1, none⟩) (by simp) (.slice A7 (g.as.length + 1) c7)
            have hz8 : (w7.setCell ⟨w5.heap.size, 1, none⟩ (.slice A7 (g.as.length + 1) c7)).heap.size = w7.heap.size := by simp [World.setCell]
            have HOB8 := Lib.hid OB8
            have HRB8 := Lib.hid rb8
            have HBL8 := Lib.hid hbl8
            have HOWN8 := Lib.hid own8
            have HZ8 := Lib.hid hz8
            have r0 : w7.cell? ⟨w.heap.size + 1, 0, none⟩ = some (.int .i64 0) := HT7.out.rb.cell 0
            have r1 : w7.cell? ⟨w.heap.size + 1, 1, none⟩ = some (.slice none 0 0) := HT7.out.rb.cell 1
            have q0 := HT7.out.rb.frozen 0
            have q1 := HT7.out.rb.frozen 1
            clear OB8 rb8 hbl8 own8 hz8 hb7 d0 d1 f0 f1 g0 g1
            go_region_with (go_at_call 31; refine (rvars_any g.n A7 (g.as.length + 1) c7 _ n0 (by omega) (by omega)).mono ?_; rintro e w9 ⟨rfl, hb9⟩; have OB9 := (Blk.drew HOB8.out).below hb9 (Blk.lt HOB8.out); have p0 : w9.cell? ⟨w5.heap.size, 0, none⟩ = some (.int .i64 g.n) := OB9.cell 0; have p1 : w9.cell? ⟨w5.heap.size, 1, none⟩ = some (.slice A7 (g.as.length + 1) c7) := OB9.cell 1; have RB9 := (Blk.drew HRB8.out).below hb9 (Blk.lt HRB8.out); have s0 : w9.cell? ⟨w.heap.size + 1, 0, none⟩ = some (.int .i64 0) := RB9.cell 0; have s1 : w9.cell? ⟨w.heap.size + 1, 1, none⟩ = some (.slice none 0 0) := RB9.cell 1; have y0 := RB9.frozen 0; have y1 := RB9.frozen 1; have HB9 := Lib.hid hb9; clear OB9 RB9 hb9)
            all_goals go_wp2_with fail
            all_goals
              refine bodyPost_ret (v := .tuple #[.agg #[.int .i64 g.n, .slice A7 (g.as.length + 1) c7], .int .i64 (2 * (g.n + 1 + ((g.as.length + 1 : Nat) : Int)) - 2), .int .i64 0]) (by simp [results, Try.results32, go_sem, s0, s1, Act.put]; simp only [IntKind.wrap_i64]; omega) rfl ?_
              rw [HI2.out]
              refine ⟨A7, c7, ?_, by simpa using hc7, PrsQ.of_own (ownsRow_setCell_below (ownsRow_setCell_below (own_below (World.ownsRow.drew HOWN8.out) HB9.out) (a := ⟨w.heap.size + 1, 0, none⟩) (by simp; omega) _) (a := ⟨w.heap.size + 1, 1, none⟩) (by simp; omega) _) (fun b hb => .inr (by omega)), ((below2 HBL8.out.drew HBL8.out.size HB9.out).setCell (p := ⟨w.heap.size + 1, 0, none⟩) (by simp) _).setCell (p := ⟨w.heap.size + 1, 1, none⟩) (by simp) _⟩
              have e1 : 2 * (g.n + 1 + ((g.as.length + 1 : Nat) : Int)) - 2 = 2 * g.vars := by unfold Gr.vars; omega
              rw [e1]
              simp
end Go.Proofs.Ytbkmgblijncjhaa

namespace Go.Proofs.Ytbkmgblijncjhaa
open Go.RowKit Go.Maps

set_option maxHeartbeats 400000 in
theorem rand_same (g : Gr) (x : Int) (A : Option Addr) (c : Nat) (w : World) (Q : Nat → Prop) (hg : GOk g) (hy0 : 0 ≤ x) (hx1 : x ≤ 4001) (hc : g.as.length ≤ c) (hp : PrsQ w Q A g.as) (hr : rightB g = true) (hla : litB g x = true) :
    Calls Try.prog 32 #[.agg #[.int .i64 g.n, .slice A g.as.length c], .int .i64 x, .int .i64 x] w (RetG w Q (andHi g x x)) := by
  have hnot := @not_run Try.prog
  have hgl : g.as.length ≤ 8796093022208 := hg.2.1
  have HT := Lib.hid (Two.begin_ (c := c) hp)
  have HC := Lib.hid (rright_is g true hr A c _ hg HT.out.prs.prs)
  have HLA := Lib.hid hla
  clear hg hp hr hla
  go_enter Try.func32, Try.ntmps32
  go_wp2_with fail
  refine HC.out.mono ?_
  rintro e w2 ⟨rfl, hb2⟩
  have HT2 := Lib.hid (HT.out.step hb2)
  have e0 : w2.cell? ⟨w.heap.size, 0, none⟩ = some (.int .i64 g.n) := HT2.out.gb.cell 0
  have e1 : w2.cell? ⟨w.heap.size, 1, none⟩ = some (.slice A g.as.length c) := HT2.out.gb.cell 1
  clear hb2
  go_wp2_with fail
  refine (rlit_is g _ true HLA.out A c _ hgl (by omega)).mono ?_
  rintro e w3 ⟨rfl, hb3⟩
  have HT3 := Lib.hid (HT2.out.step hb3)
  clear hb3 e0 e1
  have e0 : w3.cell? ⟨w.heap.size, 0, none⟩ = some (.int .i64 g.n) := HT3.out.gb.cell 0
  have e1 : w3.cell? ⟨w.heap.size, 1, none⟩ = some (.slice A g.as.length c) := HT3.out.gb.cell 1
  go_wp2_with fail
  refine (rlit_is g _ true HLA.out A c _ hgl (by omega)).mono ?_
  rintro e w4 ⟨rfl, hb4⟩
  have HT4 := Lib.hid (HT3.out.step hb4)
  clear hb4 e0 e1 HLA HT HT2 HT3 HC
  have e0 : w4.cell? ⟨w.heap.size, 0, none⟩ = some (.int .i64 g.n) := HT4.out.gb.cell 0
  have e1 : w4.cell? ⟨w.heap.size, 1, none⟩ = some (.slice A g.as.length c) := HT4.out.gb.cell 1
  have d0 : w4.cell? ⟨w.heap.size + 1, 0, none⟩ = some (.int .i64 0) := HT4.out.rb.cell 0
  have d1 : w4.cell? ⟨w.heap.size + 1, 1, none⟩ = some (.slice none 0 0) := HT4.out.rb.cell 1
  have f0 := HT4.out.rb.frozen 0
  have f1 := HT4.out.rb.frozen 1
  by_cases h1 : x = 0
  · subst h1
    have hA : Hid (andHi g 0 0 = (g, 0, 0)) := by show andHi g 0 0 = _; unfold andHi trivG; rw [if_pos (.inl rfl)]
    go_wp2_with fail
    refine bodyPost_ret (v := .tuple #[.agg #[.int .i64 g.n, .slice A g.as.length c], .int .i64 0, .int .i64 0]) (by simp [results, Try.results32, go_sem, d0, d1]) rfl ?_
    rw [hA.out]
    exact HT4.out.same hc 0 _ _
  · have hA : Hid (andHi g x x = (g, x, 0)) := by show andHi g x x = _; unfold andHi trivG; rw [if_neg (by omega), if_pos (.inr rfl)]
    have b1 : (x == 0) = false := by simpa using h1
    clear h1
    by_cases h2 : x = 1
    · subst h2
      clear b1
      go_wp2_with fail
      refine bodyPost_ret (v := .tuple #[.agg #[.int .i64 g.n, .slice A g.as.length c], .int .i64 1, .int .i64 0]) (by simp [results, Try.results32, go_sem, d0, d1]) rfl ?_
      rw [hA.out]
      exact HT4.out.same hc 1 _ _
    · have b3 : (x == 1) = false := by simpa using h2
      clear h2
      go_wp2_with fail
      refine bodyPost_ret (v := .tuple #[.agg #[.int .i64 g.n, .slice A g.as.length c], .int .i64 x, .int .i64 0]) (by simp [results, Try.results32, go_sem, d0, d1]) rfl ?_
      rw [hA.out]
      exact HT4.out.same hc x _ _

/-- '(parterreref01.And)': what is made of two literals. -/
theorem rand_any (g : Gr) (a b : Int) (A : Option Addr) (c : Nat) (w : World) (Q : Nat → Prop) (hg : GOk g) (ha : a ≤ 9223372036854775807) (hb : b ≤ 9223372036854775807) (hc : g.as.length ≤ c) (hp : PrsQ w Q A g.as) :
    Calls Try.prog 32 #[.agg #[.int .i64 g.n, .slice A g.as.length c], .int .i64 a, .int .i64 b] w (RetG w Q (andG g a b)) := by
  unfold andG
  cases hl : (rightB g && (litB g a && litB g b))
  · exact rand_no g a b A c w Q hg ha hb hp hl
  · rw [if_pos rfl]
    rw [Bool.and_eq_true, Bool.and_eq_true] at hl
    obtain ⟨hr, h1, h2⟩ := hl
    have l1 := (litB_iff g a).1 h1
    have l2 := (litB_iff g b).1 h2
    have hs := (right_iff g).1 hr
    rcases Int.lt_trichotomy a b with h | h | h
    · rw [Int.max_eq_right (by omega), Int.min_eq_left (by omega)]
      exact rand_hi g a b b a (.inr ⟨rfl, rfl⟩) h A c w Q hg (by omega) (by omega) hc hp hr h1 h2
    · subst h
      rw [Int.max_eq_right (Int.le_refl _), Int.min_eq_left (Int.le_refl _)]
      exact rand_same g a A c w Q hg (by omega) (by omega) hc hp hr h1
    · rw [Int.max_eq_left (by omega), Int.min_eq_right (by omega)]
      exact rand_hi g a b a b (.inl ⟨rfl, rfl⟩) h A c w Q hg (by omega) (by omega) hc hp hr h1 h2

theorem Two.res {w w' w'' : World} {Q : Nat → Prop} {g : Gr} {A : Option Addr} {c : Nat} (h : Two w w' Q g A c) {A' : Option Addr} {ps : List Pr} (hp : PrsQ w'' (QNew w' (fun b => (Q b ∧ b < w.heap.size) ∨ w.heap.size + 2 ≤ b)) A' ps) :
    PrsQ w'' (fun b => (Q b ∧ b < w.heap.size) ∨ w.heap.size + 2 ≤ b) A' ps := hp.imp (by
  have := h.big
  rintro b (⟨h, _⟩ | h) _
  · exact h
  · exact .inr (by omega))

/-- A graph that was made, a literal, an error, put into the box that is handed back. -/
theorem Two.ret {w w' : World} {Q : Nat → Prop} {g g' : Gr} {A A' : Option Addr} {c c' : Nat} (h : Two w w' Q g A c) (hc : g'.as.length ≤ c') (hp : PrsQ w' (fun b => (Q b ∧ b < w.heap.size) ∨ w.heap.size + 2 ≤ b) A' g'.as) (l e : Int) (x y : Value) :
    RetG w Q (g', l, e) (.returned (.tuple #[.agg #[.int .i64 g'.n, .slice A' g'.as.length c'], .int .i64 l, .int .i64 e])) ((w'.setCell ⟨w.heap.size + 1, 0, none⟩ x).setCell ⟨w.heap.size + 1, 1, none⟩ y) := by
  refine ⟨A', c', rfl, hc, ?_, (h.below.setCell (p := ⟨w.heap.size + 1, 0, none⟩) (by simp) _).setCell (p := ⟨w.heap.size + 1, 1, none⟩) (by simp) _⟩
  refine ((hp.setCell (g := w.heap.size + 1) ?_ _).setCell (g := w.heap.size + 1) ?_ _).imp ?_
  · rintro b (⟨_, h⟩ | h) <;> omega
  · rintro b (⟨_, h⟩ | h) <;> omega
  · rintro b (⟨h1, h2⟩ | h) _
    · exact .inl ⟨h1, h2⟩
    · exact .inr (by omega)

theorem Two.alloc {w w' : World} {Q : Nat → Prop} {g : Gr} {A : Option Addr} {c : Nat} (h : Two w w' Q g A c) (o : Obj) : Two w (w'.alloc o) Q g A c := h.step ((Below.refl _ _).alloc (Nat.le_refl _) o)

end Go.Proofs.Ytbkmgblijncjhaa

namespace Go.Proofs.Ytbkmgblijncjhaa
open Go.RowKit Go.Maps

def g1 : Gr := ⟨2, [(4, 2)]⟩
theorem g1_and : andG ⟨2, []⟩ 2 4 = (g1, 6, 0) := by rfl
theorem g1_or : orG g1 7 6 = (g1, 1, 0) := by rfl
theorem g1_no : andG g1 8 2 = (noG, 0, 1) := by rfl
theorem g1_right : rightB g1 = true := by rfl
theorem g1_lit7 : litB g1 7 = true := by rfl
theorem g1_lit8 : litB g1 8 = false := by rfl
theorem g0_ok : GOk ⟨2, []⟩ := ⟨by decide, by simp, by simp⟩
theorem g1_ok : GOk g1 := ⟨by decide, by simp [g1], by simp [g1, PrOk]; decide⟩
end Go.Proofs.Ytbkmgblijncjhaa
