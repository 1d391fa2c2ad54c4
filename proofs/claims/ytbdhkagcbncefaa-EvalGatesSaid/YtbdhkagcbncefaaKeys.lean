/- Pairs of ints as keys of a map; which pairs a map holds that was made gate by gate. -/
import Derived.Maps.OwnSet
import Derived.Maps.OwnOps
import Derived.DeepKeys4
import Derived.Carry
import Derived.Test.YtbdhkagcbncefaaMem
import Derived.Test.YtbdhkagcbncefaaProg
namespace Go.Proofs.Ytbdhkagcbncefaa
open Go.RowKit Go.Maps

theorem laidOut : laidOutB Try.prog = true := by kernel_rfl
theorem pairRow : 41 < Try.prog.types.size := of_decide_eq_true (by kernel_rfl)
theorem pairDeep : Try.prog.keyType 41 = true := by kernel_rfl
theorem pairLaw : Keyed Try.prog 41 := Keyed.of_law (deep_law_laid laidOut (m := 3) (by omega) pairRow (by kernel_rfl) (by kernel_rfl))
theorem pairCells : Try.prog.cellsOf 41 = 2 := by kernel_rfl
theorem intCells : Try.prog.cellsOf 3 = 1 := by kernel_rfl
theorem typesPos : Try.prog.types.size = (Try.prog.types.size - 2) + 2 := by kernel_rfl

/-- What a pair reads as, as a key. -/
def kl (p : Pr) : Lit := .string (keyBytes [.int .i64 p.1, .int .i64 p.2])

/-- Both are ints of 64 bits. -/
def PrOk (p : Pr) : Prop := (Lit.int .i64 p.1).wf = true ∧ (Lit.int .i64 p.2).wf = true

theorem keyOf_pair {a b : Int} (h : PrOk (a, b)) : keyOf Try.prog 41 (.agg #[.int .i64 a, .int .i64 b]) = some (kl (a, b)) := by
  obtain ⟨h1, h2⟩ := h
  dsimp only at h1 h2
  have hk : ∀ m, Try.prog.keyLits (m + 1 + 1) 41 [.int .i64 a, .int .i64 b] = some [.int .i64 a, .int .i64 b] := by
    intro m
    unfold Program.keyLits
    rw [Try.underlying41]
    simp only [pairCells, intCells]
    have e : List.range 2 = [0, 1] := rfl
    simp only [e, List.length_cons, List.length_nil, Nat.reduceAdd, if_true]
    unfold Program.keyLits
    rw [Try.underlying3]
    simp [h1, h2]
  unfold keyOf
  rw [Try.underlying41]
  simp only [pairDeep, Value.formed, Try.underlying41, pairCells]
  have e2 : Try.prog.types.size + 1 = (Try.prog.types.size - 1) + 1 + 1 := by have := typesPos; omega
  simp only [Value.cells]
  rw [e2, hk]
  simp [kl]

theorem kl_key {p : Pr} (h : PrOk p) : WideAt.IsKeyLit (kl p) := pairLaw.key (keyOf_pair (a := p.1) (b := p.2) h)
theorem kl_inj {p q : Pr} (hp : PrOk p) (hq : PrOk q) (h : kl p = kl q) : p = q := by
  have h1 := keyOf_pair (a := p.1) (b := p.2) hp
  have h2 := keyOf_pair (a := q.1) (b := q.2) hq
  rw [show kl (p.1, p.2) = kl p from rfl] at h1
  rw [show kl (q.1, q.2) = kl q from rfl, ← h] at h2
  have e := congrArg (fun v => v.cells.toList) (pairLaw.inj h1 h2)
  simp only [Value.cells, List.cons.injEq, Value.int.injEq, true_and, and_true] at e
  exact Prod.ext e.1 e.2

theorem zeroInt (w : World) : (zeroValue 3).run Try.prog w = .ok (.int .i64 0) w := by kernel_rfl

/-! Two pairs. -/
theorem intInfo : (Try.prog.info? 3).map (fun i => (i.zero, i.size, i.bytes)) = some (some (.int .i64 0), 1, 8) := by kernel_rfl
theorem equalIn_pair (n : Nat) (a b c d : Int) (w : World) : (Op.equalIn (n + 1 + 1) 41 (.agg #[.int .i64 a, .int .i64 b]) (.agg #[.int .i64 c, .int .i64 d])).run Try.prog w = .ok (a == c && b == d) w := by
  obtain ⟨i0, hi0, hz0, hz1, hz2⟩ := info_parts intInfo
  have e1 : ∀ x y : Int, (Op.equalIn (n + 1) 3 (.int .i64 x) (.int .i64 y)).run Try.prog w = .ok (x == y) w := fun x y => run_equalIn_int w n 3 .i64 .i64 x y Try.underlying3
  have p0 : ∀ x y : Int, (part 3 #[.int .i64 x, .int .i64 y] 0).run Try.prog w = .ok (.int .i64 x) w := fun x y => by kernel_rfl
  have p1 : ∀ x y : Int, (part 3 #[.int .i64 x, .int .i64 y] 1).run Try.prog w = .ok (.int .i64 y) w := fun x y => by kernel_rfl
  rw [Op.equalIn]
  simp only [Sem.run_bind, run_underlying Try.underlying41, Result.andThen_ok, sizeOf, typeInfo]
  simp only [Std.Legacy.Range.forIn_eq_forIn_range', Std.Legacy.Range.size]
  simp [hi0, hz1, List.range', e1, p0, p1]
  by_cases h1 : a = c <;> by_cases h2 : b = d <;> simp [h1, h2]
theorem eql_pair (a b c d : Int) (w : World) : (binOp .eql 41 (.agg #[.int .i64 a, .int .i64 b]) (.agg #[.int .i64 c, .int .i64 d])).run Try.prog w = .ok (.bool (a == c && b == d)) w := by
  rw [run_eql_struct, show (10000 : Nat) = 9998 + 1 + 1 from rfl, equalIn_pair]
  rfl
theorem neq_pair (a b c d : Int) (w : World) : (binOp .neq 41 (.agg #[.int .i64 a, .int .i64 b]) (.agg #[.int .i64 c, .int .i64 d])).run Try.prog w = .ok (.bool (!(a == c && b == d))) w := by
  rw [run_neq_struct, show (10000 : Nat) = 9998 + 1 + 1 from rfl, equalIn_pair]
  rfl

/-- The map D holds each of the pairs, at its first place. -/
structure Idx (D : DataW Unit) (ps : List Pr) : Prop where
  tidy : Tidy D
  mem : ∀ p, PrOk p → (Maps.has D (kl p) = true ↔ p ∈ ps)
  at_ : ∀ (i : Nat) (p : Pr), PrOk p → ps[i]? = some p → (∀ j : Nat, j < i → ps[j]? ≠ some p) → ∀ z, D.atKey (kl p) z = .lit (.int .i64 (i : Int))
  le : Maps.size D ≤ ps.length
  all : Maps.size D = ps.length ↔ ps.Nodup

theorem Idx.nil : Idx (.map []) [] := ⟨tidy_empty, fun p _ => by simp [Maps.has], fun i p _ h => by simp at h, by simp [Maps.size], by simp [Maps.size]⟩

theorem Idx.keep {D : DataW Unit} {ps : List Pr} (h : Idx D ps) {p : Pr} (hp : p ∈ ps) : Idx D (ps ++ [p]) := by
  refine ⟨h.tidy, fun q hq => ?_, fun i q hq hi hf z => ?_, ?_, ?_⟩
  · rw [h.mem q hq]
    simp
    intro e
    rw [e]
    exact hp
  · by_cases hlt : i < ps.length
    · rw [List.getElem?_append_left hlt] at hi
      exact h.at_ i q hq hi (fun j hj => by have := hf j hj; rwa [List.getElem?_append_left (by omega)] at this) z
    · have hil : i < (ps ++ [p]).length := (List.getElem?_eq_some_iff.1 hi).1
      simp at hil
      have : i = ps.length := by omega
      subst this
      simp at hi
      subst hi
      obtain ⟨j, hj, e⟩ := List.getElem_of_mem hp
      exact absurd (by rw [List.getElem?_append_left hj, List.getElem?_eq_getElem hj, e]) (hf j hj)
  · simp
    exact Nat.le_succ_of_le h.le
  · have h1 := h.le
    constructor
    · intro e
      simp at e
      omega
    · intro hn
      have := (List.nodup_append.1 hn).2.2 p hp p (by simp)
      exact absurd rfl this

theorem Idx.put {D : DataW Unit} {ps : List Pr} (h : Idx D ps) {p : Pr} (hk : PrOk p) (hp : p ∉ ps) : Idx (D.put (kl p) (.lit (.int .i64 (ps.length : Int)))) (ps ++ [p]) := by
  have hno : Maps.has D (kl p) = false := by
    cases e : Maps.has D (kl p)
    · rfl
    · exact absurd ((h.mem p hk).1 e) hp
  have hm := h.tidy.isMap
  have hs : Maps.size (D.put (kl p) (.lit (.int .i64 (ps.length : Int)))) = Maps.size D + 1 := by
    rw [size_put h.tidy, hno]
    simp
  refine ⟨h.tidy.put (kl_key hk) _, fun q hq => ?_, fun i q hq hi hf z => ?_, ?_, ?_⟩
  · by_cases e : q = p
    · subst e
      simp [has_put_same hm (kl_key hk)]
    · have hne : kl q ≠ kl p := fun e' => e (kl_inj hq hk e')
      rw [has_put_other hne, h.mem q hq]
      simp [e]
  · by_cases hlt : i < ps.length
    · rw [List.getElem?_append_left hlt] at hi
      have hq' : q ∈ ps := List.mem_of_getElem? hi
      have e : q ≠ p := fun e => hp (by rw [← e]; exact hq')
      have hne : kl q ≠ kl p := fun e' => e (kl_inj hq hk e')
      rw [atKey_put_other hne]
      exact h.at_ i q hq hi (fun j hj => by have := hf j hj; rwa [List.getElem?_append_left (by omega)] at this) z
    · have hil : i < (ps ++ [p]).length := (List.getElem?_eq_some_iff.1 hi).1
      simp at hil
      have : i = ps.length := by omega
      subst this
      simp at hi
      subst hi
      exact atKey_put_same hm (kl_key hk) _ _
  · rw [hs]
    have := h.le
    simp
    omega
  · rw [hs]
    have h1 := h.le
    constructor
    · intro e
      simp at e
      refine List.nodup_append.2 ⟨h.all.1 e, by simp, fun a ha b hb => ?_⟩
      simp at hb
      subst hb
      rintro rfl
      exact hp ha
    · intro hn
      have := h.all.2 (List.nodup_append.1 hn).1
      simp
      omega
end Go.Proofs.Ytbdhkagcbncefaa
