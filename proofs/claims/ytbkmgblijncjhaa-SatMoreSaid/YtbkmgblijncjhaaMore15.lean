/- Layer 15: copies of clauses and of literals with one more, made in any order. -/
import Derived.Test.YtbkmgblijncjhaaG8
import Derived.Test.YtbkmgblijncjhaaG6
import Derived.Test.YtbkmgblijncjhaaG1
set_option linter.unusedVariables false
set_option linter.unusedSimpArgs false
namespace Go.Proofs.Ytbkmgblijncjhaa
open Go.RowKit Go.Maps

theorem Cls.slots {w : World} {B : Nat} {A : Option Addr} {cs : List (List Int)} (h : Cls w B A cs) : ∃ vs : List Value, vs.length = cs.length ∧ Vals w B A vs ∧ (∀ u ∈ vs, u.oneCell' = true) ∧ ∀ (i : Nat) x, cs[i]? = some x → ∃ D d, vs[i]? = some (.slice D x.length d) ∧ x.length ≤ d ∧ Vals w B D (i64s x) := by
  obtain ⟨vs, hl, hq⟩ := list_of (Q := fun i (u : Value) => ∃ x b o D d, cs[i]? = some x ∧ A = some ⟨b, o, none⟩ ∧ b < B ∧ w.cell? ⟨b, o + i, none⟩ = some u ∧ u = .slice D x.length d ∧ x.length ≤ d ∧ Vals w B D (i64s x)) cs.length fun i hi => by
    obtain ⟨b, o, D, d, e, hb, hc, hd, hv⟩ := h i _ (List.getElem?_eq_getElem hi)
    exact ⟨_, _, b, o, D, d, List.getElem?_eq_getElem hi, e, hb, hc, rfl, hd, hv⟩
  refine ⟨vs, hl, fun i u hu => ?_, fun u hu => ?_, fun i x hx => ?_⟩
  · obtain ⟨x, b, o, D, d, _, e, hb, hc, _⟩ := hq i u hu
    exact ⟨b, o, e, hb, hc⟩
  · obtain ⟨i, hi⟩ := List.getElem?_of_mem hu
    obtain ⟨x, b, o, D, d, _, _, _, _, rfl, _⟩ := hq i u hi
    rfl
  · have hi : i < vs.length := by rw [hl]; exact (List.getElem?_eq_some_iff.1 hx).1
    obtain ⟨x', b, o, D, d, hx', _, _, _, hu, hd, hv⟩ := hq i _ (List.getElem?_eq_getElem hi)
    rw [hx] at hx'
    cases hx'
    exact ⟨D, d, by rw [List.getElem?_eq_getElem hi, hu], hd, hv⟩
theorem cls_of_vals {w : World} {B : Nat} {A : Option Addr} {cs : List (List Int)} {vs : List Value} (h : Vals w B A vs) (hi : ∀ (i : Nat) x, cs[i]? = some x → ∃ D d, vs[i]? = some (.slice D x.length d) ∧ x.length ≤ d ∧ Vals w B D (i64s x)) : Cls w B A cs := fun i x hx => by
  obtain ⟨D, d, hu, hd, hv⟩ := hi i x hx
  obtain ⟨b, o, e, hb, hc⟩ := h i _ hu
  exact ⟨b, o, D, d, e, hb, hc, hd, hv⟩

/-- append to a row of the call's own, as a step of a region. -/
theorem step_append_vals {ops : Array Oper} {o : Oper} {a : Act} {w : World} {K : Act → World → Prop} {Q : Exit → Act → World → Prop} {E : Prop} (hgd : o.guard = none) (s x : Operand) (t : TypeId)
    (ho : o.op = .call { callee := .builtin .append, args := #[s, x], argTypes := #[t, t] })
    (base : Nat) (e : TypeId) (i : TypeInfo) (z : Value) (size bytes : Nat) (ht : Try.prog.underlying t = some (.slice e)) (hi : Try.prog.info? e = some i) (hz : i.zero = some z)
    (hsize : i.size = size) (hby : i.bytes = bytes) (hzs : z.cells.size = size) (hsz : 0 < size)
    (v : Value) (n : Nat) (xs : List Value) (hs : a.eval s = v) (hown : w.ownsRow base e size v n xs)
    (B : Nat) (A : Option Addr) (m c : Nat) (news : List Value) (hx : a.eval x = .slice A m c) (hl : news.length = m * size) (hnews : Vals w B A news) (h1 : ∀ u ∈ news, u.oneCell' = true)
    (h63 : n + m ≤ maxLen) (hbytes : (n + m) * bytes ≤ 140737488355328) (hbase : base ≤ w.heap.size)
    (h : ∀ A' c' w', w'.ownsRow base e size (.slice A' (n + m) c') (n + m) (xs ++ news) → w.grownBy w' v.ownBlock → K (a.put o.dst (.slice A' (n + m) c')) w') :
    if Region.wanted o (yielded ops a.tmps) = true then Oper.wp Try.prog o a w K Q else E := by
  have hw : Region.wanted o (yielded ops a.tmps) = true := by simp [Region.wanted, hgd]
  rw [if_pos hw]
  have hrun : ∃ v' w', (Builtin.append_ #[t, t] o.type #[v, .slice A m c]).run Try.prog w = .ok v' w' ∧ w'.ownsRow base e size v' (n + m) (xs ++ news) ∧ w.grownBy w' v.ownBlock := by
    cases A with
    | none =>
      have hn := hnews.none_ rfl
      subst hn
      have hm : m = 0 := by
        have h0 : 0 = m * size := by simpa using hl
        rcases Nat.eq_zero_or_pos m with hz | hz
        · exact hz
        · have := Nat.mul_pos hz hsz
          omega
      subst hm
      exact ⟨v, w, run_append_nil_src (P := Try.prog) w base t o.type e i size ht hi v n xs hown c, by simpa using hown, World.grownBy.refl w _⟩
    | some ad =>
      obtain ⟨v', w', hr, h2, h3, _, _⟩ := run_append_own_at (P := Try.prog) w base t o.type e i z size bytes ht hi hz hsize hby hzs hsz v n xs hown ad m c news hl (hnews.cells ad rfl) h1 h63 hbytes hbase
      exact ⟨v', w', hr, h2, h3⟩
  obtain ⟨v', w', hr, h2, h3⟩ := hrun
  obtain ⟨A', c', rfl, _⟩ := own_form h2
  unfold Oper.wp execOp
  simp only [ho, resolve, invoke, builtin, Sem.run_bind, Sem.run_pure, Result.andThen_ok, List.map_toArray, List.map_cons, List.map_nil, hs, hx, hr]
  exact h A' c' w' h2 h3

def setF (f : Nat → Bool) (i : Nat) : Nat → Bool := fun j => f j || j == i
def setV (v : Nat → Value) (i : Nat) (x : Value) : Nat → Value := fun j => if j = i then x else v j
/-- How far the clauses with one more are made. -/
structure M1 (w0 W : World) (V : Int) (k : Nat) (vs : List Value) (y : Int) (f : Nat → Bool) (v : Nat → Value) : Prop where
  low : Below w0.heap.size w0 W
  c13 : f 13 = true → f 4 = true ∧ f 12 = true
  c12 : f 12 = true → f 11 = true
  a4 : f 4 = true → f 13 = false → ∃ A c, v 4 = .slice A k c ∧ W.ownsRow w0.heap.size 25 1 (v 4) k vs
  a11 : f 11 = true → ∃ g, v 11 = .slice (some ⟨g, 0, none⟩) 1 1 ∧ w0.heap.size ≤ g ∧ Blk W g 3 #[.int .i64 y]
  a12 : f 12 = true → f 13 = false → ∃ g, v 12 = .slice (some ⟨g, 0, none⟩) 1 1 ∧ Blk W g 25 #[v 11]
  a13 : f 13 = true → ∃ A c, v 13 = .slice A (k + 1) c ∧ W.ownsRow w0.heap.size 25 1 (v 13) (k + 1) (vs ++ [v 11])
  a15 : f 15 = true → ∃ p, v 15 = .pointer (some ⟨p, 0, none⟩) ∧ w0.heap.size ≤ p ∧ Blk W p 24 #[.int .i64 0, .slice none 0 0]
  c14 : f 14 = true → f 13 = true
  a14 : f 14 = true → v 14 = .agg #[.int .i64 V, v 13]
section
variable {w0 W W' : World} {V : Int} {k : Nat} {vs : List Value} {y : Int} {f : Nat → Bool} {v : Nat → Value}
theorem M1.start (w0 : World) : M1 w0 w0 V k vs y (fun _ => false) (fun _ => undef) := ⟨Below.refl _ _, (fun h => by cases h), (fun h => by cases h), (fun h => by cases h), (fun h => by cases h), (fun h => by cases h), (fun h => by cases h), (fun h => by cases h), (fun h => by cases h), (fun h => by cases h)⟩
theorem M1.step (h : M1 w0 W V k vs y f v) (hb : Below W.heap.size W W') : M1 w0 W' V k vs y f v := by
  refine ⟨below2 h.low h.low.size hb, h.c13, h.c12, fun e e' => ?_, fun e => ?_, fun e e' => ?_, fun e => ?_, fun e => ?_, h.c14, h.a14⟩
  · obtain ⟨A, c, h1, h2⟩ := h.a4 e e'
    exact ⟨A, c, h1, own_below h2 hb⟩
  · obtain ⟨g, h1, h2, h3⟩ := h.a11 e
    exact ⟨g, h1, h2, h3.below hb h3.lt⟩
  · obtain ⟨g, h1, h3⟩ := h.a12 e e'
    exact ⟨g, h1, h3.below hb h3.lt⟩
  · obtain ⟨A, c, h1, h2⟩ := h.a13 e
    exact ⟨A, c, h1, own_below h2 hb⟩
  · obtain ⟨g, h1, h2, h3⟩ := h.a15 e
    exact ⟨g, h1, h2, h3.below hb h3.lt⟩
theorem setV_at {i : Nat} {x : Value} : setV v i x i = x := if_pos rfl
theorem setV_ne {i j : Nat} {x : Value} (h : j ≠ i) : setV v i x j = v j := if_neg h
theorem setF_at {i : Nat} : setF f i i = true := by simp [setF]
theorem setF_ne {i j : Nat} (h : j ≠ i) : setF f i j = f j := by simp [setF, h]
theorem M1.put4 (h : M1 w0 W V k vs y f v) (h4 : f 4 = false) {A : Option Addr} {c : Nat} (ho : W.ownsRow w0.heap.size 25 1 (.slice A k c) k vs) : M1 w0 W V k vs y (setF f 4) (setV v 4 (.slice A k c)) := by
  have h13 : f 13 = false := by
    cases e : f 13 with
    | false => rfl
    | true => rw [(h.c13 e).1] at h4; cases h4
  refine ⟨h.low, fun e => ?_, fun e => ?_, fun _ _ => ⟨A, c, setV_at, by rw [setV_at]; exact ho⟩, fun e => ?_, fun e e' => ?_, fun e => ?_, fun e => ?_, (fun e => by rw [setF_ne (by decide)] at e; rw [h.c14 e] at h13; cases h13), (fun e => by rw [setF_ne (by decide)] at e; rw [h.c14 e] at h13; cases h13)⟩
  · rw [setF_ne (by decide)] at e
    rw [h13] at e; cases e
  · rw [setF_ne (by decide)] at e ⊢
    exact h.c12 e
  · rw [setF_ne (by decide)] at e
    rw [setV_ne (by decide)]
    exact h.a11 e
  · rw [setF_ne (by decide)] at e e'
    rw [setV_ne (by decide), setV_ne (by decide)]
    exact h.a12 e e'
  · rw [setF_ne (by decide)] at e
    rw [h13] at e; cases e
  · rw [setF_ne (by decide)] at e
    rw [setV_ne (by decide)]
    exact h.a15 e
theorem M1.put11 (h : M1 w0 W V k vs y f v) (h11 : f 11 = false) {g : Nat} (hg : w0.heap.size ≤ g) (hb : Blk W g 3 #[.int .i64 y]) : M1 w0 W V k vs y (setF f 11) (setV v 11 (.slice (some ⟨g, 0, none⟩) 1 1)) := by
  have h12 : f 12 = false := by
    cases e : f 12 with
    | false => rfl
    | true => rw [h.c12 e] at h11; cases h11
  have h13 : f 13 = false := by
    cases e : f 13 with
    | false => rfl
    | true => rw [(h.c13 e).2] at h12; cases h12
  refine ⟨h.low, fun e => ?_, fun e => setF_at, fun e e' => ?_, fun _ => ⟨g, setV_at, hg, hb⟩, fun e e' => ?_, fun e => ?_, fun e => ?_, (fun e => by rw [setF_ne (by decide)] at e; rw [h.c14 e] at h13; cases h13), (fun e => by rw [setF_ne (by decide)] at e; rw [h.c14 e] at h13; cases h13)⟩
  · rw [setF_ne (by decide)] at e
    rw [h13] at e; cases e
  · rw [setF_ne (by decide)] at e e'
    rw [setV_ne (by decide)]
    exact h.a4 e e'
  · rw [setF_ne (by decide)] at e
    rw [h12] at e; cases e
  · rw [setF_ne (by decide)] at e
    rw [h13] at e; cases e
  · rw [setF_ne (by decide)] at e
    rw [setV_ne (by decide)]
    exact h.a15 e
theorem M1.put12 (h : M1 w0 W V k vs y f v) (h11 : f 11 = true) (h12 : f 12 = false) {g : Nat} (hb : Blk W g 25 #[v 11]) : M1 w0 W V k vs y (setF f 12) (setV v 12 (.slice (some ⟨g, 0, none⟩) 1 1)) := by
  have h13 : f 13 = false := by
    cases e : f 13 with
    | false => rfl
    | true => rw [(h.c13 e).2] at h12; cases h12
  refine ⟨h.low, fun e => ?_, fun e => ?_, fun e e' => ?_, fun e => ?_, fun e e' => ⟨g, setV_at, by rw [setV_ne (by decide)]; exact hb⟩, fun e => ?_, fun e => ?_, (fun e => by rw [setF_ne (by decide)] at e; rw [h.c14 e] at h13; cases h13), (fun e => by rw [setF_ne (by decide)] at e; rw [h.c14 e] at h13; cases h13)⟩
  · rw [setF_ne (by decide)] at e
    rw [h13] at e; cases e
  · rw [setF_ne (by decide)]
    exact h11
  · rw [setF_ne (by decide)] at e e'
    rw [setV_ne (by decide)]
    exact h.a4 e e'
  · rw [setF_ne (by decide)] at e
    rw [setV_ne (by decide)]
    exact h.a11 e
  · rw [setF_ne (by decide)] at e
    rw [h13] at e; cases e
  · rw [setF_ne (by decide)] at e
    rw [setV_ne (by decide)]
    exact h.a15 e
theorem M1.put13 (h : M1 w0 W V k vs y f v) (h4 : f 4 = true) (h12 : f 12 = true) (h13 : f 13 = false) {A : Option Addr} {c : Nat} (hg : W.grownBy W' (v 4).ownBlock) (ho : W'.ownsRow w0.heap.size 25 1 (.slice A (k + 1) c) (k + 1) (vs ++ [v 11])) : M1 w0 W' V k vs y (setF f 13) (setV v 13 (.slice A (k + 1) c)) := by
  obtain ⟨A4, c4, e4, h5⟩ := h.a4 h4 h13
  refine ⟨h.low.grown hg h.low.size (own_block h5), fun e => ⟨by rw [setF_ne (by decide)]; exact h4, by rw [setF_ne (by decide)]; exact h12⟩, fun e => ?_, fun e e' => ?_, fun e => ?_, fun e e' => ?_, fun e => ⟨A, c, setV_at, by rw [setV_at, setV_ne (by decide)]; exact ho⟩, fun e => ?_, (fun e => setF_at), (fun e => by rw [setF_ne (by decide)] at e; rw [h.c14 e] at h13; cases h13)⟩
  · rw [setF_ne (by decide)] at e ⊢
    exact h.c12 e
  · rw [setF_at] at e'
    cases e'
  · rw [setF_ne (by decide)] at e
    rw [setV_ne (by decide)]
    obtain ⟨g, h1, h2, h3⟩ := h.a11 e
    exact ⟨g, h1, h2, h3.by_ hg (own_ne h5 h3 (by decide))⟩
  · rw [setF_at] at e'
    cases e'
  · rw [setF_ne (by decide)] at e
    rw [setV_ne (by decide)]
    obtain ⟨g, h1, h2, h3⟩ := h.a15 e
    exact ⟨g, h1, h2, h3.by_ hg (own_ne h5 h3 (by decide))⟩
theorem M1.put15 (h : M1 w0 W V k vs y f v) {p : Nat} (hp : w0.heap.size ≤ p) (hb : Blk W p 24 #[.int .i64 0, .slice none 0 0]) : M1 w0 W V k vs y (setF f 15) (setV v 15 (.pointer (some ⟨p, 0, none⟩))) := by
  refine ⟨h.low, fun e => ?_, fun e => ?_, fun e e' => ?_, fun e => ?_, fun e e' => ?_, fun e => ?_, fun e => ⟨p, setV_at, hp, hb⟩, (fun e => by rw [setF_ne (by decide)] at e ⊢; exact h.c14 e), (fun e => by rw [setF_ne (by decide)] at e; rw [setV_ne (by decide), setV_ne (by decide)]; exact h.a14 e)⟩
  · rw [setF_ne (by decide)] at e
    rw [setF_ne (by decide), setF_ne (by decide)]
    exact h.c13 e
  · rw [setF_ne (by decide)] at e ⊢
    exact h.c12 e
  · rw [setF_ne (by decide)] at e e'
    rw [setV_ne (by decide)]
    exact h.a4 e e'
  · rw [setF_ne (by decide)] at e
    rw [setV_ne (by decide)]
    exact h.a11 e
  · rw [setF_ne (by decide)] at e e'
    rw [setV_ne (by decide), setV_ne (by decide)]
    exact h.a12 e e'
  · rw [setF_ne (by decide)] at e
    rw [setV_ne (by decide), setV_ne (by decide)]
    exact h.a13 e
theorem M1.put14 (h : M1 w0 W V k vs y f v) (h13 : f 13 = true) : M1 w0 W V k vs y (setF f 14) (setV v 14 (.agg #[.int .i64 V, v 13])) := by
  refine ⟨h.low, fun e => ?_, fun e => ?_, fun e e' => ?_, fun e => ?_, fun e e' => ?_, fun e => ?_, fun e => ?_, fun e => by rw [setF_ne (by decide)]; exact h13, fun e => by rw [setV_at, setV_ne (by decide)]⟩
  · rw [setF_ne (by decide)] at e
    rw [setF_ne (by decide), setF_ne (by decide)]
    exact h.c13 e
  · rw [setF_ne (by decide)] at e ⊢
    exact h.c12 e
  · rw [setF_ne (by decide)] at e'
    rw [h13] at e'; cases e'
  · rw [setF_ne (by decide)] at e
    rw [setV_ne (by decide)]
    exact h.a11 e
  · rw [setF_ne (by decide)] at e'
    rw [h13] at e'; cases e'
  · rw [setF_ne (by decide)] at e
    rw [setV_ne (by decide), setV_ne (by decide)]
    exact h.a13 e
  · rw [setF_ne (by decide)] at e
    rw [setV_ne (by decide)]
    exact h.a15 e
end
/-- How far the literals with one more are made. -/
structure M2 (w0 W : World) (l : List Int) (y : Int) (f : Nat → Bool) (v : Nat → Value) : Prop where
  low : Below w0.heap.size w0 W
  a2 : f 2 = true → ∃ A c, v 2 = .slice A l.length c ∧ W.ownsRow w0.heap.size 3 1 (v 2) l.length (i64s l)
  a9 : f 9 = true → ∃ g, v 9 = .slice (some ⟨g, 0, none⟩) 1 1 ∧ Blk W g 3 #[.int .i64 y]
section
variable {w0 W W' : World} {l : List Int} {y : Int} {f : Nat → Bool} {v : Nat → Value}
theorem M2.start (w0 : World) : M2 w0 w0 l y (fun _ => false) (fun _ => undef) := ⟨Below.refl _ _, (fun h => by cases h), (fun h => by cases h)⟩
theorem M2.step (h : M2 w0 W l y f v) (hb : Below W.heap.size W W') : M2 w0 W' l y f v := by
  refine ⟨below2 h.low h.low.size hb, fun e => ?_, fun e => ?_⟩
  · obtain ⟨A, c, h1, h2⟩ := h.a2 e
    exact ⟨A, c, h1, own_below h2 hb⟩
  · obtain ⟨g, h1, h3⟩ := h.a9 e
    exact ⟨g, h1, h3.below hb h3.lt⟩
theorem M2.put2 (h : M2 w0 W l y f v) {A : Option Addr} {c : Nat} (ho : W.ownsRow w0.heap.size 3 1 (.slice A l.length c) l.length (i64s l)) : M2 w0 W l y (setF f 2) (setV v 2 (.slice A l.length c)) := by
  refine ⟨h.low, fun _ => ⟨A, c, setV_at, by rw [setV_at]; exact ho⟩, fun e => ?_⟩
  rw [setF_ne (by decide)] at e
  rw [setV_ne (by decide)]
  exact h.a9 e
theorem M2.put9 (h : M2 w0 W l y f v) {g : Nat} (hb : Blk W g 3 #[.int .i64 y]) : M2 w0 W l y (setF f 9) (setV v 9 (.slice (some ⟨g, 0, none⟩) 1 1)) := by
  refine ⟨h.low, fun e => ?_, fun _ => ⟨g, setV_at, hb⟩⟩
  rw [setF_ne (by decide)] at e
  rw [setV_ne (by decide)]
  exact h.a2 e
end
end Go.Proofs.Ytbkmgblijncjhaa
