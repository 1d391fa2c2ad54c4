/- A law's clauses opened: slices of slices of numbers. -/
import Derived.Test.YtbdhkagcbncefaaOpen2
import Derived.Test.YtbdhkagcbncefaaG4
namespace Go.Proofs.Ytbdhkagcbncefaa
open Go.ChangeShapes Go.WideShapes Go.ChangeAt Go.RowKit Go.Joins Go.Deep
section
variable {H : Type} {enc : TypeId × Value → H} {W : World} {v : Value} {d : DataW H} {p : List MemPlace} {base : Nat}

theorem mem_weightsAll {P : Program} {e : TypeId} {n : Nat} {d : DataW H} : ∀ {ds : List (DataW H)}, d ∈ ds → n ∈ d.weights P e → n ∈ DataW.weightsAll P e ds
  | [], h, _ => by cases h
  | x :: r, h, hn => by
    rw [DataW.weightsAll]
    rcases List.mem_cons.1 h with rfl | h
    · exact List.mem_append_left _ hn
    · exact List.mem_append_right _ (mem_weightsAll h hn)

set_option maxRecDepth 100000 in
/-- A slice whose elements are one cell each, behind a cell. -/
theorem open_ones_cell {α : Type} {t e : TypeId} (mk : α → Value) (Q : α → Prop) (ht : Try.prog.underlying t = some (.slice e)) (hc : Try.prog.cellsOf e = 1)
    (hel : ∀ (n : Nat) (u : Value) (y : DataW H × List MemPlace), DataW.trod enc Try.prog W 0 (fun _ => true) true n e [u] = some y → ∃ x, u = mk x ∧ Q x)
    {n0 : Nat} {u : Value} {y : DataW H × List MemPlace} (h1 : DataW.trod enc Try.prog W 0 (fun _ => true) true n0 t [u] = some y) (hz : ∀ n ∈ y.1.weights Try.prog t, n ≤ reachBytes) :
    ∃ (xs : List α) (A : Option Addr) (c : Nat), u = .slice A xs.length c ∧ (∀ x ∈ xs, Q x) ∧ xs.length ≤ c ∧ c * Try.prog.bytesOf e ≤ reachBytes ∧ Vals W W.heap.size A (xs.map mk) := by
  rcases Go.Deep.open_slice1 ht hc h1 with ⟨hs, _⟩ | ⟨a, len, cap, m, n', V, D, Pl, hs, _, hl, _, hm, hx, hi⟩
  · simp at hs
    subst hs
    exact ⟨[], none, 0, rfl, fun q hq => by simp at hq, Nat.le_refl _, by simp, Vals.nil⟩
  · simp at hs
    subst hs
    have hm' : m = cap := by simpa using hm
    subst hm'
    have hsz : m * Try.prog.bytesOf e ≤ reachBytes := by
      refine hz _ ?_
      rw [hx]
      simp [DataW.weights, ht]
      refine .inl ?_
      rw [show len + (m - len) = m by omega]
    obtain ⟨l, hll, hlq⟩ := list_of (Q := fun i (x : α) => Q x ∧ W.cell? (a.add i) = some (mk x)) len fun i hil => by
      obtain ⟨hcell, ht'⟩ := hi i (by omega)
      obtain ⟨x, hx1, hx2⟩ := hel _ _ _ ht'
      exact ⟨x, hx2, by rw [hcell, hx1]⟩
    refine ⟨l, some a, m, by rw [hll], fun q hq => ?_, by omega, hsz, fun i u hu => ?_⟩
    · obtain ⟨i, hi'⟩ := List.getElem?_of_mem hq
      exact (hlq i q hi').1
    · rw [List.getElem?_map] at hu
      cases hq : l[i]? with
      | none => rw [hq] at hu; cases hu
      | some q =>
        rw [hq] at hu
        simp at hu
        subst hu
        have q1 := (hlq i q hq).2
        have hil : i < l.length := (List.getElem?_eq_some_iff.1 hq).1
        have ha := spot_none (hlq 0 _ (List.getElem?_eq_getElem (by omega))).2
        rw [ha, Addr.add_lit] at q1
        exact ⟨a.block, a.off, by rw [← ha], block_lt_of_cell (a := ⟨a.block, a.off + i, none⟩) q1, q1⟩

set_option maxRecDepth 100000 in
theorem open_u8s (hv : Value.okWide Try.prog W .any base 70 v) (h : DataW.Trod enc Try.prog W 0 (fun _ => true) true 70 v d p) (hz : ∀ n ∈ d.weights Try.prog 70, n ≤ reachBytes) :
    ∃ (xs : List Int) (A : Option Addr) (c : Nat), v = .slice A xs.length c ∧ (∀ x ∈ xs, 0 ≤ x ∧ x ≤ 255) ∧ xs.length ≤ c ∧ c ≤ 140737488355328 ∧ Vals W W.heap.size A (xs.map (.int .u8 ·)) := by
  obtain ⟨xs, A, c, h1, h2, h3, h4, h5⟩ := open_ones (.int .u8 ·) (fun x => 0 ≤ x ∧ x ≤ 255) Try.underlying70 (by kernel_rfl) (fun n u y hy => by
    obtain ⟨k, hk, _, wk⟩ := DataW.trod_int Try.underlying5 hy
    simp at hk
    exact ⟨k, hk, bounds_u8 wk⟩) hv h hz
  have hbt : Try.prog.bytesOf 5 = 1 := by kernel_rfl
  rw [hbt] at h4
  exact ⟨xs, A, c, h1, h2, h3, by unfold reachBytes at h4; omega, h5⟩

set_option maxRecDepth 100000 in
theorem open_cnf (hv : Value.okWide Try.prog W .any base 57 v) (h : DataW.Trod enc Try.prog W 0 (fun _ => true) true 57 v d p) (hz : ∀ n ∈ d.weights Try.prog 57, n ≤ reachBytes) :
    ∃ (V : Int) (cs : List (List Int)) (A : Option Addr) (c : Nat), v = .agg #[.int .i64 V, .slice A cs.length c] ∧ (∀ x ∈ cs, x.length ≤ 140737488355328) ∧ cs.length ≤ 140737488355328 ∧ Cls W W.heap.size A cs := by
  obtain ⟨v0, v1, y0, y1, n, rfl, rfl, rfl, h0, h1⟩ := open_agg2 Try.underlying57 (by kernel_rfl) (by kernel_rfl) hv h
  obtain ⟨k, hk, _, wk⟩ := DataW.trod_int Try.underlying3 h0
  injection hk with hk
  subst hk
  have hbt : Try.prog.bytesOf 26 = 24 := by kernel_rfl
  have hbi : Try.prog.bytesOf 3 = 8 := by kernel_rfl
  rcases Go.Deep.open_slice1 Try.underlying55 (by kernel_rfl) h1 with ⟨hs, _⟩ | ⟨a, len, cap, m, n', V, D, Pl, hs, _, hl, _, hm, hx, hi⟩
  · injection hs with hs
    subst hs
    exact ⟨k, [], none, 0, rfl, fun x hx => by simp at hx, Nat.zero_le _, Cls.nil⟩
  · injection hs with hs
    subst hs
    have hm' : m = cap := by simpa using hm
    subst hm'
    have hzi : ∀ i, i < len → ∀ n ∈ (D i).weights Try.prog 26, n ≤ reachBytes := fun i hil n hn => by
      refine hz n ?_
      have : n ∈ DataW.weightsAll Try.prog 26 ((List.range len).map D) := mem_weightsAll (List.mem_map.2 ⟨i, List.mem_range.2 hil, rfl⟩) hn
      simp [DataW.weights, Try.underlying57, Try.underlying55, DataW.weightsEach, hx]
      exact .inr (.inr (.inl this))
    have hsz : m * 24 ≤ reachBytes := by
      refine hz _ ?_
      simp [DataW.weights, Try.underlying57, Try.underlying55, DataW.weightsEach, hx, hbt]
      refine .inr (.inl ?_)
      omega
    obtain ⟨l, hll, hlq⟩ := list_of (Q := fun i (x : List Int) => x.length ≤ 140737488355328 ∧ ∃ A' c', x.length ≤ c' ∧ W.cell? (a.add i) = some (.slice A' x.length c') ∧ Vals W W.heap.size A' (x.map (.int .i64 ·))) len fun i hil => by
      obtain ⟨hcell, ht'⟩ := hi i (by omega)
      obtain ⟨xs, A', c', e1, _, e3, e4, e5⟩ := open_ones_cell (.int .i64 ·) (fun _ => True) Try.underlying26 (by kernel_rfl) (fun n u y hy => by
        obtain ⟨k, hk, _, wk⟩ := DataW.trod_int Try.underlying3 hy
        simp at hk
        exact ⟨k, hk, trivial⟩) ht' (hzi i hil)
      rw [hbi] at e4
      refine ⟨xs, by unfold reachBytes at e4; omega, A', c', e3, by rw [hcell, e1], e5⟩
    refine ⟨k, l, some a, m, by rw [hll], fun x hx => ?_, by unfold reachBytes at hsz; omega, fun i x hx => ?_⟩
    · obtain ⟨i, hi'⟩ := List.getElem?_of_mem hx
      exact (hlq i x hi').1
    · obtain ⟨_, A', c', q0, q1, q2⟩ := hlq i x hx
      have hil : i < l.length := (List.getElem?_eq_some_iff.1 hx).1
      obtain ⟨_, _, _, _, q3, _⟩ := hlq 0 _ (List.getElem?_eq_getElem (by omega))
      have ha := spot_none q3
      rw [ha, Addr.add_lit] at q1
      exact ⟨a.block, a.off, A', c', by rw [← ha], block_lt_of_cell (a := ⟨a.block, a.off + i, none⟩) q1, q1, q0, q2⟩
end
end Go.Proofs.Ytbdhkagcbncefaa
