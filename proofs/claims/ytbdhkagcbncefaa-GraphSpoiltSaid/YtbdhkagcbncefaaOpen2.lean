/- A law's slices opened: numbers and truth values. -/
import Derived.Test.YtbdhkagcbncefaaOpen
namespace Go.Proofs.Ytbdhkagcbncefaa
open Go.ChangeShapes Go.WideShapes Go.ChangeAt Go.RowKit Go.Joins Go.Deep
section
variable {H : Type} {enc : TypeId × Value → H} {W : World} {v : Value} {d : DataW H} {p : List MemPlace} {base : Nat}

set_option maxRecDepth 100000 in
/-- A slice whose elements are one cell each. -/
theorem open_ones {α : Type} {t e : TypeId} (mk : α → Value) (Q : α → Prop) (ht : Try.prog.underlying t = some (.slice e)) (hc : Try.prog.cellsOf e = 1)
    (hel : ∀ (n : Nat) (u : Value) (y : DataW H × List MemPlace), DataW.trod enc Try.prog W 0 (fun _ => true) true n e [u] = some y → ∃ x, u = mk x ∧ Q x)
    (hv : Value.okWide Try.prog W .any base t v) (h : DataW.Trod enc Try.prog W 0 (fun _ => true) true t v d p) (hz : ∀ n ∈ d.weights Try.prog t, n ≤ reachBytes) :
    ∃ (xs : List α) (A : Option Addr) (c : Nat), v = .slice A xs.length c ∧ (∀ x ∈ xs, Q x) ∧ xs.length ≤ c ∧ c * Try.prog.bytesOf e ≤ reachBytes ∧ Vals W W.heap.size A (xs.map mk) := by
  obtain ⟨a0, l0, c0, rfl⟩ := okWide_slice ht hv
  obtain ⟨n0, h1⟩ := h
  rcases Go.Deep.open_slice1 ht hc h1 with ⟨hs, _⟩ | ⟨a, len, cap, m, n', V, D, Pl, hs, _, hl, _, hm, hx, hi⟩
  · simp [Value.cells] at hs
    obtain ⟨rfl, rfl, rfl⟩ := hs
    exact ⟨[], none, 0, rfl, fun q hq => by simp at hq, Nat.le_refl _, by simp, Vals.nil⟩
  · simp [Value.cells] at hs
    obtain ⟨rfl, rfl, rfl⟩ := hs
    have hm' : m = c0 := by simpa using hm
    subst hm'
    have hsz : m * Try.prog.bytesOf e ≤ reachBytes := by
      refine hz _ ?_
      have hd : d = .slice ((List.range l0).map D) ((List.range (m - l0)).map fun j => D (l0 + j)) := by
        have := congrArg (·.1) hx
        simpa using this
      rw [hd]
      simp [DataW.weights, ht]
      refine .inl ?_
      rw [show l0 + (m - l0) = m by omega]
    obtain ⟨l, hll, hlq⟩ := list_of (Q := fun i (x : α) => Q x ∧ W.cell? (a.add i) = some (mk x)) l0 fun i hil => by
      obtain ⟨hcell, ht'⟩ := hi i (by omega)
      obtain ⟨x, hx1, hx2⟩ := hel _ _ _ ht'
      exact ⟨x, hx2, by rw [hcell, hx1]⟩
    refine ⟨l, some a, m, by rw [hll], fun q hq => ?_, by omega, hsz, fun i u hu => ?_⟩
    · obtain ⟨i, hi'⟩ := List.getElem?_of_mem hq
      exact (hlq i q hi').1
    · rw [List.getElem?_map] at hu
      cases hq : l[i]? with
      | none => rw [hq] at hu; cases hu
      | some q =>
        rw [hq] at hu
        simp at hu
        subst hu
        have q1 := (hlq i q hq).2
        have hil : i < l.length := (List.getElem?_eq_some_iff.1 hq).1
        have ha := spot_none (hlq 0 _ (List.getElem?_eq_getElem (by omega))).2
        rw [ha, Addr.add_lit] at q1
        exact ⟨a.block, a.off, by rw [← ha], block_lt_of_cell (a := ⟨a.block, a.off + i, none⟩) q1, q1⟩

set_option maxRecDepth 100000 in
theorem open_u16s (hv : Value.okWide Try.prog W .any base 33 v) (h : DataW.Trod enc Try.prog W 0 (fun _ => true) true 33 v d p) (hz : ∀ n ∈ d.weights Try.prog 33, n ≤ reachBytes) :
    ∃ (xs : List Int) (A : Option Addr) (c : Nat), v = .slice A xs.length c ∧ (∀ x ∈ xs, 0 ≤ x ∧ x ≤ 65535) ∧ xs.length ≤ c ∧ c ≤ 70368744177664 ∧ Vals W W.heap.size A (xs.map (.int .u16 ·)) := by
  obtain ⟨xs, A, c, h1, h2, h3, h4, h5⟩ := open_ones (.int .u16 ·) (fun x => 0 ≤ x ∧ x ≤ 65535) Try.underlying33 (by kernel_rfl) (fun n u y hy => by
    obtain ⟨k, hk, _, wk⟩ := DataW.trod_int Try.underlying34 hy
    simp at hk
    exact ⟨k, hk, bounds_u16 wk⟩) hv h hz
  have hbt : Try.prog.bytesOf 34 = 2 := by kernel_rfl
  rw [hbt] at h4
  exact ⟨xs, A, c, h1, h2, h3, by unfold reachBytes at h4; omega, h5⟩

set_option maxRecDepth 100000 in
theorem open_bools (hv : Value.okWide Try.prog W .any base 25 v) (h : DataW.Trod enc Try.prog W 0 (fun _ => true) true 25 v d p) (hz : ∀ n ∈ d.weights Try.prog 25, n ≤ reachBytes) :
    ∃ (xs : List Bool) (A : Option Addr) (c : Nat), v = .slice A xs.length c ∧ xs.length ≤ c ∧ c ≤ 140737488355328 ∧ Vals W W.heap.size A (xs.map (.bool ·)) := by
  obtain ⟨xs, A, c, h1, _, h3, h4, h5⟩ := open_ones (.bool ·) (fun _ => True) Try.underlying25 (by kernel_rfl) (fun n u y hy => by
    obtain ⟨k, hk, _⟩ := DataW.trod_bool Try.underlying4 hy
    simp at hk
    exact ⟨k, hk, trivial⟩) hv h hz
  have hbt : Try.prog.bytesOf 4 = 1 := by kernel_rfl
  rw [hbt] at h4
  exact ⟨xs, A, c, h1, h3, by unfold reachBytes at h4; omega, h5⟩

set_option maxRecDepth 100000 in
theorem open_i64s (hv : Value.okWide Try.prog W .any base 26 v) (h : DataW.Trod enc Try.prog W 0 (fun _ => true) true 26 v d p) (hz : ∀ n ∈ d.weights Try.prog 26, n ≤ reachBytes) :
    ∃ (xs : List Int) (A : Option Addr) (c : Nat), v = .slice A xs.length c ∧ (∀ x ∈ xs, -9223372036854775808 ≤ x ∧ x ≤ 9223372036854775807) ∧ xs.length ≤ c ∧ c ≤ 17592186044416 ∧ Vals W W.heap.size A (xs.map (.int .i64 ·)) := by
  obtain ⟨xs, A, c, h1, h2, h3, h4, h5⟩ := open_ones (.int .i64 ·) (fun x => -9223372036854775808 ≤ x ∧ x ≤ 9223372036854775807) Try.underlying26 (by kernel_rfl) (fun n u y hy => by
    obtain ⟨k, hk, _, wk⟩ := DataW.trod_int Try.underlying3 hy
    simp at hk
    exact ⟨k, hk, bounds_i64 wk⟩) hv h hz
  have hbt : Try.prog.bytesOf 3 = 8 := by kernel_rfl
  rw [hbt] at h4
  exact ⟨xs, A, c, h1, h2, h3, by unfold reachBytes at h4; omega, h5⟩
end
end Go.Proofs.Ytbdhkagcbncefaa
