/- A law's arguments opened, whatever they are; the step from a walk to a row. -/
import Derived.Test.YtijecfmblddanaaDoorRows
import Derived.Test.YtijecfmblddanaaDoorMem
import Derived.Test.YtijecfmblddanaaDoorLaid
import Derived.ProofKit
import Derived.Below
import Derived.Carry
import Derived.SizedLaws
import Derived.OpenShut
import Derived.Lib.SmallJoins
import Derived.Deep.Slices
namespace Go.Proofs.YtijecfmblddanaaDoor
open Go.ChangeShapes Go.WideShapes Go.ChangeAt Go.RowKit Go.Joins Go.Deep

theorem ownK : ownKnob Tryd.prog.godebug = none := by kernel_rfl

section
variable {H : Type} {enc : TypeId × Value → H} {P : Program}

theorem trodAll_len {w : World} {base : Nat} {sp : Nat → Bool} {held : Bool} : ∀ {ts : List TypeId} {vs : List Value} {ds : List (DataW H)} {ps : List MemPlace}, DataW.TrodAll enc P w base sp held ts vs ds ps → ds.length = ts.length
  | [], [], [], _, _ => rfl
  | [], [], _ :: _, _, h => by simp [DataW.TrodAll] at h
  | [], _ :: _, _, _, h => by simp [DataW.TrodAll] at h
  | _ :: _, [], _, _, h => by simp [DataW.TrodAll] at h
  | _ :: _, _ :: _, [], _, h => by simp [DataW.TrodAll] at h
  | t :: ts, v :: vs, d :: ds, ps, h => by
    obtain ⟨p, q, _, h2, _⟩ := h
    simp [trodAll_len h2]

theorem trodAll_below (hl : laidOutB P = true) {W W' : World} (hb : Below W.heap.size W W') : ∀ {ts : List TypeId} {vs : List Value} {ds : List (DataW H)} {ps : List MemPlace}, (∀ t ∈ ts, P.readableRec t = true ∧ t < P.types.size) →
    DataW.TrodAll enc P W 0 (fun _ => true) true ts vs ds ps → (∀ x ∈ ps, x.block < W.heap.size) → DataW.TrodAll enc P W' 0 (fun b => decide (b < W.heap.size)) true ts vs ds ps
  | [], [], [], _, _, h, _ => h
  | [], [], _ :: _, _, _, h, _ => by simp [DataW.TrodAll] at h
  | [], _ :: _, _, _, _, h, _ => by simp [DataW.TrodAll] at h
  | _ :: _, [], _, _, _, h, _ => by simp [DataW.TrodAll] at h
  | _ :: _, _ :: _, [], _, _, h, _ => by simp [DataW.TrodAll] at h
  | t :: ts, v :: vs, d :: ds, ps, ht, h, hlt => by
    obtain ⟨p, q, h1, h2, rfl⟩ := h
    obtain ⟨hr, hrow⟩ := ht t (by simp)
    exact ⟨p, q, Below.trod hl hr hrow h1 hb fun x hx => hlt x (by simp [hx]), trodAll_below hl hb (fun t h => ht t (by simp [h])) h2 fun x hx => hlt x (by simp [hx]), rfl⟩

/-- The call answers true and turns nothing that was there: what a law's row asks. -/
theorem post_true {f : Func} {s : ChangeSpec} {apart fresh handsOn : Bool} {W W' : World} {args : Array Value} {ds gs : List (DataW H)} {before : List MemPlace} {tb : TypeId} (hl : laidOutB P = true) (hvars : s.vars = []) (hres : f.resultTypes = #[tb])
    (htb : P.underlying tb = some .bool) (hfn : ∀ ds : List (DataW H), ds.length = f.params.toList.length → s.fn H ds = { results := [.lit (.bool true)], args := ds }) (hts : ∀ t ∈ f.params.toList, P.readableRec t = true ∧ t < P.types.size)
    (hW : DataW.Whole enc P f.params.toList s.vars apart W args.toList ds gs before) (hb : Below W.heap.size W W') :
    s.post enc P f apart fresh handsOn false W args (.bool true) W' := by
  have hlt : ∀ p ∈ before, p.block < W.heap.size := fun p hp => hW.lt p hp
  have hW' := hW
  obtain ⟨p, q, hA, hV, rfl, hfz, hnd⟩ := hW'
  rw [hvars] at hV
  obtain ⟨rfl, rfl⟩ := trodVars_none hV
  simp only [List.append_nil] at *
  have hf := hfn ds (trodAll_len hA)
  refine ⟨ds, [], p, [], p, [], by simpa using hW, ?_, ?_, ?_, World.keptBut_mono (fun x hx => ⟨hx, .inr (.inl hx)⟩) (hb.frame (· ∈ p)), fun h => by cases h⟩
  · rw [List.append_nil, hf, hres]
    exact ⟨[], [], shut_bool htb true, rfl, rfl⟩
  · rw [List.append_nil, hf]
    exact trodAll_below hl hb hts hA hlt
  · rw [List.append_nil, hf, hvars]
    exact rfl
end

theorem list_of {α : Type} {Q : Nat → α → Prop} : ∀ n : Nat, (∀ i, i < n → ∃ x, Q i x) → ∃ l : List α, l.length = n ∧ ∀ i x, l[i]? = some x → Q i x
  | 0, _ => ⟨[], rfl, fun i x h => by simp at h⟩
  | n + 1, h => by
    obtain ⟨l, hl, hq⟩ := list_of n fun i hi => h i (by omega)
    obtain ⟨x, hx⟩ := h n (by omega)
    refine ⟨l ++ [x], by simp [hl], fun i y hy => ?_⟩
    by_cases hi : i < n
    · rw [List.getElem?_append_left (by omega)] at hy
      exact hq i y hy
    · by_cases e : i = n
      · subst e
        rw [List.getElem?_append_right (by omega)] at hy
        simp [hl] at hy
        subst hy
        exact hx
      · rw [List.getElem?_append_right (by omega)] at hy
        have : i - l.length = (i - l.length - 1) + 1 := by omega
        rw [this] at hy
        simp at hy

theorem spot_none {w : World} {a : Addr} {v : Value} (h : w.cell? (a.add 0) = some v) : a = ⟨a.block, a.off, none⟩ := by
  obtain ⟨b, off, spot⟩ := a
  have hspot : spot = none := by simpa [Addr.add] using World.cell?_spot h
  rw [hspot]

section
variable {H : Type} {enc : TypeId × Value → H} {W : World} {v : Value} {d : DataW H} {p : List MemPlace} {base : Nat}

set_option maxRecDepth 100000 in
/-- A slice whose elements are one cell each. -/
theorem open_ones {α : Type} {t e : TypeId} (mk : α → Value) (Q : α → Prop) (ht : Tryd.prog.underlying t = some (.slice e)) (hc : Tryd.prog.cellsOf e = 1)
    (hel : ∀ (n : Nat) (u : Value) (y : DataW H × List MemPlace), DataW.trod enc Tryd.prog W 0 (fun _ => true) true n e [u] = some y → ∃ x, u = mk x ∧ Q x)
    (hv : Value.okWide Tryd.prog W .any base t v) (h : DataW.Trod enc Tryd.prog W 0 (fun _ => true) true t v d p) (hz : ∀ n ∈ d.weights Tryd.prog t, n ≤ reachBytes) :
    ∃ (xs : List α) (A : Option Addr) (c : Nat), v = .slice A xs.length c ∧ (∀ x ∈ xs, Q x) ∧ xs.length ≤ c ∧ c * Tryd.prog.bytesOf e ≤ reachBytes ∧ Vals W W.heap.size A (xs.map mk) := by
  obtain ⟨a0, l0, c0, rfl⟩ := okWide_slice ht hv
  obtain ⟨n0, h1⟩ := h
  rcases Go.Deep.open_slice1 ht hc h1 with ⟨hs, _⟩ | ⟨a, len, cap, m, n', V, D, Pl, hs, _, hl, _, hm, hx, hi⟩
  · simp [Value.cells] at hs
    obtain ⟨rfl, rfl, rfl⟩ := hs
    exact ⟨[], none, 0, rfl, fun q hq => by simp at hq, Nat.le_refl _, by simp, Vals.nil⟩
  · simp [Value.cells] at hs
    obtain ⟨rfl, rfl, rfl⟩ := hs
    have hm' : m = c0 := by simpa using hm
    subst hm'
    have hsz : m * Tryd.prog.bytesOf e ≤ reachBytes := by
      refine hz _ ?_
      have hd : d = .slice ((List.range l0).map D) ((List.range (m - l0)).map fun j => D (l0 + j)) := by
        have := congrArg (·.1) hx
        simpa using this
      rw [hd]
      simp [DataW.weights, ht]
      refine .inl ?_
      rw [show l0 + (m - l0) = m by omega]
    obtain ⟨l, hll, hlq⟩ := list_of (Q := fun i (x : α) => Q x ∧ W.cell? (a.add i) = some (mk x)) l0 fun i hil => by
      obtain ⟨hcell, ht'⟩ := hi i (by omega)
      obtain ⟨x, hx1, hx2⟩ := hel _ _ _ ht'
      exact ⟨x, hx2, by rw [hcell, hx1]⟩
    refine ⟨l, some a, m, by rw [hll], fun q hq => ?_, by omega, hsz, fun i u hu => ?_⟩
    · obtain ⟨i, hi'⟩ := List.getElem?_of_mem hq
      exact (hlq i q hi').1
    · rw [List.getElem?_map] at hu
      cases hq : l[i]? with
      | none => rw [hq] at hu; cases hu
      | some q =>
        rw [hq] at hu
        simp at hu
        subst hu
        have q1 := (hlq i q hq).2
        have hil : i < l.length := (List.getElem?_eq_some_iff.1 hq).1
        have ha := spot_none (hlq 0 _ (List.getElem?_eq_getElem (by omega))).2
        rw [ha, Addr.add_lit] at q1
        exact ⟨a.block, a.off, by rw [← ha], block_lt_of_cell (a := ⟨a.block, a.off + i, none⟩) q1, q1⟩

theorem mem_weightsAll {P : Program} {e : TypeId} {n : Nat} {d : DataW H} : ∀ {ds : List (DataW H)}, d ∈ ds → n ∈ d.weights P e → n ∈ DataW.weightsAll P e ds
  | [], h, _ => by cases h
  | x :: r, h, hn => by
    rw [DataW.weightsAll]
    rcases List.mem_cons.1 h with rfl | h
    · exact List.mem_append_left _ hn
    · exact List.mem_append_right _ (mem_weightsAll h hn)

set_option maxRecDepth 100000 in
/-- A slice whose elements are one cell each, behind a cell. -/
theorem open_ones_cell {α : Type} {t e : TypeId} (mk : α → Value) (Q : α → Prop) (ht : Tryd.prog.underlying t = some (.slice e)) (hc : Tryd.prog.cellsOf e = 1)
    (hel : ∀ (n : Nat) (u : Value) (y : DataW H × List MemPlace), DataW.trod enc Tryd.prog W 0 (fun _ => true) true n e [u] = some y → ∃ x, u = mk x ∧ Q x)
    {n0 : Nat} {u : Value} {y : DataW H × List MemPlace} (h1 : DataW.trod enc Tryd.prog W 0 (fun _ => true) true n0 t [u] = some y) (hz : ∀ n ∈ y.1.weights Tryd.prog t, n ≤ reachBytes) :
    ∃ (xs : List α) (A : Option Addr) (c : Nat), u = .slice A xs.length c ∧ (∀ x ∈ xs, Q x) ∧ xs.length ≤ c ∧ c * Tryd.prog.bytesOf e ≤ reachBytes ∧ Vals W W.heap.size A (xs.map mk) := by
  rcases Go.Deep.open_slice1 ht hc h1 with ⟨hs, _⟩ | ⟨a, len, cap, m, n', V, D, Pl, hs, _, hl, _, hm, hx, hi⟩
  · simp at hs
    subst hs
    exact ⟨[], none, 0, rfl, fun q hq => by simp at hq, Nat.le_refl _, by simp, Vals.nil⟩
  · simp at hs
    subst hs
    have hm' : m = cap := by simpa using hm
    subst hm'
    have hsz : m * Tryd.prog.bytesOf e ≤ reachBytes := by
      refine hz _ ?_
      rw [hx]
      simp [DataW.weights, ht]
      refine .inl ?_
      rw [show len + (m - len) = m by omega]
    obtain ⟨l, hll, hlq⟩ := list_of (Q := fun i (x : α) => Q x ∧ W.cell? (a.add i) = some (mk x)) len fun i hil => by
      obtain ⟨hcell, ht'⟩ := hi i (by omega)
      obtain ⟨x, hx1, hx2⟩ := hel _ _ _ ht'
      exact ⟨x, hx2, by rw [hcell, hx1]⟩
    refine ⟨l, some a, m, by rw [hll], fun q hq => ?_, by omega, hsz, fun i u hu => ?_⟩
    · obtain ⟨i, hi'⟩ := List.getElem?_of_mem hq
      exact (hlq i q hi').1
    · rw [List.getElem?_map] at hu
      cases hq : l[i]? with
      | none => rw [hq] at hu; cases hu
      | some q =>
        rw [hq] at hu
        simp at hu
        subst hu
        have q1 := (hlq i q hq).2
        have hil : i < l.length := (List.getElem?_eq_some_iff.1 hq).1
        have ha := spot_none (hlq 0 _ (List.getElem?_eq_getElem (by omega))).2
        rw [ha, Addr.add_lit] at q1
        exact ⟨a.block, a.off, by rw [← ha], block_lt_of_cell (a := ⟨a.block, a.off + i, none⟩) q1, q1⟩
end
end Go.Proofs.YtijecfmblddanaaDoor
