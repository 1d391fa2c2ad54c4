/- A law's arguments opened; the step from a walk to a row. -/
import Derived.Test.YtbdhkagcbncefaaRows
import Derived.Test.YtbdhkagcbncefaaG2
import Derived.ProofKit
import Derived.Below
import Derived.Carry
import Derived.SizedLaws
import Derived.OpenShut
import Derived.Lib.SmallJoins
import Derived.Deep.Slices
namespace Go.Proofs.Ytbdhkagcbncefaa
open Go.ChangeShapes Go.WideShapes Go.ChangeAt Go.RowKit Go.Joins Go.Deep

theorem ownK : ownKnob Try.prog.godebug = none := by kernel_rfl

section
variable {H : Type} {enc : TypeId × Value → H} {P : Program}

theorem trodAll_len {w : World} {base : Nat} {sp : Nat → Bool} {held : Bool} : ∀ {ts : List TypeId} {vs : List Value} {ds : List (DataW H)} {ps : List MemPlace}, DataW.TrodAll enc P w base sp held ts vs ds ps → ds.length = ts.length
  | [], [], [], _, _ => rfl
  | [], [], _ :: _, _, h => by simp [DataW.TrodAll] at h
  | [], _ :: _, _, _, h => by simp [DataW.TrodAll] at h
  | _ :: _, [], _, _, h => by simp [DataW.TrodAll] at h
  | _ :: _, _ :: _, [], _, h => by simp [DataW.TrodAll] at h
  | t :: ts, v :: vs, d :: ds, ps, h => by
    obtain ⟨p, q, _, h2, _⟩ := h
    simp [trodAll_len h2]

theorem trodAll_below (hl : laidOutB P = true) {W W' : World} (hb : Below W.heap.size W W') : ∀ {ts : List TypeId} {vs : List Value} {ds : List (DataW H)} {ps : List MemPlace}, (∀ t ∈ ts, P.readableRec t = true ∧ t < P.types.size) →
    DataW.TrodAll enc P W 0 (fun _ => true) true ts vs ds ps → (∀ x ∈ ps, x.block < W.heap.size) → DataW.TrodAll enc P W' 0 (fun b => decide (b < W.heap.size)) true ts vs ds ps
  | [], [], [], _, _, h, _ => h
  | [], [], _ :: _, _, _, h, _ => by simp [DataW.TrodAll] at h
  | [], _ :: _, _, _, _, h, _ => by simp [DataW.TrodAll] at h
  | _ :: _, [], _, _, _, h, _ => by simp [DataW.TrodAll] at h
  | _ :: _, _ :: _, [], _, _, h, _ => by simp [DataW.TrodAll] at h
  | t :: ts, v :: vs, d :: ds, ps, ht, h, hlt => by
    obtain ⟨p, q, h1, h2, rfl⟩ := h
    obtain ⟨hr, hrow⟩ := ht t (by simp)
    exact ⟨p, q, Below.trod hl hr hrow h1 hb fun x hx => hlt x (by simp [hx]), trodAll_below hl hb (fun t h => ht t (by simp [h])) h2 fun x hx => hlt x (by simp [hx]), rfl⟩

/-- The call answers true and turns nothing that was there: what a law's row asks. -/
theorem post_true {f : Func} {s : ChangeSpec} {apart fresh handsOn : Bool} {W W' : World} {args : Array Value} {ds gs : List (DataW H)} {before : List MemPlace} {tb : TypeId} (hl : laidOutB P = true) (hvars : s.vars = []) (hres : f.resultTypes = #[tb])
    (htb : P.underlying tb = some .bool) (hfn : ∀ ds : List (DataW H), ds.length = f.params.toList.length → s.fn H ds = { results := [.lit (.bool true)], args := ds }) (hts : ∀ t ∈ f.params.toList, P.readableRec t = true ∧ t < P.types.size)
    (hW : DataW.Whole enc P f.params.toList s.vars apart W args.toList ds gs before) (hb : Below W.heap.size W W') :
    s.post enc P f apart fresh handsOn false W args (.bool true) W' := by
  have hlt : ∀ p ∈ before, p.block < W.heap.size := fun p hp => hW.lt p hp
  have hW' := hW
  obtain ⟨p, q, hA, hV, rfl, hfz, hnd⟩ := hW'
  rw [hvars] at hV
  obtain ⟨rfl, rfl⟩ := trodVars_none hV
  simp only [List.append_nil] at *
  have hf := hfn ds (trodAll_len hA)
  refine ⟨ds, [], p, [], p, [], by simpa using hW, ?_, ?_, ?_, World.keptBut_mono (fun x hx => ⟨hx, .inr (.inl hx)⟩) (hb.frame (· ∈ p)), fun h => by cases h⟩
  · rw [List.append_nil, hf, hres]
    exact ⟨[], [], shut_bool htb true, rfl, rfl⟩
  · rw [List.append_nil, hf]
    exact trodAll_below hl hb hts hA hlt
  · rw [List.append_nil, hf, hvars]
    exact rfl
end

theorem list_of {α : Type} {Q : Nat → α → Prop} : ∀ n : Nat, (∀ i, i < n → ∃ x, Q i x) → ∃ l : List α, l.length = n ∧ ∀ i x, l[i]? = some x → Q i x
  | 0, _ => ⟨[], rfl, fun i x h => by simp at h⟩
  | n + 1, h => by
    obtain ⟨l, hl, hq⟩ := list_of n fun i hi => h i (by omega)
    obtain ⟨x, hx⟩ := h n (by omega)
    refine ⟨l ++ [x], by simp [hl], fun i y hy => ?_⟩
    by_cases hi : i < n
    · rw [List.getElem?_append_left (by omega)] at hy
      exact hq i y hy
    · by_cases e : i = n
      · subst e
        rw [List.getElem?_append_right (by omega)] at hy
        simp [hl] at hy
        subst hy
        exact hx
      · rw [List.getElem?_append_right (by omega)] at hy
        have : i - l.length = (i - l.length - 1) + 1 := by omega
        rw [this] at hy
        simp at hy

theorem spot_none {w : World} {a : Addr} {v : Value} (h : w.cell? (a.add 0) = some v) : a = ⟨a.block, a.off, none⟩ := by
  obtain ⟨b, off, spot⟩ := a
  have hspot : spot = none := by simpa [Addr.add] using World.cell?_spot h
  rw [hspot]

section
variable {H : Type} {enc : TypeId × Value → H} {W : World} {v : Value} {d : DataW H} {p : List MemPlace} {base : Nat}

set_option maxRecDepth 100000 in
theorem open_pair {m : Nat} {cs : List Value} {y : DataW H × List MemPlace} (hl : cs.length = 2) (h : DataW.trod enc Try.prog W 0 (fun _ => true) true m 41 cs = some y) : ∃ q : Pr, PrOk q ∧ cs = [.int .i64 q.1, .int .i64 q.2] := by
  match cs, hl with
  | [x, z], _ =>
    obtain ⟨xs, k, _, _, _, hn, hx⟩ := DataW.trod_array Try.underlying41 h
    have hc : Try.prog.cellsOf 3 = 1 := by kernel_rfl
    have h0 := hx 0 (by omega)
    have h1 := hx 1 (by omega)
    rw [hc] at h0 h1
    match xs, hn with
    | [y0, y1], _ =>
      obtain ⟨a, ha, _, wa⟩ := DataW.trod_int Try.underlying3 h0
      obtain ⟨b, hb, _, wb⟩ := DataW.trod_int Try.underlying3 h1
      simp at ha hb
      exact ⟨(a, b), ⟨wa, wb⟩, by rw [ha, hb]⟩

set_option maxRecDepth 100000 in
theorem open_graph (hv : Value.okWide Try.prog W .any base 24 v) (h : DataW.Trod enc Try.prog W 0 (fun _ => true) true 24 v d p) (hz : ∀ n ∈ d.weights Try.prog 24, n ≤ reachBytes) :
    ∃ (g : Gr) (A : Option Addr) (c : Nat), v = .agg #[.int .i64 g.n, .slice A g.as.length c] ∧ GOk g ∧ g.as.length ≤ c ∧ Prs W W.heap.size A g.as := by
  obtain ⟨v0, v1, y0, y1, n, rfl, rfl, rfl, h0, h1⟩ := open_agg2 Try.underlying24 (by kernel_rfl) (by kernel_rfl) hv h
  obtain ⟨k, hk, _, wk⟩ := DataW.trod_int Try.underlying3 h0
  injection hk with hk
  subst hk
  rcases Go.Deep.open_slice Try.underlying22 h1 with ⟨hs, _⟩ | ⟨a, len, cap, m, n', D, Pl, hs, _, hl, _, hm, hx, hi⟩
  · injection hs with hs
    subst hs
    exact ⟨⟨k, []⟩, none, 0, rfl, ⟨wk, Nat.zero_le _, fun q hq => by simp at hq⟩, Nat.le_refl _, Prs.nil⟩
  · injection hs with hs
    subst hs
    have hc : Try.prog.cellsOf 41 = 2 := by kernel_rfl
    have hbt : Try.prog.bytesOf 41 = 16 := by kernel_rfl
    have hm' : m = cap := by simpa using hm
    subst hm'
    have hsz : m * 16 ≤ reachBytes := by
      refine hz _ ?_
      simp [DataW.weights, Try.underlying24, Try.underlying22, DataW.weightsEach, hx, hbt]
      refine .inr (.inl ?_)
      omega
    obtain ⟨l, hll, hlq⟩ := list_of (Q := fun i (q : Pr) => PrOk q ∧ W.cell? (a.add (i * 2)) = some (.int .i64 q.1) ∧ W.cell? (a.add (i * 2 + 1)) = some (.int .i64 q.2)) len fun i hil => by
      obtain ⟨cs', hcs, ht⟩ := hi i (by omega)
      rw [hc] at hcs
      obtain ⟨_, hcl, hat⟩ := World.cells?_some hcs
      obtain ⟨q, hq, rfl⟩ := open_pair hcl ht
      refine ⟨q, hq, ?_, ?_⟩
      · have := hat 0 (by omega)
        rw [Go.Deep.add_add] at this
        simpa using this
      · have := hat 1 (by omega)
        rw [Go.Deep.add_add] at this
        simpa using this
    refine ⟨⟨k, l⟩, some a, m, by simp [hll], ⟨wk, by show l.length ≤ _; unfold reachBytes at hsz; omega, fun q hq => ?_⟩, by show l.length ≤ _; omega, fun i q hq => ?_⟩
    · obtain ⟨i, hi'⟩ := List.getElem?_of_mem hq
      exact (hlq i q hi').1
    · obtain ⟨_, q1, q2⟩ := hlq i q hq
      have hil : i < l.length := (List.getElem?_eq_some_iff.1 hq).1
      have ha := spot_none (by simpa using (hlq 0 _ (List.getElem?_eq_getElem (by omega))).2.1)
      rw [ha] at q1 q2
      rw [Addr.add_lit] at q1 q2
      exact ⟨a.block, a.off, by rw [← ha], block_lt_of_cell (a := ⟨a.block, a.off + i * 2, none⟩) q1, q1, by rw [Nat.add_assoc]; exact q2⟩
end
end Go.Proofs.Ytbdhkagcbncefaa
