/- A formula opened. -/
import Derived.Test.YtijecfmblddanaaDoorOpenG
import Derived.Test.YtijecfmblddanaaDoorFmMem
namespace Go.Proofs.YtijecfmblddanaaDoor
open Go.ChangeShapes Go.WideShapes Go.ChangeAt Go.RowKit Go.Joins Go.Deep

section
variable {H : Type} {enc : TypeId × Value → H} {W : World} {v : Value} {d : DataW H} {p : List MemPlace} {base : Nat}

theorem struct4n {P : Program} {t : TypeId} {f0 f1 f2 f3 : Field} {fuel : Nat} {c0 c1 c2 c3 : Value} {x : DataW H × List MemPlace} (hs : P.underlying t = some (.struct #[f0, f1, f2, f3])) (hone : oneCellFields P #[f0, f1, f2, f3] = true)
    (h : DataW.trod enc P W 0 (fun _ => true) true fuel t [c0, c1, c2, c3] = some x) :
    ∃ (y0 y1 y2 y3 : DataW H × List MemPlace) (n : Nat), fuel = n + 1 ∧ x.1 = .agg [y0.1, y1.1, y2.1, y3.1] ∧
      DataW.trod enc P W 0 (fun _ => true) true n f0.type [c0] = some y0 ∧ DataW.trod enc P W 0 (fun _ => true) true n f1.type [c1] = some y1 ∧ DataW.trod enc P W 0 (fun _ => true) true n f2.type [c2] = some y2 ∧ DataW.trod enc P W 0 (fun _ => true) true n f3.type [c3] = some y3 := by
  obtain ⟨xs, n, hfu, rfl, _, hlen, hf⟩ := DataW.trod_struct hs h
  obtain ⟨o0, k0⟩ := hone_of hone 0 f0 rfl
  obtain ⟨o1, k1⟩ := hone_of hone 1 f1 rfl
  obtain ⟨o2, k2⟩ := hone_of hone 2 f2 rfl
  obtain ⟨o3, k3⟩ := hone_of hone 3 f3 rfl
  match xs, hlen with
  | [y0, y1, y2, y3], _ => exact ⟨y0, y1, y2, y3, n, hfu, by simp, by simpa [o0, k0] using hf 0 f0 rfl, by simpa [o1, k1] using hf 1 f1 rfl, by simpa [o2, k2] using hf 2 f2 rfl, by simpa [o3, k3] using hf 3 f3 rfl⟩

set_option maxRecDepth 100000 in
theorem open_fm4 : ∀ (N n : Nat), n ≤ N → ∀ (cs : List Value) (y : DataW H × List MemPlace), cs.length = 4 → DataW.trod enc Tryd.prog W 0 (fun _ => true) true n 37 cs = some y → (∀ m ∈ y.1.weights Tryd.prog 37, m ≤ reachBytes) →
    ∃ (f : Fm) (A : Option Addr) (c : Nat), cs = fmC f A c ∧ FmV W W.heap.size f A c
  | 0, n, hn, cs, y, hl, h, hz => by
    obtain ⟨xs, n', hf, _⟩ := DataW.trod_struct Tryd.underlying37 h
    omega
  | N + 1, n, hn, cs, y, hl, h, hz => by
    match cs, hl with
    | [c0, c1, c2, c3], _ =>
      obtain ⟨y0, y1, y2, y3, n', hfu, hx, h0, h1, h2, h3⟩ := struct4n Tryd.underlying37 (by kernel_rfl) h
      rw [hx] at hz
      obtain ⟨i0, e0, _, w0⟩ := DataW.trod_int Tryd.underlying3 h0
      obtain ⟨s1, e1, r1, w1⟩ := DataW.trod_string Tryd.underlying9 h1
      obtain ⟨i2, e2, _, w2⟩ := DataW.trod_int Tryd.underlying3 h2
      simp at e0 e1 e2
      subst e0 e1 e2
      have hW : ∀ m, m ∈ y1.1.weights Tryd.prog 9 ∨ m ∈ y3.1.weights Tryd.prog 35 → m ≤ reachBytes := fun m hm => hz m (by
        simp [DataW.weights, Tryd.underlying37, DataW.weightsEach]
        rcases hm with hm | hm
        · exact .inr (.inl hm)
        · exact .inr (.inr (.inr hm)))
      have hsz : s1.size ≤ reachBytes := hW _ (.inl (by rw [r1]; simp [DataW.weights]))
      have bk := bounds_i64 w0
      have hname : (s1.data.toList).length ≤ 140737488355328 := by
        rw [Array.length_toList]
        unfold reachBytes at hsz
        exact Nat.le_trans hsz (by decide)
      rcases DataW.trod_slice Tryd.underlying35 h3 with ⟨e3, _⟩ | ⟨a, len, cap, elems, rest, n2, hfu2, e3, r3, _, hlc, _, hel, hi, hrest, _⟩
      · simp at e3
        subst e3
        exact ⟨.mk i0 s1.data.toList i2 [], none, 0, rfl, ⟨Nat.le_refl _, by decide, bk, hname, .nil _⟩⟩
      · simp at e3
        subst e3
        have k4 : Tryd.prog.cellsOf 37 = 4 := by kernel_rfl
        have kb : Tryd.prog.bytesOf 37 = 56 := by kernel_rfl
        have hrl := (hrest rfl).1
        have hcap : cap * 56 ≤ reachBytes := hW _ (.inr (by
          rw [r3]
          simp [DataW.weights, Tryd.underlying35, kb]
          refine .inl ?_
          omega))
        rw [k4] at hi
        obtain ⟨l, hll, hlq⟩ := list_of (Q := fun i (x : Fm × Option Addr × Nat) => (∀ j, j < 4 → W.cell? (a.add (i * 4 + j)) = (fmC x.1 x.2.1 x.2.2)[j]?) ∧ FmV W W.heap.size x.1 x.2.1 x.2.2) len fun i hil => by
          have hg := hi i hil
          rw [List.getElem?_eq_getElem (by omega)] at hg
          obtain ⟨cs', hcs, ht⟩ := Option.bind_eq_some_iff.1 hg
          obtain ⟨_, hcl, hat⟩ := World.cells?_some hcs
          obtain ⟨f, A, c, rfl, hv⟩ := open_fm4 N n2 (by omega) cs' _ hcl ht (fun m hm => hW m (.inr (by
            rw [r3]
            simp only [DataW.weights, Tryd.underlying35]
            refine List.mem_cons_of_mem _ (List.mem_append_left _ (mem_weightsAll ?_ hm))
            exact List.mem_map.2 ⟨_, List.getElem_mem (by omega), rfl⟩)))
          refine ⟨(f, A, c), fun j hj => ?_, hv⟩
          have := hat j hj
          rwa [Go.Deep.add_add] at this
        refine ⟨.mk i0 s1.data.toList i2 (l.map (·.1)), some a, cap, by simp [fmC, Fm.kind, Fm.name, Fm.lit, Fm.kids, hll], ⟨by simp [Fm.kids, hll]; omega, by unfold reachBytes at hcap; omega, bk, hname, ?_⟩⟩
        show FmS W W.heap.size (l.map (·.1)) (some a)
        by_cases h0 : l = []
        · subst h0
          exact .nil _
        · have hpos : 0 < l.length := List.length_pos_iff.2 h0
          have ha := spot_none (by have := (hlq 0 _ (List.getElem?_eq_getElem hpos)).1 0 (by omega); exact this)
          rw [ha] at hlq ⊢
          simp only [Addr.add_lit] at hlq
          refine .mk _ a.block a.off (fun i => (l.getD i (.mk 0 [] 0 [], none, 0)).2.1) (fun i => (l.getD i (.mk 0 [] 0 [], none, 0)).2.2) ?_ (fun i f hif => ?_) (fun i f hif => ?_)
          · exact block_lt_of_cell (a := ⟨a.block, a.off + (0 * 4 + 0), none⟩) ((hlq 0 _ (List.getElem?_eq_getElem hpos)).1 0 (by omega))
          · rw [List.getElem?_map] at hif
            cases hq : l[i]? with
            | none => rw [hq] at hif; cases hif
            | some q =>
              rw [hq] at hif
              have hif' : q.1 = f := by simpa using hif
              subst hif'
              obtain ⟨c0, hv⟩ := hlq i q hq
              rw [List.getD_eq_getElem?_getD, hq]
              exact ⟨⟨c0 0 (by omega), c0 1 (by omega), c0 2 (by omega), c0 3 (by omega)⟩, hv.cap, hv.big, hv.kind, hv.name⟩
          · rw [List.getElem?_map] at hif
            cases hq : l[i]? with
            | none => rw [hq] at hif; cases hif
            | some q =>
              rw [hq] at hif
              have hif' : q.1 = f := by simpa using hif
              subst hif'
              rw [List.getD_eq_getElem?_getD, hq]
              exact (hlq i q hq).2.kids

set_option maxRecDepth 100000 in
theorem open_fm (hv : Value.okWide Tryd.prog W .any base 37 v) (h : DataW.Trod enc Tryd.prog W 0 (fun _ => true) true 37 v d p) (hz : ∀ n ∈ d.weights Tryd.prog 37, n ≤ reachBytes) :
    ∃ (f : Fm) (A : Option Addr) (c : Nat), v = fmA f A c ∧ FmV W W.heap.size f A c := by
  obtain ⟨cs, rfl, hsz⟩ := okWide_struct Tryd.underlying37 hv
  obtain ⟨n, hf⟩ := h
  have k4 : Tryd.prog.cellsOf 37 = 4 := by kernel_rfl
  obtain ⟨f, A, c, he, hv⟩ := open_fm4 n n (Nat.le_refl _) cs.toList _ (by rw [Array.length_toList, hsz, k4]) hf hz
  refine ⟨f, A, c, ?_, hv⟩
  have e : cs = (fmC f A c).toArray := by rw [← he]
  rw [e]
  rfl
end
end Go.Proofs.YtijecfmblddanaaDoor
