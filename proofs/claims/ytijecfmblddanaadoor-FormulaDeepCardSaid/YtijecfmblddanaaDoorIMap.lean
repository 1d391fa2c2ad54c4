/- A map that the call makes, whatever its elements: what lies under each key. -/
import Derived.Carry
import Derived.Maps.OwnSet
import Derived.Test.YtijecfmblddanaaDoorKn
set_option linter.unusedVariables false
set_option linter.unusedSimpArgs false
namespace Go.Proofs.YtijecfmblddanaaDoor
open Go.RowKit Go.Maps

/-- An element reads as itself. -/
def selfElem (v : Value) : Option (DataW Value × List MemPlace) := some (.held v, [])

/-- Block b is a map of at most n entries; under a key lies what f says. -/
def GMap (P : Program) (k : TypeId) (w : World) (b n : Nat) (f : Lit → Option Value) : Prop :=
  ∃ D : DataW Value, w.ownsMap P k selfElem b n D ∧ IsMap D ∧ (∀ l, Maps.has D l = (f l).isSome) ∧ ∀ l v z, f l = some v → D.atKey l z = .held v

section
variable {P : Program} {k e t : TypeId} {w w' : World} {b n : Nat} {f : Lit → Option Value}

theorem GMap.made (P : Program) (k : TypeId) (w : World) : GMap P k (w.alloc (.map #[] 0)) w.heap.size 0 (fun _ => none) :=
  ⟨.map [], World.ownsMap_made _ _ _ _, isMap_empty, fun l => rfl, fun l v z h => by cases h⟩
theorem GMap.lt (h : GMap P k w b n f) : b < w.heap.size := by
  obtain ⟨D, ⟨es, clock, hb, _⟩, _⟩ := h
  exact (Array.getElem?_eq_some_iff.1 hb).1
theorem GMap.below {B : Nat} (h : GMap P k w b n f) (hb : Below B w w') (hB : b < B) : GMap P k w' b n f := by
  obtain ⟨D, ⟨es, clock, h1, r⟩, r2⟩ := h
  exact ⟨D, ⟨es, clock, (hb.block b hB).trans h1, r⟩, r2⟩
theorem GMap.after (h : GMap P k w b n f) (hb : Below w.heap.size w w') : GMap P k w' b n f := h.below hb h.lt
theorem GMap.same (h : GMap P k w b n f) (hb : w'.heap[b]? = w.heap[b]?) : GMap P k w' b n f := by
  obtain ⟨D, ⟨es, clock, h1, r⟩, r2⟩ := h
  exact ⟨D, ⟨es, clock, hb.trans h1, r⟩, r2⟩
theorem GMap.far (h : GMap P k w b n f) {p : Addr} (hp : b ≠ p.block) (u : Value) : GMap P k (w.setCell p u) b n f := h.same (Below.heap_setCell w p u b hp)
theorem GMap.drew (h : GMap P k w b n f) : GMap P k w.drew b n f := h
theorem GMap.alloc (h : GMap P k w b n f) (o : Obj) : GMap P k (w.alloc o) b n f := h.same (Below.heap_alloc w o b h.lt)

theorem selfElem_inv {v : Value} {d : DataW Value} {ps : List MemPlace} (h : selfElem v = some (d, ps)) : d = .held v := by
  unfold selfElem at h
  injection h with h
  injection h with h1 h2
  exact h1.symm

/-- 'v, ok := m[k]'. -/
theorem GMap.look_ok (h : GMap P k w b n f) (K : Keyed P k) (ht : P.underlying t = some (.map k e)) {z : Value} (hz : (zeroValue e).run P w = .ok z w) {key : Value} {kl : Lit} (hkey : keyOf P k key = some kl) :
    (Instr.lookup t (.map (some b)) key true).run P w = .ok (.tuple #[(f kl).getD z, .bool (f kl).isSome]) w := by
  obtain ⟨D, hm, hD, h1, h2⟩ := h
  obtain ⟨v, ps, hrun, hv⟩ := hm.look_ok (zd := .held z) (zp := []) K ht hz rfl hkey
  have hv' := selfElem_inv hv
  rw [hrun, h1 kl]
  cases hf : f kl with
  | none =>
    rw [atKey_of_not_has (by rw [h1, hf]; rfl)] at hv'
    injection hv' with hv'
    rw [← hv']
    rfl
  | some u =>
    rw [h2 kl u _ hf] at hv'
    injection hv' with hv'
    rw [← hv']
    rfl
/-- 'm[k]'. -/
theorem GMap.look (h : GMap P k w b n f) (K : Keyed P k) (ht : P.underlying t = some (.map k e)) {z : Value} (hz : (zeroValue e).run P w = .ok z w) {key : Value} {kl : Lit} (hkey : keyOf P k key = some kl) :
    (Instr.lookup t (.map (some b)) key false).run P w = .ok ((f kl).getD z) w := by
  obtain ⟨D, ⟨es, clock, hb, F, hs, rfl⟩, hD, h1, h2⟩ := h
  rcases Maps.fit_look false K ht hz hb F hkey with ⟨hrun, _, hat⟩ | ⟨e0, y, _, _, hrun, hRv, hat, _⟩
  · have hh := h1 kl
    rw [Maps.has_false_of_atKey hat] at hh
    cases hf : f kl with
    | none => simpa using hrun
    | some u => rw [hf] at hh; cases hh
  · have hh := h1 kl
    rw [Maps.has_true_of_atKey hat] at hh
    cases hf : f kl with
    | none => rw [hf] at hh; cases hh
    | some u =>
      have h3 := h2 kl u (.nil) hf
      rw [hat .nil] at h3
      have h4 : y.1 = .held e0.val := selfElem_inv (v := e0.val) (d := y.1) (ps := y.2) hRv
      rw [h4] at h3
      injection h3 with h3
      rw [h3] at hrun
      simpa using hrun

open Classical in
noncomputable def putL (f : Lit → Option Value) (kl : Lit) (v : Value) : Lit → Option Value := fun l => if l = kl then some v else f l
/-- 'm[k] = v'. -/
theorem GMap.store (h : GMap P k w b n f) (K : Keyed P k) (ht : P.underlying t = some (.map k e)) (hn : n < maxLen) {key : Value} {kl : Lit} (hkey : keyOf P k key = some kl) (hkl : WideAt.IsKeyLit kl) (v : Value) :
    ∃ w', (Instr.mapUpdate t (.map (some b)) key v).run P w = .ok () w' ∧ GMap P k w' b (n + 1) (putL f kl v) ∧ w.grownBy w' (some b) := by
  obtain ⟨D, hm, hD, h1, h2⟩ := h
  obtain ⟨w', hrun, hm', ht'⟩ := hm.store K ht hn hkey (val := v) (d := .held v) (ps := []) rfl
  refine ⟨w', hrun, ⟨D.put kl (.held v), hm', hD.put _ _, fun l => ?_, fun l u z hu => ?_⟩, ht'.grown⟩
  · unfold putL
    by_cases e1 : l = kl
    · subst e1
      rw [has_put_same hD hkl]
      simp
    · rw [has_put_other e1, if_neg e1, h1]
  · unfold putL at hu
    by_cases e1 : l = kl
    · subst e1
      rw [if_pos rfl] at hu
      cases hu
      exact atKey_put_same hD hkl _ _
    · rw [if_neg e1] at hu
      rw [atKey_put_other e1]
      exact h2 l u z hu
theorem GMap.congr {g : Lit → Option Value} (h : GMap P k w b n f) (hg : ∀ l, f l = g l) : GMap P k w b n g := by
  have : f = g := funext hg
  rw [← this]
  exact h
end

/-- Keys that are ints. -/
def ofInts (f : Int → Option Value) : Lit → Option Value
  | .int .i64 i => f i
  | _ => none
def putI (f : Int → Option Value) (i : Int) (v : Value) : Int → Option Value := fun j => if j = i then some v else f j
theorem putL_ints (f : Int → Option Value) (i : Int) (v : Value) (l : Lit) : putL (ofInts f) (.int .i64 i) v l = ofInts (putI f i v) l := by
  unfold putL
  by_cases e : l = .int .i64 i
  · subst e
    rw [if_pos rfl]
    unfold ofInts putI
    simp
  · rw [if_neg e]
    cases l with
    | int k j =>
      cases k <;> try rfl
      unfold ofInts putI
      have : j ≠ i := fun h => e (by rw [h])
      simp [this]
    | _ => rfl
/-- Block b is a map with int keys. -/
def IMap (P : Program) (k : TypeId) (w : World) (b n : Nat) (f : Int → Option Value) : Prop := GMap P k w b n (ofInts f)
section
variable {P : Program} {k e t : TypeId} {w w' : World} {b n : Nat} {f : Int → Option Value}
theorem IMap.made (P : Program) (k : TypeId) (w : World) : IMap P k (w.alloc (.map #[] 0)) w.heap.size 0 (fun _ => none) :=
  (GMap.made P k w).congr fun l => by
    show none = ofInts _ l
    unfold ofInts
    split <;> rfl
theorem IMap.look_ok (h : IMap P k w b n f) (hk : P.underlying k = some (.int .i64)) (ht : P.underlying t = some (.map k e)) {z : Value} (hz : (zeroValue e).run P w = .ok z w) {i : Int} (h1 : -9223372036854775808 ≤ i) (h2 : i ≤ 9223372036854775807) :
    (Instr.lookup t (.map (some b)) (.int .i64 i) true).run P w = .ok (.tuple #[(f i).getD z, .bool (f i).isSome]) w :=
  GMap.look_ok h (int_keyed hk) ht hz (keyOf_int_mk hk (WalkArith.wf_i64 ⟨h1, h2⟩))
theorem IMap.look (h : IMap P k w b n f) (hk : P.underlying k = some (.int .i64)) (ht : P.underlying t = some (.map k e)) {z : Value} (hz : (zeroValue e).run P w = .ok z w) {i : Int} (h1 : -9223372036854775808 ≤ i) (h2 : i ≤ 9223372036854775807) :
    (Instr.lookup t (.map (some b)) (.int .i64 i) false).run P w = .ok ((f i).getD z) w :=
  GMap.look h (int_keyed hk) ht hz (keyOf_int_mk hk (WalkArith.wf_i64 ⟨h1, h2⟩))
theorem IMap.store (h : IMap P k w b n f) (hk : P.underlying k = some (.int .i64)) (ht : P.underlying t = some (.map k e)) (hn : n < maxLen) {i : Int} (h1 : -9223372036854775808 ≤ i) (h2 : i ≤ 9223372036854775807) (v : Value) :
    ∃ w', (Instr.mapUpdate t (.map (some b)) (.int .i64 i) v).run P w = .ok () w' ∧ IMap P k w' b (n + 1) (putI f i v) ∧ w.grownBy w' (some b) := by
  obtain ⟨w', r, h3, h4⟩ := GMap.store h (int_keyed hk) ht hn (keyOf_int_mk hk (WalkArith.wf_i64 ⟨h1, h2⟩)) trivial v
  exact ⟨w', r, h3.congr (putL_ints f i v), h4⟩
theorem IMap.congr {g : Int → Option Value} (h : IMap P k w b n f) (hg : ∀ i, f i = g i) : IMap P k w b n g := by
  have : f = g := funext hg
  rw [← this]
  exact h
end
end Go.Proofs.YtijecfmblddanaaDoor
