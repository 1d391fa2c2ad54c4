/- A solver: the library's functions on rows of numbers. A solver: begin. slices.Repeat of one number. slices.IndexFunc and slices.ContainsFunc on clauses, with a closure that turns nothing. Layer 14: Right and So. A region that draws its order and in which many operations are ready at once that nothing orders: what may come at any time is taken first, then a bag of operations in whatever order (one invariant for all of them), then the rest in an order of ours. A solver that is made: what each of the operations that make its parts leaves. A solver: Solve. A solver: what Solve tells. Clauses by their blocks. Layer 15: awake. -/
import Derived.Sort.OwnSortedInts
import Derived.Sort.EveryDepth
import Derived.Lib.OwnBridge
import Derived.Test.YtbkmgblijncjhaaK5
import Derived.Test.YtbkmgblijncjhaaSatShelf
import Derived.Laws.EntriesVeiled
import Derived.Test.YtbkmgblijncjhaaG3
import Derived.Laws.CopyOwn
import Derived.Test.YtbkmgblijncjhaaG1
import Derived.Test.YtbkmgblijncjhaaProg
set_option linter.unusedVariables false
set_option linter.unusedSimpArgs false
namespace Go.Proofs.Ytbkmgblijncjhaa
open Go.RowKit Go.Maps Go.Shelf Go.Sort

/-- A clause as the solver keeps it: sorted, each literal once. -/
def normC (xs : List Int) : List Int := Lib.compact (xs.mergeSort fun x y => decide (x ≤ y))
theorem least_at {zs : List Int} {x : Int} : ∀ i : Nat, zs[i]? = some x → ∃ j : Nat, zs[j]? = some x ∧ ∀ k : Nat, k < j → zs[k]? ≠ some x := by
  intro i
  induction i using Nat.strongRecOn with
  | ind i ih =>
    intro hi
    by_cases h1 : ∃ k, k < i ∧ zs[k]? = some x
    · obtain ⟨k, h2, h3⟩ := h1
      exact ih k h2 h3
    · exact ⟨i, hi, fun k hk e => h1 ⟨k, hk, e⟩⟩
theorem compact_mem {zs : List Int} {x : Int} : x ∈ Lib.compact zs ↔ x ∈ zs := by
  unfold Lib.compact Lib.compactUpTo
  simp only [List.mem_map, List.mem_filter, List.mem_range]
  constructor
  · rintro ⟨j, ⟨hj, _⟩, rfl⟩
    rw [getElem!_pos _ j (by simpa using hj)]
    simp
  · intro h
    obtain ⟨i, hi⟩ := List.getElem?_of_mem h
    obtain ⟨j, hj, hmin⟩ := least_at i hi
    have hjl := (List.getElem?_eq_some_iff.1 hj).1
    have hjx : zs[j] = x := (List.getElem?_eq_some_iff.1 hj).2
    refine ⟨j, ⟨hjl, ?_⟩, ?_⟩
    · unfold Lib.keeps
      rw [decide_eq_true_eq]
      by_cases h0 : j = 0
      · exact .inl h0
      · refine .inr fun e => ?_
        rw [getElem!_pos _ j (by simpa using hjl), getElem!_pos _ (j - 1) (by simp; omega)] at e
        simp only [List.getElem_toArray] at e
        exact hmin (j - 1) (by omega) (by rw [List.getElem?_eq_getElem (by omega), ← e, hjx])
    · rw [getElem!_pos _ j (by simpa using hjl)]
      simpa using hjx
theorem compact_nodup {zs : List Int} (h : zs.Pairwise (· ≤ ·)) : (Lib.compact zs).Nodup := by
  unfold Lib.compact Lib.compactUpTo
  rw [List.Nodup, List.pairwise_map]
  have hp := List.pairwise_iff_getElem.1 h
  have hr : ((List.range zs.length).filter (Lib.keeps zs.toArray)).Pairwise (· < ·) := List.Pairwise.filter _ List.pairwise_lt_range
  refine List.Pairwise.imp_of_mem (fun {i j} hi hj hij => ?_) hr
  obtain ⟨hi1, _⟩ := List.mem_filter.1 hi
  obtain ⟨hj1, hj2⟩ := List.mem_filter.1 hj
  have hi' := List.mem_range.1 hi1
  have hj' := List.mem_range.1 hj1
  unfold Lib.keeps at hj2
  rw [decide_eq_true_eq] at hj2
  have hne := hj2.resolve_left (by omega)
  rw [getElem!_pos _ j (by simpa using hj'), getElem!_pos _ (j - 1) (by simp; omega)] at hne
  rw [getElem!_pos _ i (by simpa using hi'), getElem!_pos _ j (by simpa using hj')]
  simp only [List.getElem_toArray] at hne ⊢
  have h1 : zs[j - 1] ≤ zs[j] := hp _ _ _ _ (by omega)
  have h2 : zs[i] ≤ zs[j - 1] := by
    by_cases e : i = j - 1
    · subst e
      exact Int.le_refl _
    · exact hp _ _ _ _ (by omega)
  omega
theorem normC_mem {xs : List Int} {x : Int} : x ∈ normC xs ↔ x ∈ xs := by
  unfold normC
  rw [compact_mem, List.mem_mergeSort]
theorem normC_nodup (xs : List Int) : (normC xs).Nodup := by
  refine compact_nodup ?_
  have h := List.pairwise_mergeSort (le := fun x y : Int => decide (x ≤ y)) (fun a b c h1 h2 => by simp at *; omega) (fun a b => by simp; omega) xs
  exact h.imp fun {a b} h => by simpa using h
theorem normC_len (xs : List Int) : (normC xs).length ≤ xs.length := by
  unfold normC
  exact Nat.le_trans (Lib.compact_length_le _) (Nat.le_of_eq (List.length_mergeSort xs))

theorem clone_any {xs : List Int} {A : Option Addr} {c : Nat} (w : World) (hA : Vals w w.heap.size A (i64s xs)) (hl : xs.length ≤ 1000000) (hc : xs.length ≤ c) :
    Calls Try.prog 45 #[.slice A xs.length c] w (fun e w' => ∃ A' c', e = .returned (.slice A' xs.length c') ∧ w'.ownsRow w.heap.size 3 1 (.slice A' xs.length c') xs.length (i64s xs) ∧ Below w.heap.size w w') := by
  cases A with
  | none =>
    have e : xs = [] := by
      cases xs with
      | nil => rfl
      | cons x xs =>
        obtain ⟨_, _, e, _⟩ := hA 0 (.int .i64 x) rfl
        cases e
    subst e
    exact (Any.slices_Clone_int_nil Try.lays2_15 0 c w).mono fun e w' h => ⟨none, 0, h.1, World.ownsRow_nil _ _ _ _, by rw [h.2]; exact Below.refl _ _⟩
  | some a =>
    by_cases h0 : xs = []
    · subst h0
      refine (Any.slices_Clone_int_zero Try.lays2_15 a c w).mono fun e w' h => ?_
      obtain ⟨v', rfl, ho, _, hb⟩ := h
      obtain ⟨A', c', rfl, _⟩ := own_form ho
      exact ⟨A', c', rfl, ho, hb⟩
    · obtain ⟨x, hx⟩ : ∃ x, xs[0]? = some x := ⟨_, List.getElem?_eq_getElem (List.length_pos_iff.2 h0)⟩
      obtain ⟨b, p, e, _, _⟩ := hA 0 (.int .i64 x) (i64s_at hx)
      cases e
      refine (Any.slices_Clone_int Try.lays2_15 b p xs.length c xs w (Nat.le_refl _) (by omega) (fun j hj => ?_)).mono fun e w' h => ?_
      · obtain ⟨b', p', e, _, hc⟩ := hA j (.int .i64 xs[j]) (i64s_at (List.getElem?_eq_getElem hj))
        cases e
        rw [hc, List.getD_eq_getElem?_getD, List.getElem?_eq_getElem hj]
        rfl
      · obtain ⟨v', rfl, ho, _, hb⟩ := h
        rw [List.take_length] at ho
        obtain ⟨A', c', rfl, _⟩ := own_form ho
        exact ⟨A', c', rfl, ho, hb⟩
/-- Sort, on a row of the call's own. -/
theorem sort_own {base : Nat} {xs : List Int} {A : Option Addr} {c : Nat} (w : World) (h : w.ownsRow base 3 1 (.slice A xs.length c) xs.length (i64s xs)) (hl : xs.length ≤ 1000000) :
    Calls Try.prog 46 #[.slice A xs.length c] w (fun e w' => e = .returned (.tuple #[]) ∧ w'.ownsRow base 3 1 (.slice A xs.length c) xs.length (i64s (xs.mergeSort fun x y => decide (x ≤ y))) ∧ w.grownBy w' (Value.slice A xs.length c).ownBlock) := by
  by_cases h0 : xs = []
  · subst h0
    refine (Any.slices_Sort_int_none Try.lays189 A c w).mono fun e w' h1 => ?_
    obtain ⟨rfl, rfl⟩ := h1
    exact ⟨rfl, by simpa using h, World.grownBy.refl _ _⟩
  · rcases h.2 with ⟨hv, hn0⟩ | ⟨g, cap, cur, hv, hg, hh, hnc, hcm, hcs, htk⟩
    · exact absurd (List.eq_nil_of_length_eq_zero hn0) h0
    · injection hv with h1 h2 h3
      subst h1 h3
      have hH : Holds (Value.int .i64) w g 0 xs.toArray := by
        obtain ⟨g', cap', e, _, _, _, _, _, hH⟩ := Lib.holds_of_ownsRow (enc := Value.int .i64) h (by simp)
        cases e
        exact hH
      refine (calls_of_every_depth fun D => AnyS.slices_Sort_int_alone Try.lays189 D g 0 c xs w hH (Array.getElem?_eq_some_iff.1 hh).1 (by omega)).mono fun e w' h1 => ?_
      obtain ⟨rfl, n, os, rfl⟩ := h1
      exact ⟨rfl, ownsRow_sortedI (List.length_mergeSort xs) hg hh hnc hcm hcs, grownBy_sortedI _⟩
/-- Compact, on a row of the call's own. -/
theorem compact_own {base : Nat} {xs : List Int} {A : Option Addr} {c : Nat} (w : World) (h : w.ownsRow base 3 1 (.slice A xs.length c) xs.length (i64s xs)) (hl : xs.length ≤ 1000000) :
    Calls Try.prog 47 #[.slice A xs.length c] w (fun e w' => e = .returned (.slice A (Lib.compact xs).length c) ∧ w'.ownsRow base 3 1 (.slice A (Lib.compact xs).length c) (Lib.compact xs).length (i64s (Lib.compact xs)) ∧ w.grownBy w' (Value.slice A xs.length c).ownBlock) := by
  by_cases h0 : xs = []
  · subst h0
    refine (Any.slices_Compact_int_empty Try.lays2_20 A c w).mono fun e w' h1 => ?_
    obtain ⟨rfl, rfl⟩ := h1
    exact ⟨rfl, h, World.grownBy.refl _ _⟩
  · have h' := h
    rcases h.2 with ⟨hv, hn0⟩ | ⟨g, cap, cur, hv, hg, hh, hnc, hcm, hcs, htk⟩
    · exact absurd (List.eq_nil_of_length_eq_zero hn0) h0
    · injection hv with h1 h2 h3
      subst h1 h3
      have hH : Holds (Value.int .i64) w g 0 xs.toArray := by
        obtain ⟨g', cap', e, _, _, _, _, _, hH⟩ := Lib.holds_of_ownsRow (enc := Value.int .i64) h (by simp)
        cases e
        exact hH
      refine (Any.slices_Compact_int Try.lays2_20 g 0 c xs w hH (by omega) hnc).mono fun e w' h1 => ?_
      obtain ⟨rfl, q, rfl⟩ := h1
      have hle := Lib.compact_length_le xs
      have hc := Lib.ownsRow_putRow (q := q) (k := (Lib.compact xs).length) (ys := Lib.compact xs ++ List.replicate (xs.length - (Lib.compact xs).length) 0) h' (by simp; omega) hle
      rw [List.take_left] at hc
      refine ⟨rfl, hc, rfl, rfl, rfl, by simp [putRow, mapBlock, Sort.ahead], fun k hk hne => ?_⟩
      have : g ≠ k := fun e => hne (by rw [← e]; rfl)
      simp [putRow, mapBlock, Sort.ahead, Array.getElem?_modify, this]
end Go.Proofs.Ytbkmgblijncjhaa

set_option linter.unusedVariables false
set_option linter.unusedSimpArgs false
namespace Go.Proofs.Ytbkmgblijncjhaa
open Go.RowKit Go.Maps Go.Shelf

theorem en_neg : ∀ args w, (callFunc 48 args).run Try.prog w = .ok (.enter 48 args) w := fun _ _ => by
  simp [callFunc, go_sem, Try.func48, Try.f48]
/-- The closure: is a literal's other side there? -/
theorem neg_any {ys : List Int} {x : Int} {A : Option Addr} {c q : Nat} (w : World) (hx : x ∈ ys) (hr : -9223372036854775807 ≤ x ∧ x ≤ 9223372036854775807) (hl : ys.length ≤ 1000000) (hq : w.cell? ⟨q, 0, none⟩ = some (.slice A ys.length c)) (hA : Vals w w.heap.size A (i64s ys)) :
    Calls Try.prog 48 #[.int .i64 x, .pointer (some ⟨q, 0, none⟩)] w (fun e w' => e = .returned (.bool (decide (-x ∈ ys))) ∧ w' = w) := by
  obtain ⟨i, hi⟩ := List.getElem?_of_mem hx
  obtain ⟨b, p, rfl, _, _⟩ := hA i (.int .i64 x) (i64s_at hi)
  have hw : IntKind.i64.wrap (-x) = -x := IntWalk.i64_in _ (by omega)
  have HC := Lib.hid (Any.slices_Contains_int Try.lays107 b p ys.length c ys (-x) w (Nat.le_refl _) (by omega) (fun j hj => by
    obtain ⟨b', p', e, _, hc⟩ := hA j (.int .i64 ys[j]) (i64s_at (List.getElem?_eq_getElem hj))
    cases e
    rw [hc, List.getD_eq_getElem?_getD, List.getElem?_eq_getElem hj]
    rfl))
  rw [List.take_length] at HC
  clear hA hi hx
  go_enter Try.func48, Try.ntmps48
  go_wp2_with fail
  refine HC.out.mono ?_
  rintro e w2 ⟨rfl, rfl⟩
  go_wp2_with fail
  go_ret
  exact ⟨rfl, rfl⟩
theorem own_addr {w : World} {base sz m c : Nat} {e : TypeId} {A : Option Addr} {xs : List Value} (h : w.ownsRow base e sz (.slice A m c) m xs) : ∀ a, A = some a → a.spot = none ∧ base ≤ a.block ∧ a.block < w.heap.size := fun a e => by
  rcases h.2 with ⟨hv, hn0⟩ | ⟨g, cap, cur, hv, hg, hh, _⟩
  · cases hv
    cases e
  · injection hv with h1 h2 h3
    subst h1
    cases e
    exact ⟨rfl, hg, (Array.getElem?_eq_some_iff.1 hh).1⟩
/-- What begin leaves. -/
structure Begun (w w' : World) (base b n : Nat) (F : List (List Int)) (s : SS) (G : SG) (o : Owns) (xs : List Int) (s' : SS) (G' : SG) (o' : Owns) : Prop where
  m : SMem w' base b n s' G' o'
  r : SRel n s' G'
  i : Inv n (F ++ [xs]) s'
  lims : s'.lims = []
  done : s'.done = 0
  dead : G'.dead = true → ∀ m, ¬ SatF m (F ++ [xs])
  ne : G'.dead = false → ∀ c ∈ s'.cls, NE s'.lits c
  keep : (∃ x ∈ xs, -x ∈ xs) ∨ normC xs ∈ s'.cls
  cls : s.cls <+: s'.cls
  cn : s'.cls.length ≤ s.cls.length + 1
  un : G'.un ≤ G.un + xs.length
  olds : Olds w o o'
  fr : SFr o w w'
  orig : ∀ c ∈ s'.cls, c ∈ s.cls ∨ ∀ y ∈ c, y ∈ xs
theorem satF_snoc {m : Nat → Bool} {F : List (List Int)} {xs : List Int} : SatF m (F ++ [xs]) ↔ SatF m F ∧ ∃ x ∈ xs, litOn m x = true := by
  constructor
  · intro h
    exact ⟨fun c hc => h c (List.mem_append_left _ hc), h xs (by simp)⟩
  · rintro ⟨h1, h2⟩ c hc
    rcases List.mem_append.1 hc with h | h
    · exact h1 c h
    · simp at h
      subst h
      exact h2
theorem valL_cases {L : List Int} {x : Int} : (valL L x = 1 ∧ x ∈ L) ∨ (valL L x = -1 ∧ -x ∈ L) ∨ (valL L x = 0 ∧ x ∉ L ∧ -x ∉ L) := by
  unfold valL
  by_cases h1 : x ∈ L
  · exact .inl (by simp [h1])
  · by_cases h2 : -x ∈ L
    · exact .inr (.inl (by simp [h1, h2]))
    · exact .inr (.inr (by simp [h1, h2]))
theorem SRel.add {w w' : World} {base b n j : Nat} {s : SS} {G G1 : SG} {o o1 : Owns} {c : List Int} (h : SRel n s G) (ha : Added w w' base b n s G o c j G1 o1) (hj : j = c.length) : SRel n (s.add c) G1 := by
  refine ⟨fun v h1 h2 => by rw [ha.V]; exact h.vv v h1 h2, fun i y hy => by rw [ha.LV]; exact h.lv i y hy, fun i y r hy => by rw [ha.RV]; exact h.rv i y r hy, ?_⟩
  rw [ha.und, hj, List.take_length]
  exact h.ui.add _
theorem nodup_abs {ys : List Int} (h : ys.Nodup) (hn : ∀ x ∈ ys, -x ∉ ys) : (ys.map Int.natAbs).Nodup := by
  rw [List.Nodup, List.pairwise_map]
  refine List.Pairwise.imp_of_mem (fun {a b} ha hb hab e => ?_) h
  rcases Int.natAbs_eq_natAbs_iff.1 e with h1 | h1
  · exact hab h1
  · subst h1
    exact hn b hb ha
theorem Inv.more {n : Nat} {F : List (List Int)} {s : SS} (h : Inv n F s) (xs : List Int) : Inv n (F ++ [xs]) s :=
  { h with imp := fun m hm => h.imp m (satF_snoc.1 hm).1 }

section
variable {w w' : World} {base b n : Nat} {F : List (List Int)} {s : SS} {G : SG} {o : Owns}
set_option maxRecDepth 100000 in
set_option maxHeartbeats 4000000 in
theorem begin_any (h : SMem w base b n s G o) (hr : SRel n s G) (hi : Inv n F s) (hlims : s.lims = []) (hdone : s.done = 0) (hdead : G.dead = true → ∀ m, ¬ SatF m F) (hne : G.dead = false → ∀ c ∈ s.cls, NE s.lits c) (hn : n ≤ 1000000) {xs : List Int} {A : Option Addr} {c : Nat} (hA : Vals w w.heap.size A (i64s xs)) (hcp : xs.length ≤ c) (hxl : xs.length ≤ 1000000) (hrng : ∀ x ∈ xs, x ≠ 0 ∧ x.natAbs ≤ n)
    (hC : s.cls.length ≤ 4000000000000) (hun : G.un ≤ 8000000000000000000) :
    Calls Try.prog 26 #[.pointer (some ⟨b, 0, none⟩), .slice A xs.length c] w (fun e w' => e = .returned (.tuple #[]) ∧ ∃ s' G' o', Begun w w' base b n F s G o xs s' G' o') := by
  have hmf : ∀ (fn : Fn) (first cap : Array Value) (w : World), (Instr.makeFunc fn first cap).run Try.prog w = .ok (.func fn first cap) w := fun _ _ _ _ => rfl
  have HS := Lib.hid h
  have HR := Lib.hid hr
  have HI := Lib.hid hi
  have HX : Hid (s.lims = [] ∧ s.done = 0 ∧ (G.dead = true → ∀ m, ¬ SatF m F) ∧ (G.dead = false → ∀ c ∈ s.cls, NE s.lits c)) := Lib.hid ⟨hlims, hdone, hdead, hne⟩
  have HRN := Lib.hid hrng
  clear h hr hi hlims hdone hdead hne hrng
  have HCL := Lib.hid (clone_any (w.alloc (.cells #[.slice A xs.length c] 25)) (hA.after (stepA w _)) hxl hcp)
  have HB1 := Lib.hid (stepA w (.cells #[.slice A xs.length c] 25))
  have HK1 := Lib.hid (Blk.new w 25 #[.slice A xs.length c])
  clear hA hcp
  obtain ⟨q, hq⟩ : ∃ q, q = w.heap.size := ⟨_, rfl⟩
  go_enter Try.func26, Try.ntmps26
  go_wp2_with fail
  refine HCL.out.mono ?_
  rintro e w2 ⟨A1, c1, rfl, ho2, hb2⟩
  have hk2 := HK1.out.below hb2 HK1.out.lt
  have c2 := hk2.cell 0
  have z2 := hk2.frozen 0
  have hlt2 : w.heap.size < w2.heap.size := hk2.lt
  have hs1 : (w.alloc (.cells #[.slice A xs.length c] 25)).heap.size = w.heap.size + 1 := by simp
  have HBQ := Lib.hid ((step2 HB1.out hb2).setCell (p := ⟨w.heap.size, 0, none⟩) (Nat.le_refl _) (.slice A1 xs.length c1))
  have HKS := Lib.hid (hk2.set_ 0 (.slice A1 xs.length c1))
  have HRW := Lib.hid (row_keep ho2 (w' := w2.setCell ⟨w.heap.size, 0, none⟩ (.slice A1 xs.length c1)) fun k e => Below.heap_setCell w2 ⟨w.heap.size, 0, none⟩ _ k (by
    have := ho2.lt k e
    show k ≠ w.heap.size
    omega))
  have HSO := Lib.hid (sort_own _ HRW.out hxl)
  clear ho2 hb2 hk2 HCL HB1 HK1
  go_wp2_with fail
  refine HSO.out.mono ?_
  rintro e w3 ⟨rfl, ho3, hg3⟩
  have hne3 : ∀ k, (Value.slice A1 xs.length c1).ownBlock = some k → w.heap.size < k := fun k e => by
    have := HRW.out.lt k e
    omega
  have HB3 := Lib.hid (HBQ.out.grown hg3 HBQ.out.size fun k e => Nat.le_of_lt (hne3 k e))
  have hk3 := HKS.out.grown hg3 fun e => by
    have := hne3 _ e.symm
    omega
  have c3 := hk3.cell 0
  have z3 := hk3.frozen 0
  have hlt3 := hk3.lt
  have hmsl : (xs.mergeSort fun x y => decide (x ≤ y)).length = xs.length := List.length_mergeSort xs
  rw [← hmsl] at ho3
  have HCO := Lib.hid (compact_own w3 ho3 (by omega))
  rw [hmsl, ← show normC xs = Lib.compact (xs.mergeSort fun x y => decide (x ≤ y)) from rfl] at HCO
  obtain ⟨A9, c9, e9, hcx⟩ := own_form ho3
  cases e9
  rw [hmsl] at hcx
  have HK3 := Lib.hid hk3
  clear ho3 hg3 hk3 HSO HRW HKS HBQ c2 z2
  go_wp2_with fail
  refine HCO.out.mono ?_
  rintro e w4 ⟨rfl, ho4, hg4⟩
  have hyl := normC_len xs
  have HB5 := Lib.hid ((HB3.out.grown hg4 HB3.out.size fun k e => Nat.le_of_lt (hne3 k e)).setCell (p := ⟨w.heap.size, 0, none⟩) (Nat.le_refl _) (.slice A1 (normC xs).length c1))
  have hk4 := HK3.out.grown hg4 fun e => by
    have := hne3 _ e.symm
    omega
  have c4 := hk4.cell 0
  have z4 := hk4.frozen 0
  have hlt4 := hk4.lt
  have HK5 := Lib.hid (hk4.set_ 0 (.slice A1 (normC xs).length c1))
  have hne4 : ∀ k, (Value.slice A1 (normC xs).length c1).ownBlock = some k → w.heap.size < k := fun k e => by
    have := ho4.lt k e
    omega
  have HRW := Lib.hid (row_keep ho4 (w' := w4.setCell ⟨w.heap.size, 0, none⟩ (.slice A1 (normC xs).length c1)) fun k e => Below.heap_setCell w4 ⟨w.heap.size, 0, none⟩ _ k (by
    have := hne4 k e
    show k ≠ w.heap.size
    omega))
  have HHA := Lib.hid (has_ints _ en_neg (some ⟨w.heap.size, 0, none⟩) (fun x => decide (-x ∈ normC xs)) (normC xs) A1 c1 _ (by omega) (Vals.of_own HRW.out) (fun x hx => neg_any _ hx (by
    have := HRN.out x (normC_mem.1 hx)
    omega) (by omega) (HK5.out.cell 0) (Vals.of_own HRW.out)))
  clear ho4 hg4 hk4 HCO HB3 HK3 c3 z3 hne3 hlt3
  go_wp2_with fail
  refine HHA.out.mono ?_
  rintro e w5 ⟨rfl, rfl⟩
  have c5 := HK5.out.cell 0
  have hs5 : w.heap.size < (w4.setCell ⟨w.heap.size, 0, none⟩ (.slice A1 (normC xs).length c1)).heap.size := HK5.out.lt
  clear c4 z4 HHA
  generalize w4.setCell ⟨w.heap.size, 0, none⟩ (.slice A1 (normC xs).length c1) = w5 at HB5 HK5 HRW c5 hs5 ⊢
  cases ht : (normC xs).any (fun x => decide (-x ∈ normC xs))
  · have hnt : ∀ x ∈ normC xs, -x ∉ normC xs := fun x hx h2 => by
      have := List.any_eq_false.1 ht x hx
      exact this (decide_eq_true h2)
    obtain ⟨A9, c9, e9, hcy⟩ := own_form HRW.out
    cases e9
    have HND := Lib.hid (nodup_abs (normC_nodup xs) hnt)
    have hA1 : ∀ a, A1 = some a → a.spot = none ∧ w.heap.size < a.block ∧ a.block < w5.heap.size := fun a e => by
      obtain ⟨h1, h2, h3⟩ := own_addr HRW.out a e
      exact ⟨h1, by omega, h3⟩
    have HM5 := Lib.hid ((HS.out.after HB5.out).relabel (A := A1) (fun a e => by
      obtain ⟨h1, h2, h3⟩ := hA1 a e
      have hbl := HS.out.base_le
      refine ⟨h1, by omega, h3, ?_⟩
      cases e2 : o a.block with
      | none => rfl
      | some lb =>
        have := HS.out.ol _ _ e2
        omega))
    have HO5 : Hid (Olds w o (ownC o A1)) := Lib.hid fun k hk => by
      unfold ownC
      cases A1 with
      | none => rfl
      | some a =>
        obtain ⟨_, h2, _⟩ := hA1 a rfl
        exact if_neg (by omega)
    have HOq : Hid (ownC o A1 w.heap.size = none) := Lib.hid (by
      have h1 : o w.heap.size = none := by
        cases e2 : o w.heap.size with
        | none => rfl
        | some lb =>
          have := HS.out.ol _ _ e2
          omega
      unfold ownC
      cases A1 with
      | none => exact h1
      | some a =>
        obtain ⟨_, h2, _⟩ := hA1 a rfl
        exact (if_neg (by omega)).trans h1)
    have HI6 := Lib.hid ((HI.out.more xs).add (c := normC xs) (fun x hx => HRN.out x (normC_mem.1 hx)) HND.out fun m hm => by
      obtain ⟨x, h1, h2⟩ := (satF_snoc.1 hm).2
      exact ⟨x, normC_mem.2 h1, h2⟩)
    have HADD := Lib.hid (add_any (c := normC xs) HM5.out HR.out.ui hn (Vals.of_own HRW.out) hcy (fun k p e => by
      subst e
      exact ownC_at) (by omega) (normC_nodup xs) (fun x hx => HRN.out x (normC_mem.1 hx)) hC hun)
    clear hnt hA1 ht
    go_wp2_with fail
    refine HADD.out.mono ?_
    rintro e w6 ⟨rfl, G1, o1, had, hv6⟩
    have HAD := Lib.hid had
    have HV6 := Lib.hid hv6
    have c6 : w6.cell? ⟨w.heap.size, 0, none⟩ = some (.slice A1 (normC xs).length c1) := by
      refine Eq.trans ?_ (c5.trans rfl)
      simp only [World.cell?, had.fr.block w.heap.size hs5 HOq.out]
    have HYM : Hid (∀ x, x ∈ normC xs ↔ x ∈ xs) := Lib.hid fun x => normC_mem
    clear had hv6 HADD c5 HRW HK5
    obtain ⟨ys, hys⟩ : ∃ ys, ys = normC xs := ⟨_, rfl⟩
    have HYS := Lib.hid hys.symm
    rw [← hys] at HND HI6 HAD HV6 c6 HYM hyl hcy ⊢
    clear hys
    have HO6 := Lib.hid (HO5.out.trans (by omega) HAD.out.olds)
    have HF6 := Lib.hid ((SFr.of_below HB5.out o).trans HAD.out.fr HO5.out)
    have HR6 := Lib.hid (HR.out.add HAD.out rfl)
    have hun6 := HAD.out.un
    have HB0 : Hid (∀ (d : Bool) (s' : SS) (G' : SG) (o' : Owns) (W : World), SMem W base b n s' G' o' → SRel n s' G' → Inv n (F ++ [xs]) s' → s'.cls = s.cls ++ [ys] → s'.lims = [] → s'.done = 0 → G'.un = G1.un → G'.dead = d → (d = true → ∀ m, ¬ SatF m (F ++ [xs])) → (d = false → G.dead = false ∧ NE s'.lits ys ∧ ∀ x ∈ s.lits, x ∈ s'.lits) → Olds w6 o1 o' → SFr o1 w6 W → Begun w W base b n F s G o xs s' G' o') := Lib.hid fun d s' G' o' W h1 h2 h3 h4 h5 h6 h7 h8 h9 h10 h11 h12 => by
      refine ⟨h1, h2, h3, h5, h6, fun hd => h9 (by rw [← h8]; exact hd), fun hd c hc => ?_, .inr ?_, ?_, ?_, ?_, HO6.out.trans HF6.out.size h11, HF6.out.trans h12 HO6.out, ?_⟩
      · obtain ⟨h13, h14, h15⟩ := h10 (by rw [← h8]; exact hd)
        rw [h4] at hc
        rcases List.mem_append.1 hc with hc | hc
        · exact (HX.out.2.2.2 h13 c hc).more h15
        · simp at hc
          rw [hc]
          exact h14
      · rw [h4, HYS.out]
        simp
      · rw [h4]
        exact List.prefix_append _ _
      · rw [h4]
        simp
      · rw [h7]
        omega
      · intro c hc
        rw [h4] at hc
        rcases List.mem_append.1 hc with hc | hc
        · exact .inl hc
        · obtain rfl := List.mem_singleton.1 hc
          exact .inr fun y hy => (HYM.out y).1 hy
    have hdd : Hid (G1.dead = true → ∀ m, ¬ SatF m (F ++ [xs])) := Lib.hid fun hd m hm => HX.out.2.2.1 (by rw [← HAD.out.dead]; exact hd) m (satF_snoc.1 hm).1
    have hdn : Hid (∀ L, NE L ys → (∀ x ∈ s.lits, x ∈ L) → G1.dead = false → G.dead = false ∧ NE L ys ∧ ∀ x ∈ s.lits, x ∈ L) := Lib.hid fun L h1 h3 h2 => ⟨by rw [← HAD.out.dead]; exact h2, h1, h3⟩
    have HSD : Hid (∀ d, SRel n (s.add ys) { G1 with dead := d }) := Lib.hid fun d => ⟨HR6.out.vv, HR6.out.lv, HR6.out.rv, HR6.out.ui⟩
    have cd := HAD.out.m.sb.cell 12
    have zd := HAD.out.m.sb.frozen 12
    have HFD : Hid (∀ d, SFr o1 w6 (w6.setCell ⟨b, 12, none⟩ (.bool d))) := Lib.hid fun d => (SFr.refl o1 w6).set _ (.inr (by
      rw [HAD.out.m.so]
      simp))
    rcases ys with _ | ⟨y, _ | ⟨y2, ys⟩⟩
    · go_wp2_with fail
      go_end0
      refine ⟨rfl, _, _, o1, HB0.out true _ _ o1 _ (HAD.out.m.set_dead true) (HSD.out true) HI6.out rfl HX.out.1 HX.out.2.1 rfl rfl (fun _ m hm => ?_) (fun h => by cases h) (Olds.refl _ _) (HFD.out true)⟩
      obtain ⟨x, h1, _⟩ := (satF_snoc.1 hm).2
      have := (HYM.out x).2 h1
      cases this
    · have hy := HRN.out y ((HYM.out y).1 (List.mem_singleton.2 rfl))
      have HIS := Lib.hid (is_any HAD.out.m HR6.out hn (x := y) hy.1 hy.2 (fun h => HI6.out.not_both h.1 h.2))
      obtain ⟨q2, p2, rfl, _, cy⟩ := HV6.out 0 (.int .i64 y) rfl
      rw [Nat.add_zero] at cy
      rcases valL_cases (L := s.lits) (x := y) with ⟨hv, hm⟩ | ⟨hv, hm⟩ | ⟨hv, hm1, hm2⟩
      · rw [show valL (s.add [y]).lits y = 1 from hv] at HIS
        have HM := Lib.hid hm
        clear hv hm
        go_wp2_with fail
        refine HIS.out.mono ?_
        rintro e w7 ⟨rfl, rfl⟩
        go_wp2_with fail
        refine HIS.out.mono ?_
        rintro e w8 ⟨rfl, rfl⟩
        go_wp2_with fail
        go_end0
        exact ⟨rfl, _, _, o1, HB0.out G1.dead _ _ o1 _ HAD.out.m HR6.out HI6.out rfl HX.out.1 HX.out.2.1 rfl rfl hdd.out (hdn.out _ (.inl ⟨y, List.mem_singleton.2 rfl, HM.out⟩) (fun x hx => hx)) (Olds.refl _ _) (SFr.refl _ _)⟩
      · rw [show valL (s.add [y]).lits y = -1 from hv] at HIS
        have HM := Lib.hid hm
        clear hv hm
        go_wp2_with fail
        refine HIS.out.mono ?_
        rintro e w7 ⟨rfl, rfl⟩
        go_wp2_with fail
        go_end0
        refine ⟨rfl, _, _, o1, HB0.out true _ _ o1 _ (HAD.out.m.set_dead true) (HSD.out true) HI6.out rfl HX.out.1 HX.out.2.1 rfl rfl (fun _ m hm => ?_) (fun h => by cases h) (Olds.refl _ _) (HFD.out true)⟩
        refine HI6.out.no_model HX.out.1 (c := [y]) ?_ (fun z hz => ?_) m hm
        · show [y] ∈ s.cls ++ [[y]]
          simp
        · simp at hz
          rw [hz]
          exact HM.out
      · rw [show valL (s.add [y]).lits y = 0 from hv] at HIS
        have HU := Lib.hid (And.intro hm1 hm2)
        have hlen := HI.out.len
        have HPU := Lib.hid (put_any HAD.out.m hn (x := y) (why := (s.cls.length : Int)) hy.1 hy.2 (by
          show s.tr.length ≤ _
          omega))
        clear hv hm1 hm2 cd zd
        go_wp2_with fail
        refine HIS.out.mono ?_
        rintro e w7 ⟨rfl, rfl⟩
        go_wp2_with fail
        refine HIS.out.mono ?_
        rintro e w8 ⟨rfl, rfl⟩
        go_wp2_with fail
        refine HPU.out.mono ?_
        rintro e w9 ⟨rfl, T, ct, o2, hm9, ho9, hf9⟩
        have HM9 := Lib.hid (And.intro hm9 (And.intro ho9 hf9))
        clear hm9 ho9 hf9 HPU
        go_wp2_with fail
        go_end0
        have hr9 := HR6.out.put HAD.out.m (fun l hl => by
          have e : (s.add [y]).lims = [] := HX.out.1
          rw [e] at hl
          cases hl) (why := (s.cls.length : Int)) hy.1 hy.2 HU.out.1 HU.out.2 T ct
        have hi9 := HI6.out.put (k := s.cls.length) (c := [y]) (x := y) (by
          show (s.cls ++ [[y]])[_]? = _
          simp) (List.mem_singleton.2 rfl) (fun z hz hne => by
          simp at hz
          exact absurd hz hne) HU.out.1 HU.out.2
        exact ⟨rfl, _, _, o2, HB0.out G1.dead _ _ o2 _ HM9.out.1 hr9 hi9 rfl HX.out.1 HX.out.2.1 rfl rfl hdd.out (hdn.out _ (.inl ⟨y, List.mem_singleton.2 rfl, by rw [put_lits]; exact List.mem_append_right _ (List.mem_singleton.2 rfl)⟩) (fun x hx => by rw [put_lits]; exact List.mem_append_left _ hx)) HM9.out.2.1 HM9.out.2.2⟩
    · have hl0 : (((y :: y2 :: ys).length : Int) == 0) = false := by simp; omega
      have hl1 : (((y :: y2 :: ys).length : Int) == 1) = false := by simp; omega
      go_wp2_with fail
      go_end0
      exact ⟨rfl, _, _, o1, HB0.out G1.dead _ _ o1 _ HAD.out.m HR6.out HI6.out rfl HX.out.1 HX.out.2.1 rfl rfl hdd.out (hdn.out _ (.inr ⟨y, List.mem_cons_self .., y2, List.mem_cons_of_mem _ (List.mem_cons_self ..), fun e => by have := (List.nodup_cons.1 (nodup_of_abs HND.out)).1; exact this (by rw [e]; exact List.mem_cons_self ..)⟩) (fun x hx => hx)) (Olds.refl _ _) (SFr.refl _ _)⟩
  · obtain ⟨x, hx1, hx2⟩ := List.any_eq_true.1 ht
    have HT : Hid (∃ x ∈ xs, -x ∈ xs) := Lib.hid ⟨x, normC_mem.1 hx1, normC_mem.1 (of_decide_eq_true hx2)⟩
    clear hx1 hx2 ht
    go_wp2_with fail
    refine bodyPost_ret (results_none rfl _ _ _) rfl ?_
    exact ⟨rfl, s, G, o, HS.out.after HB5.out, HR.out, HI.out.more xs, HX.out.1, HX.out.2.1, fun hd m hm => HX.out.2.2.1 hd m (satF_snoc.1 hm).1, HX.out.2.2.2, .inl HT.out, List.prefix_rfl, by omega, by omega, Olds.refl _ _, SFr.of_below HB5.out o, fun c hc => .inl hc⟩
end
end Go.Proofs.Ytbkmgblijncjhaa

set_option linter.unusedVariables false
set_option linter.unusedSimpArgs false
namespace Go.Proofs.Ytbkmgblijncjhaa
open Go.RowKit Go.Maps Go.Shelf

/-- A row of numbers, all nought. -/
theorem make_zeros15 (n : Nat) (hn : n ≤ 1000000) : ∃ cs : Array Value, cs = (i64s (List.replicate n 0)).toArray ∧
    ∀ w : World, (Instr.makeSlice 25 (.int .i64 (n : Int)) (.int .i64 (n : Int))).run Try.prog w = .ok (.slice (some ⟨w.heap.size, 0, none⟩) n n) (w.alloc (.cells cs 3)) := by
  refine ⟨_, rfl, fun w => ?_⟩
  obtain ⟨i, hi, hz, hs, hb⟩ := info_parts intInfo
  have hr := run_make (P := Try.prog) w 25 3 i (.int .i64 0) Try.underlying25 hi hz .i64 .i64 (n : Int) (n : Int) (by omega) (Int.le_refl _) (by rw [hb]; omega) (by omega)
  rw [hs, Nat.mul_one] at hr
  have e : madeCells (Value.int .i64 0).cells n = (i64s (List.replicate n 0)).toArray := by
    apply Array.ext'
    apply List.ext_getElem?
    intro i
    simp [madeCells, i64s, Value.cells, List.getElem?_replicate, List.getElem?_range]
    split <;> simp_all [Nat.mod_one]
  simp only [Int.toNat_natCast] at hr
  rw [e] at hr
  exact hr
/-- So many of one number, noughts behind. -/
def repI (v : Int) (C k : Nat) : List Int := List.replicate k v ++ List.replicate (C - k) 0
theorem repI_length {v : Int} {C k : Nat} (h : k ≤ C) : (repI v C k).length = C := by simp [repI]; omega
theorem repI_splice {v : Int} {C k m : Nat} (h : k + m ≤ C) : splice (i64s (repI v C k)) k (i64s (List.replicate m v)) = i64s (repI v C (k + m)) := by
  unfold splice repI i64s
  rw [List.map_append, List.map_replicate, List.map_replicate, List.map_replicate, List.map_append, List.map_replicate, List.map_replicate, List.take_left' (by simp), List.length_replicate, List.drop_append, ← List.append_assoc, List.drop_eq_nil_of_le (by simp), List.nil_append, List.drop_replicate, List.length_replicate]
  rw [List.replicate_append_replicate, show C - k - (k + m - k) = C - (k + m) by omega]
theorem repI_at {v : Int} {C k j : Nat} (h : j < k) (hk : k ≤ C) : (repI v C k)[j]? = some v := by
  unfold repI
  rw [List.getElem?_append_left (by simpa using h), List.getElem?_replicate, if_pos h]

set_option maxRecDepth 100000 in
set_option maxHeartbeats 4000000 in
theorem repeat_one (v : Int) (C g : Nat) (w : World) (h1 : 1 ≤ C) (hC : C ≤ 1000000) (hg : Blk w g 3 #[.int .i64 v]) :
    Calls Try.prog 25 #[.slice (some ⟨g, 0, none⟩) 1 1, .int .i64 (C : Int)] w (fun e w' => ∃ r, e = .returned (.slice (some ⟨r, 0, none⟩) C C) ∧ w.heap.size ≤ r ∧ Below w.heap.size w w' ∧ Blk w' r 3 (i64s (List.replicate C v)).toArray) := by
  obtain ⟨cs0, hcs, hmk⟩ := make_zeros15 C hC
  have HMU : Hid (Calls Try.prog 44 #[.int .u64 1, .int .u64 (C : Int)] w (fun e w' => e = .returned (.tuple #[.int .u64 0, .int .u64 (C : Int)]) ∧ w' = w)) := Lib.hid (by
    have := Any.bits_Mul Try.lays212 1 C (by omega) (by omega) w
    rw [Nat.one_mul, Nat.div_eq_of_lt (by omega), Nat.mod_eq_of_lt (by omega)] at this
    exact this)
  have hint : (Try.prog.info? 3).map (·.size) = some 1 := by kernel_rfl
  have HG := Lib.hid hg
  have HW0 := Lib.hid (stepA w (.cells cs0 3))
  have HX0 : Hid (Blk (w.alloc (.cells cs0 3)) w.heap.size 3 (i64s (List.replicate C 0)).toArray) := Lib.hid (by rw [hcs]; exact Blk.new w _ _)
  have hwc : IntKind.u64.wrap (C : Int) = (C : Int) := by rw [IntKind.wrap_u64]; omega
  have hwd : IntKind.i64.wrap (C : Int) = (C : Int) := IntWalk.i64_in _ (by omega)
  clear hg hcs
  go_enter Try.func25, Try.ntmps25
  go_wp2_with fail
  refine HMU.out.mono ?_
  rintro e w2 ⟨rfl, hw⟩
  have hw' := hw.symm
  subst hw'
  clear hw
  obtain ⟨W5, hrun, hblk, hbel⟩ : ∃ W5, (Builtin.copy_ #[25, 25] 3 #[.slice (some ⟨w.heap.size, 0, none⟩) C C, .slice (some ⟨g, 0, none⟩) 1 1]).run Try.prog (w.alloc (.cells cs0 3)) = .ok (.int .i64 1) W5 ∧ Blk W5 w.heap.size 3 (i64s (repI v C 1)).toArray ∧ Below w.heap.size w W5 := by
    refine ⟨_, run_copy_row (P := Try.prog) (w.alloc (.cells cs0 3)) 25 25 3 3 w.heap.size 0 C C ⟨g, 0, none⟩ 1 1 (i64s (List.replicate C 0)).toArray 3 [.int .i64 v] Try.underlying25 hint HX0.out ?_ (fun j u hj => ?_) ?_ (by simp [Value.oneCell']), ?_, below_setRow HW0.out (Nat.le_refl _) _⟩
    · show 1 = _
      exact (Nat.min_eq_left (by omega)).symm
    · rw [Addr.add_lit, Nat.zero_add, (HG.out.below (stepA w _) HG.out.lt).cell, List.getElem?_toArray]
      exact hj
    · simp [i64s]
      omega
    · have e : (i64s (List.replicate C (0 : Int))).toArray.toList.take 0 ++ [Value.int .i64 v] ++ (i64s (List.replicate C 0)).toArray.toList.drop (0 + [Value.int .i64 v].length) = i64s (repI v C 1) := by
        have := repI_splice (v := v) (C := C) (k := 0) (m := 1) (by omega)
        rw [Nat.zero_add] at this
        rw [← this]
        simp [splice, repI, i64s]
      rw [e]
      exact setRow_heap _ _ _ _ _ _ HX0.out
  have HB5 := Lib.hid hbel
  have HK5 := Lib.hid hblk
  clear HMU hbel hblk
  go_wp2_with fail
  clear hrun hmk
  go_loopw [8] (fun nv wr => ∃ k : Nat, 1 ≤ k ∧ k ≤ C ∧ nv = .int .i64 (k : Int) ∧ Blk wr w.heap.size 3 (i64s (repI v C k)).toArray ∧ Below w.heap.size w wr) (fun nv _ => C - (intOf nv).toNat)
  case atStart => exact ⟨1, Nat.le_refl _, h1, rfl, HK5.out, HB5.out⟩
  case round =>
    obtain ⟨k, hk1, hkC, rfl, hk, hb⟩ := hrel
    have HK := Lib.hid hk
    have HB := Lib.hid hb
    clear hk hb HK5 HB5
    by_cases hlt : k < C
    · have hlt' : (k : Int) < (C : Int) := by omega
      obtain ⟨m, hm⟩ : ∃ m, m = Nat.min k (C - k) := ⟨_, rfl⟩
      have hm1 : 1 ≤ m ∧ m ≤ k ∧ m ≤ C - k := by
        have h1 : m = min k (C - k) := hm
        omega
      have HM := Lib.hid hm
      have hsf := fun W => slice_from W w.heap.size k C C hlt (Nat.le_refl _)
      have hst := fun W => slice_to W w.heap.size k C C (by omega)
      have hwk : IntKind.i64.wrap ((k : Int) + (m : Int)) = ((k + m : Nat) : Int) := by rw [IntWalk.i64_in _ (by omega)]; omega
      clear hm
      go_wp2_with fail
      refine wp_region_noPanic ?_
      refine wp_region_seq (fun _ => True) [0, 1, 2, 4, 5, 3, 6, 7, 8, 9] [0, 1, 2, 3, 4, 5, 6, 8, 9] [] (by kernel_rfl) (by kernel_rfl) rfl (by kernel_rfl) (by kernel_rfl) (fun _ _ _ _ _ h => h) ?_ (fun hSS => ?_)
      · trivial
      clear hSS
      (refine wpSeq_mov rfl rfl ?_; intro o ho; simp only [List.getElem?_toArray, List.getElem?_cons_zero, List.getElem?_cons_succ, Option.some.injEq] at ho; subst ho; refine ⟨?_, Or.inl ⟨by rfl, fun W hSW => ?_⟩, ?_⟩; rotate_left; (focus (go_simp; first | done | with_reducible rfl)); try simp only [Act.put, List.setIfInBounds_toArray, List.set_cons_zero, List.set_cons_succ])
      (refine wpSeq_mov rfl rfl ?_; intro o ho; simp only [List.getElem?_toArray, List.getElem?_cons_zero, List.getElem?_cons_succ, Option.some.injEq] at ho; subst ho; refine ⟨?_, Or.inl ⟨by rfl, fun W hSW => ?_⟩, ?_⟩; rotate_left; (focus (go_simp; first | done | with_reducible rfl)); try simp only [Act.put, List.setIfInBounds_toArray, List.set_cons_zero, List.set_cons_succ])
      (refine wpSeq_mov rfl rfl ?_; intro o ho; simp only [List.getElem?_toArray, List.getElem?_cons_zero, List.getElem?_cons_succ, Option.some.injEq] at ho; subst ho; refine ⟨?_, Or.inl ⟨by rfl, fun W hSW => ?_⟩, ?_⟩; rotate_left; (focus (go_simp; first | done | with_reducible rfl)); try simp only [Act.put, List.setIfInBounds_toArray, List.set_cons_zero, List.set_cons_succ])
      (refine wpSeq_mov rfl rfl ?_; intro o ho; simp only [List.getElem?_toArray, List.getElem?_cons_zero, List.getElem?_cons_succ, Option.some.injEq] at ho; subst ho; refine ⟨?_, Or.inl ⟨by rfl, fun W hSW => ?_⟩, ?_⟩; rotate_left; (focus (go_simp; first | done | with_reducible rfl)); try simp only [Act.put, List.setIfInBounds_toArray, List.set_cons_zero, List.set_cons_succ])
      (refine wpSeq_mov rfl rfl ?_; intro o ho; simp only [List.getElem?_toArray, List.getElem?_cons_zero, List.getElem?_cons_succ, Option.some.injEq] at ho; subst ho; refine ⟨?_, Or.inl ⟨by rfl, fun W hSW => ?_⟩, ?_⟩; rotate_left; (focus (go_simp; first | done | with_reducible rfl)); try simp only [Act.put, List.setIfInBounds_toArray, List.set_cons_zero, List.set_cons_succ])
      (refine wpSeq_mov rfl rfl ?_; intro o ho; simp only [List.getElem?_toArray, List.getElem?_cons_zero, List.getElem?_cons_succ, Option.some.injEq] at ho; subst ho; refine ⟨?_, Or.inl ⟨by rfl, fun W hSW => ?_⟩, ?_⟩; rotate_left; (focus (go_simp; first | done | with_reducible rfl)); try simp only [Act.put, List.setIfInBounds_toArray, List.set_cons_zero, List.set_cons_succ])
      (refine wpSeq_mov rfl rfl ?_; intro o ho; simp only [List.getElem?_toArray, List.getElem?_cons_zero, List.getElem?_cons_succ, Option.some.injEq] at ho; subst ho; refine ⟨?_, Or.inl ⟨by rfl, fun W hSW => ?_⟩, ?_⟩; rotate_left; (focus (go_simp; first | done | with_reducible rfl)); try simp only [Act.put, List.setIfInBounds_toArray, List.set_cons_zero, List.set_cons_succ])
      (refine wpSeq_fix rfl rfl ?_; intro o ho; simp only [List.getElem?_toArray, List.getElem?_cons_zero, List.getElem?_cons_succ, Option.some.injEq] at ho; subst ho; intro K hK)
      refine step_copy_splice rfl (.tmp 41) (.tmp 44) _ _ rfl 3 Try.underlying25 hint _ _ _ _ _ _ rfl rfl w.heap.size k (i64s (repI v C k)) 3 (HK.out.drew) (i64s (List.replicate m v)) (by rw [← HM.out]; simp [i64s]) (fun _ => ⟨rfl, _, rfl, fun j u hj => ?_⟩) ?_ (i64s_one _) w.heap.size w HB.out.drew (Nat.le_refl _) ?_
      · have hjm : j < m := by
          have := (List.getElem?_eq_some_iff.1 hj).1
          simpa [i64s] using this
        have hu : u = .int .i64 v := by
          rw [i64s_at (x := v) (by rw [List.getElem?_replicate, if_pos hjm])] at hj
          exact (Option.some.inj hj).symm
        rw [Addr.add_lit, Nat.zero_add, (HK.out.drew).cell, List.getElem?_toArray, hu]
        exact i64s_at (repI_at (by omega) hkC)
      · simp only [i64s, List.length_map, List.length_replicate, repI_length hkC]
        omega
      · intro w6 hg6 hb6
        have hl : goInt ((i64s (List.replicate m v)).length : Int) = .int .i64 (m : Int) := by simp [goInt, i64s]
        rw [repI_splice (by omega)] at hg6
        have HG6 := Lib.hid hg6.out
        have HB6 := Lib.hid hb6
        rw [hl]
        clear hg6 hb6 hl
        (refine hK.out _ _ (fun _ => trivial) ?_; clear hK K; try simp only [Act.put, List.setIfInBounds_toArray, List.set_cons_zero, List.set_cons_succ])
        (refine wpSeq_mov rfl rfl ?_; intro o ho; simp only [List.getElem?_toArray, List.getElem?_cons_zero, List.getElem?_cons_succ, Option.some.injEq] at ho; subst ho; refine ⟨?_, Or.inl ⟨by rfl, fun W hSW => ?_⟩, ?_⟩; rotate_left; (focus (go_simp; first | done | with_reducible rfl)); try simp only [Act.put, List.setIfInBounds_toArray, List.set_cons_zero, List.set_cons_succ])
        (refine wpSeq_mov rfl rfl ?_; intro o ho; simp only [List.getElem?_toArray, List.getElem?_cons_zero, List.getElem?_cons_succ, Option.some.injEq] at ho; subst ho; refine ⟨?_, Or.inl ⟨by rfl, fun W hSW => ?_⟩, ?_⟩; rotate_left; (focus (go_simp; first | done | with_reducible rfl)); try simp only [Act.put, List.setIfInBounds_toArray, List.set_cons_zero, List.set_cons_succ])
        refine wpSeq_done ?_
        clear hsf hst hwc hwd
        go_wp2_with fail
        go_roundw
        case rel => exact ⟨k + m, by omega, by omega, rfl, HG6.out, HB6.out⟩
        case measure => simp [intOf]; omega
    · have hkE : k = C := by omega
      subst hkE
      have hlt' : ¬ (k : Int) < (k : Int) := by omega
      go_wp2_with fail
      go_ret
      have e : repI v k k = List.replicate k v := by simp [repI]
      rw [e] at HK
      exact ⟨w.heap.size, rfl, Nat.le_refl _, HB.out, HK.out⟩
end Go.Proofs.Ytbkmgblijncjhaa

set_option linter.unusedVariables false
set_option linter.unusedSimpArgs false
namespace Go.Proofs.Ytbkmgblijncjhaa
open Go.RowKit Go.Maps

set_option maxRecDepth 100000 in
set_option maxHeartbeats 1000000 in
theorem idx_cls (F : FuncId) (hen : ∀ args w, (callFunc F args).run Try.prog w = .ok (.enter F args) w) (q : Option Addr) (p : List Int → Bool) (cs : List (List Int)) (A : Option Addr) (c : Nat) (w : World) (hl : cs.length ≤ 140737488355328) (hp : Cls w w.heap.size A cs)
    (hF : ∀ l ∈ cs, ∀ D d, Vals w w.heap.size D (i64s l) → Calls Try.prog F #[.slice D l.length d, .pointer q] w (fun e w' => e = .returned (.bool (p l)) ∧ w' = w)) :
    Calls Try.prog 59 #[.slice A cs.length c, .func (.func F) #[] #[.pointer q]] w (fun e w' => (∃ r : Int, e = .returned (.int .i64 r) ∧ decide (0 ≤ r) = cs.any p) ∧ w' = w) := by
  have HP := Lib.hid hp
  have HF := Lib.hid hF
  clear hp hF
  go_enter Try.func59, Try.ntmps59
  go_wp2_with fail
  go_loopw [8] (fun s wr => ∃ k : Nat, k ≤ cs.length ∧ s = .int .i64 k ∧ Hid (∀ i x, i < k → cs[i]? = some x → p x = false) ∧ wr = w) (fun s _ => cs.length - (intOf s).toNat)
  case atStart => exact ⟨0, Nat.zero_le _, rfl, fun i x hi => by omega, rfl⟩
  case round =>
    obtain ⟨k, hk, rfl, hall, rfl⟩ := hrel
    by_cases hlt : k < cs.length
    · have hlt' : (k : Int) < (cs.length : Int) := by omega
      obtain ⟨x, hxk⟩ : ∃ x, cs[k]? = some x := ⟨_, List.getElem?_eq_getElem hlt⟩
      obtain ⟨b, o, D, d, rfl, _, q1, _, hv⟩ := HP.out k _ hxk
      have HK := Lib.hid hxk
      have HV := Lib.hid hv
      clear hxk hv
      go_wp2_with fail
      refine (HF.out x (List.mem_of_getElem? HK.out) D d HV.out).mono ?_
      rintro e w2 ⟨rfl, rfl⟩
      cases hs : p x
      · have HS := Lib.hid hs
        clear hs
        go_wp2_with fail
        go_roundw
        case rel =>
          refine ⟨k + 1, by omega, by go_num, fun i x' hi hx' => ?_, trivial⟩
          rcases Nat.lt_or_ge i k with h | h
          · exact hall.out i x' h hx'
          · obtain rfl : i = k := by omega
            rw [HK.out] at hx'
            cases hx'
            exact HS.out
        case measure => simp [intOf]; omega
      · have HS := Lib.hid hs
        clear hs
        go_wp2_with fail
        go_ret
        refine ⟨⟨(k : Int), rfl, ?_⟩, rfl⟩
        rw [any_at HK.out HS.out, decide_eq_true (by omega)]
    · have hlt' : ¬ ((k : Int) < (cs.length : Int)) := by omega
      go_wp2_with fail
      go_ret
      have hF : cs.any p = false := any_take hall.out (by omega)
      exact ⟨⟨-1, rfl, by rw [hF]; rfl⟩, rfl⟩

theorem has_cls (F : FuncId) (hen : ∀ args w, (callFunc F args).run Try.prog w = .ok (.enter F args) w) (q : Option Addr) (p : List Int → Bool) (cs : List (List Int)) (A : Option Addr) (c : Nat) (w : World) (hl : cs.length ≤ 140737488355328) (hp : Cls w w.heap.size A cs)
    (hF : ∀ l ∈ cs, ∀ D d, Vals w w.heap.size D (i64s l) → Calls Try.prog F #[.slice D l.length d, .pointer q] w (fun e w' => e = .returned (.bool (p l)) ∧ w' = w)) :
    Calls Try.prog 42 #[.slice A cs.length c, .func (.func F) #[] #[.pointer q]] w (fun e w' => e = .returned (.bool (cs.any p)) ∧ w' = w) := by
  have HP := Lib.hid hp
  have HF := Lib.hid hF
  clear hp hF
  go_enter Try.func42, Try.ntmps42
  go_wp2_with fail
  refine (idx_cls F hen q p cs A c _ hl HP.out HF.out).mono ?_
  rintro e w2 ⟨⟨r, rfl, hr⟩, rfl⟩
  go_wp2_with fail
  go_ret
  exact ⟨by rw [← hr]; rfl, rfl⟩
end Go.Proofs.Ytbkmgblijncjhaa

set_option linter.unusedVariables false
set_option linter.unusedSimpArgs false
namespace Go.Proofs.Ytbkmgblijncjhaa
open Go.RowKit Go.Maps

/-- The closures have bodies. -/
theorem en_odd : ∀ args w, (callFunc 40 args).run Try.prog w = .ok (.enter 40 args) w := fun _ _ => by
  simp [callFunc, go_sem, Try.func40, Try.f40]
theorem en_bad : ∀ args w, (callFunc 41 args).run Try.prog w = .ok (.enter 41 args) w := fun _ _ => by
  simp [callFunc, go_sem, Try.func41, Try.f41]
/-- A literal is odd: the closure. -/
theorem odd_any (v x : Int) (b : Nat) (w : World) (v0 : 0 ≤ v) (v1 : v ≤ 2000) (hc : w.cell? ⟨b, 0, none⟩ = some (.int .i64 v)) :
    Calls Try.prog 40 #[.int .i64 x, .pointer (some ⟨b, 0, none⟩)] w (fun e w' => e = .returned (.bool (oddX v x)) ∧ w' = w) := by
  have hw : IntKind.i64.wrap (-v) = -v := IntWalk.i64_in _ (by omega)
  by_cases x0 : x = 0
  · have x0' : (x == 0) = true := by simpa using x0
    have HE : Hid (oddX v x = true) := by show oddX v x = true; unfold oddX; rw [x0']; rfl
    clear x0
    go_enter Try.func40, Try.ntmps40
    go_wp2_with fail
    go_ret
    exact ⟨by rw [HE.out]; rfl, rfl⟩
  · have x0' : (x == 0) = false := by simpa using x0
    by_cases x1 : v < x
    · have HE : Hid (oddX v x = true) := by show oddX v x = true; unfold oddX; rw [x0', decide_eq_true x1]; rfl
      clear x0
      go_enter Try.func40, Try.ntmps40
      go_wp2_with fail
      go_ret
      exact ⟨by rw [HE.out]; rfl, rfl⟩
    · by_cases x2 : x < -v
      · have HE : Hid (oddX v x = true) := by show oddX v x = true; unfold oddX; rw [x0', decide_eq_false x1, decide_eq_true x2]; rfl
        clear x0
        go_enter Try.func40, Try.ntmps40
        go_wp2_with fail
        go_ret
        exact ⟨by rw [HE.out]; rfl, rfl⟩
      · have HE : Hid (oddX v x = false) := by show oddX v x = false; unfold oddX; rw [x0', decide_eq_false x1, decide_eq_false x2]; rfl
        clear x0
        go_enter Try.func40, Try.ntmps40
        go_wp2_with fail
        go_ret
        exact ⟨by rw [HE.out]; rfl, rfl⟩

theorem bad_any (v : Int) (l : List Int) (D : Option Addr) (d b b3 : Nat) (w : World) (v0 : 0 ≤ v) (v1 : v ≤ 2000) (hl : l.length ≤ 140737488355328) (hc : w.cell? ⟨b, 0, none⟩ = some (.int .i64 v)) (hf : w.cell? ⟨b3, 0, none⟩ = some (.func (.func 40) #[] #[.pointer (some ⟨b, 0, none⟩)])) (hv : Vals w w.heap.size D (i64s l)) :
    Calls Try.prog 41 #[.slice D l.length d, .pointer (some ⟨b3, 0, none⟩)] w (fun e w' => e = .returned (.bool (l.any (oddX v))) ∧ w' = w) := by
  have HV := Lib.hid hv
  clear hv
  go_enter Try.func41, Try.ntmps41
  go_wp2_with fail
  refine (has_ints _ en_odd _ (oddX v) l D d _ hl HV.out (fun x _ => odd_any v x b _ v0 v1 hc)).mono ?_
  rintro e w2 ⟨rfl, rfl⟩
  go_wp2_with fail
  go_ret
  exact ⟨rfl, rfl⟩

set_option maxHeartbeats 2000000 in
theorem cright_any (v : Int) (cs : List (List Int)) (A : Option Addr) (c : Nat) (w : World) (hl : cs.length ≤ 140737488355328) (hls : ∀ l ∈ cs, l.length ≤ 140737488355328) (hp : Cls w w.heap.size A cs) :
    Calls Try.prog 22 #[.agg #[.int .i64 v, .slice A cs.length c]] w (Ret w (.bool (rightC v cs))) := by
  have hnot := @not_run Try.prog
  have hmf : ∀ (fn : Fn) (first cap : Array Value) (w : World), (Instr.makeFunc fn first cap).run Try.prog w = .ok (.func fn first cap) w := fun _ _ _ _ => rfl
  have B0 := (Blk.new w 24 #[.int .i64 v, .slice A cs.length c]).alloc (.cells #[.func (.func 40) #[] #[.pointer (some ⟨w.heap.size, 0, none⟩)]] 58)
  have B1 := Blk.new (w.alloc (.cells #[.int .i64 v, .slice A cs.length c] 24)) 58 #[.func (.func 40) #[] #[.pointer (some ⟨w.heap.size, 0, none⟩)]]
  rw [World.size_alloc] at B1
  have hB0 : Below w.heap.size w ((w.alloc (.cells #[.int .i64 v, .slice A cs.length c] 24)).alloc (.cells #[.func (.func 40) #[] #[.pointer (some ⟨w.heap.size, 0, none⟩)]] 58)) := ((Below.refl _ w).alloc (Nat.le_refl _) _).alloc (by simp) _
  have HP := Lib.hid hp
  have HLS := Lib.hid hls
  have HB := Lib.hid hB0
  have HK := Lib.hid B0
  have HJ := Lib.hid B1
  clear hp hls hB0 B0 B1
  by_cases v0 : 0 ≤ v
  · by_cases v1 : v ≤ 2000
    · by_cases v2 : (cs.length : Int) ≤ 100000
      · have HE : Hid (rightC v cs = !cs.any (fun l => l.any (oddX v))) := by show rightC v cs = _; unfold rightC; rw [decide_eq_true v0, decide_eq_true v1, decide_eq_true (by omega)]; rfl
        go_enter Try.func22, Try.ntmps22
        go_wp2_with fail
        refine (has_cls _ en_bad _ (fun l => l.any (oddX v)) cs A c _ hl (HP.out.after HB.out) (fun l hl' D d hv => bad_any v l D d w.heap.size (w.heap.size + 1) _ v0 v1 (HLS.out l hl') (HK.out.cell 0) (HJ.out.cell 0) hv)).mono ?_
        rintro e w2 ⟨rfl, rfl⟩
        go_wp2_with fail
        go_ret
        exact ⟨by rw [HE.out]; rfl, HB.out⟩
      · have HF : Hid (rightC v cs = false) := by show rightC v cs = false; unfold rightC; rw [decide_eq_false (p := cs.length ≤ 100000) (by omega)]; simp
        go_enter Try.func22, Try.ntmps22
        go_wp2_with fail
        go_ret
        exact ⟨by rw [HF.out]; rfl, HB.out⟩
    · have HF : Hid (rightC v cs = false) := by show rightC v cs = false; unfold rightC; rw [decide_eq_false v1]; simp
      go_enter Try.func22, Try.ntmps22
      go_wp2_with fail
      go_ret
      exact ⟨by rw [HF.out]; rfl, HB.out⟩
  · have HF : Hid (rightC v cs = false) := by show rightC v cs = false; unfold rightC; rw [decide_eq_false v0]; simp
    go_enter Try.func22, Try.ntmps22
    go_wp2_with fail
    go_ret
    exact ⟨by rw [HF.out]; rfl, HB.out⟩

end Go.Proofs.Ytbkmgblijncjhaa

namespace Go.Proofs.Ytbkmgblijncjhaa
open Go.RowKit Go

section
variable {P : Program} {ops : Array Oper} {Q : Exit → Act → World → Prop} {md : Region.Mode} {S : World → Prop}

def setAll (listed : Array Bool) (is : List Nat) : Array Bool := is.foldl (fun l i => l.setIfInBounds i true) listed

def wpMovs (P : Program) (ops : Array Oper) (S : World → Prop) : List Nat → Act → (Act → Prop) → Prop
  | [], a, K => K a
  | i :: is, a, K => ∃ o v, ops[i]? = some o ∧ YieldsIf P ops S o v a ∧ wpMovs P ops S is (a.put o.dst v) K
theorem wpMovs_mov {i : Nat} {is : List Nat} {a : Act} {K : Act → Prop} (hi : (ops[i]?).isSome = true) (h : ∀ o, ops[i]? = some o → ∃ v, YieldsIf P ops S o v a ∧ wpMovs P ops S is (a.put o.dst v) K) : wpMovs P ops S (i :: is) a K := by
  obtain ⟨o, ho⟩ := Option.isSome_iff_exists.1 hi
  obtain ⟨v, hy, h⟩ := h o ho
  exact ⟨o, v, ho, hy, h⟩
theorem wpOp_in {i : Nat} {K : Act → World → Prop} {a : Act} {w : World} (hi : (ops[i]?).isSome = true)
    (h : ∀ o, ops[i]? = some o → ∀ K' : Act → World → Prop, Shut (∀ a w, K a w → K' a w) → if Region.wanted o (yielded ops a.tmps) = true then Oper.wp P o a w K' Q else K' (a.put o.dst undef) w) : wpOp P ops Q i K a w := by
  obtain ⟨o, ho⟩ := Option.isSome_iff_exists.1 hi
  exact wpOp_step ho (fun K' hK => h o ho K' hK)
def movB (md : Region.Mode) (ops : Array Oper) : List Nat → Array Bool → Bool
  | [], _ => true
  | i :: is, listed => (Region.ready md ops listed).contains i && (Region.free md ops listed i && movB md ops is (listed.setIfInBounds i true))

theorem wpMovs_mono {K K' : Act → Prop} (h : ∀ a, K a → K' a) : ∀ (is : List Nat) (a : Act), wpMovs P ops S is a K → wpMovs P ops S is a K'
  | [], a, h' => h a h'
  | i :: is, a, ⟨o, v, h1, h2, h3⟩ => ⟨o, v, h1, h2, wpMovs_mono h is _ h3⟩
theorem wpAnyL_movs (hsel : Region.noSelect ops = true) (hQ : ∀ c a d v w, Q (.panic c) (Act.put a d v) w → Q (.panic c) a w) (n : Nat) {w : World} (hS : S w) :
    ∀ (is : List Nat) (listed : Array Bool) (a : Act), movB md ops is listed = true → wpMovs P ops S is a (fun a' => wpAnyL P md ops Q S noLate n (setAll listed is) a' w) → wpAnyL P md ops Q S noLate (is.length + n) listed a w
  | [], listed, a, _, h => by
    rw [List.length_nil, Nat.zero_add]
    exact h
  | i :: is, listed, a, hb, h => by
    obtain ⟨o, v, ho, hy, h⟩ := h
    rw [movB] at hb
    simp only [Bool.and_eq_true] at hb
    obtain ⟨hr, hfr, hb⟩ := hb
    rw [List.length_cons, Nat.add_right_comm]
    exact wpAnyL_first ho (Region.noSelect_spec hsel) (fun c a w h => hQ c a _ v w h) (fun j hj => by cases hj) (is.length + n) listed a w (Region.free_spec ho hfr) (by simpa using hr) hy hS (wpAnyL_movs hsel hQ n hS is _ _ hb h)

def subs : List Nat → List (List Nat)
  | [] => [[]]
  | d :: D => subs D ++ (subs D).map (d :: ·)
theorem filter_subs (f : Nat → Bool) : ∀ D : List Nat, D.filter f ∈ subs D
  | [] => List.mem_singleton.2 rfl
  | d :: D => by
    rw [subs, List.mem_append]
    cases h : f d
    · rw [List.filter_cons_of_neg (by simp [h])]
      exact .inl (filter_subs f D)
    · rw [List.filter_cons_of_pos (by simp [h])]
      exact .inr (List.mem_map.2 ⟨_, filter_subs f D, rfl⟩)
/-- In whatever order the bag is emptied: what is ready is what is left of it and waits for nothing that is left. -/
def bagB (md : Region.Mode) (ops : Array Oper) (D : List Nat) (pre : Nat → List Nat) (base : Array Bool) : Bool :=
  (D.all fun i => (pre i).all D.contains) && (subs D).all fun T => T == D || !(T.all fun i => (pre i).all T.contains) || (Region.ready md ops (setAll base T) != [] && (Region.ready md ops (setAll base T)).all fun i => D.contains i && (!T.contains i && (pre i).all T.contains))

theorem setAll_size (listed : Array Bool) : ∀ (is : List Nat), (setAll listed is).size = listed.size := by
  intro is
  induction is generalizing listed with
  | nil => rfl
  | cons i is ih => exact (ih _).trans (by simp)
theorem setAll_get (is : List Nat) : ∀ (listed : Array Bool) (j : Nat), (setAll listed is)[j]? = if j ∈ is ∧ j < listed.size then some true else listed[j]? := by
  induction is with
  | nil =>
    intro listed j
    rw [if_neg (fun h => by cases h.1)]
    rfl
  | cons i is ih =>
    intro listed j
    refine (ih (listed.setIfInBounds i true) j).trans ?_
    rw [Array.size_setIfInBounds, Array.getElem?_setIfInBounds]
    by_cases h1 : j ∈ is ∧ j < listed.size
    · rw [if_pos h1, if_pos ⟨List.mem_cons_of_mem _ h1.1, h1.2⟩]
    · rw [if_neg h1]
      by_cases h2 : i = j
      · subst h2
        by_cases h3 : i < listed.size
        · simp [h3]
        · rw [if_pos rfl, if_neg h3, if_neg (fun h => h3 h.2), Array.getElem?_eq_none (by omega)]
      · rw [if_neg h2, if_neg]
        rintro ⟨h3, h4⟩
        rcases List.mem_cons.1 h3 with h5 | h5
        · exact h2 h5.symm
        · exact h1 ⟨h5, h4⟩
theorem setAll_more (base : Array Bool) (D : List Nat) (f : Nat → Bool) {i : Nat} (hi : i ∈ D) : (setAll base (D.filter f)).setIfInBounds i true = setAll base (D.filter fun j => f j || j == i) := by
  apply Array.ext_getElem?
  intro j
  rw [Array.getElem?_setIfInBounds, setAll_get, setAll_get, setAll_size]
  by_cases h : i = j
  · subst h
    by_cases h3 : i < base.size
    · rw [if_pos rfl, if_pos h3, if_pos ⟨List.mem_filter.2 ⟨hi, by simp⟩, h3⟩]
    · rw [if_pos rfl, if_neg h3, if_neg (fun h => h3 h.2), Array.getElem?_eq_none (by omega)]
  · rw [if_neg h]
    have e : (j ∈ D.filter f ∧ j < base.size) ↔ (j ∈ (D.filter fun j => f j || j == i) ∧ j < base.size) := by
      simp only [List.mem_filter, Bool.or_eq_true, beq_iff_eq]
      constructor
      · rintro ⟨⟨h1, h2⟩, h3⟩
        exact ⟨⟨h1, .inl h2⟩, h3⟩
      · rintro ⟨⟨h1, h2 | h2⟩, h3⟩
        · exact ⟨⟨h1, h2⟩, h3⟩
        · exact absurd h2.symm h
    by_cases h2 : j ∈ D.filter f ∧ j < base.size
    · rw [if_pos h2, if_pos (e.1 h2)]
    · rw [if_neg h2, if_neg (fun h => h2 (e.2 h))]
theorem left_one {f : Nat → Bool} {i : Nat} : ∀ {D : List Nat}, D.Nodup → i ∈ D → f i = false → (D.filter fun j => !f j).length = (D.filter fun j => !(f j || j == i)).length + 1
  | [], _, hi, _ => by cases hi
  | d :: D, hn, hi, hf => by
    obtain ⟨h1, h2⟩ := List.nodup_cons.1 hn
    by_cases e : d = i
    · subst e
      have e2 : (D.filter fun j => !(f j || j == d)) = D.filter fun j => !f j := List.filter_congr fun j hj => by
        have : j ≠ d := fun h => h1 (h ▸ hj)
        simp [this]
      rw [List.filter_cons_of_pos (by simp [hf]), List.filter_cons_of_neg (by simp), e2]
      rfl
    · have hi' : i ∈ D := by
        rcases List.mem_cons.1 hi with h | h
        · exact absurd h.symm e
        · exact h
      have ih := left_one h2 hi' hf
      cases hd : f d
      · rw [List.filter_cons_of_pos (by simp [hd]), List.filter_cons_of_pos (by simp [hd, e]), List.length_cons, List.length_cons, ih]
      · rw [List.filter_cons_of_neg (by simp [hd]), List.filter_cons_of_neg (by simp [hd]), ih]

theorem wpAnyL_bag {D : List Nat} {pre : Nat → List Nat} {base : Array Bool} (e : Nat) (I : (Nat → Bool) → Act → World → Prop) (hD : D.Nodup) (hb : bagB md ops D pre base = true) (hS : ∀ f a w, I f a w → S w)
    (hstep : ∀ f a w i, I f a w → i ∈ D → f i = false → (∀ j ∈ pre i, f j = true) → wpOp P ops Q i (fun a' w' => I (fun j => f j || j == i) a' w') a w)
    (hend : ∀ f a w, I f a w → (∀ i ∈ D, f i = true) → wpAnyL P md ops Q S noLate e (setAll base D) a w) :
    ∀ (m : Nat) (f : Nat → Bool) (a : Act) (w : World), I f a w → (∀ i ∈ D, f i = true → ∀ j ∈ pre i, f j = true) → (D.filter fun i => !f i).length = m → wpAnyL P md ops Q S noLate (e + m) (setAll base (D.filter f)) a w := by
  intro m
  induction m with
  | zero =>
    intro f a w hI _ hm
    have hall : ∀ i ∈ D, f i = true := fun i hi => by
      have := List.eq_nil_of_length_eq_zero hm
      rw [List.filter_eq_nil_iff] at this
      simpa using this i hi
    rw [List.filter_eq_self.2 hall]
    exact hend f a w hI hall
  | succ m ih =>
    intro f a w hI hcl hm
    unfold bagB at hb
    rw [Bool.and_eq_true] at hb
    have hne : D.filter f ≠ D := fun h => by
      have hall := List.filter_eq_self.1 h
      rw [List.filter_eq_nil_iff.2 (fun i hi => by simp [hall i hi])] at hm
      cases hm
    have h1 := List.all_eq_true.1 hb.2 (D.filter f) (filter_subs f D)
    have hc : ((D.filter f).all fun i => (pre i).all (D.filter f).contains) = true := List.all_eq_true.2 fun i hi => List.all_eq_true.2 fun j hj => by
      obtain ⟨h1, h2⟩ := List.mem_filter.1 hi
      have h3 := List.all_eq_true.1 (List.all_eq_true.1 hb.1 i h1) j hj
      simp only [List.contains_iff_mem] at h3 ⊢
      exact List.mem_filter.2 ⟨h3, hcl i h1 h2 j hj⟩
    rw [hc, Bool.or_eq_true, Bool.or_eq_true, beq_iff_eq] at h1
    have h2 := h1.resolve_left (fun h => h.elim hne (fun h => by cases h))
    rw [Bool.and_eq_true] at h2
    obtain ⟨h3, h4⟩ := h2
    refine ⟨fun h => (by rw [h] at h3; simp at h3), fun i hi => ?_⟩
    have h5 := List.all_eq_true.1 h4 i hi
    simp only [Bool.and_eq_true, List.contains_iff_mem, Bool.not_eq_true', List.all_eq_true] at h5
    obtain ⟨h6, h7, h8⟩ := h5
    have hfi : f i = false := by
      cases h : f i with
      | false => rfl
      | true =>
        have h9 : i ∈ D.filter f := List.mem_filter.2 ⟨h6, h⟩
        have : (D.filter f).contains i = true := by simpa using h9
        rw [this] at h7
        cases h7
    refine wpOp_mono (fun a' w' h => ⟨fun _ => hS _ _ _ h, ?_⟩) (hstep f a w i hI h6 hfi fun j hj => (List.mem_filter.1 (h8 j hj)).2)
    rw [setAll_more base D f h6]
    refine ih _ a' w' h (fun k hk hfk j hj => ?_) ?_
    · rw [Bool.or_eq_true] at hfk ⊢
      rcases hfk with h9 | h9
      · exact .inl (hcl k hk h9 j hj)
      · have e : k = i := by simpa using h9
        subst e
        exact .inl (List.mem_filter.1 (h8 j hj)).2
    have := left_one hD h6 hfi
    omega

theorem wp_region_bag {id : Nat} {a : Act} {w : World} (S : World → Prop) (o1 D o2 movs2 : List Nat) (pre : Nat → List Nat) (I : (Nat → Bool) → Act → World → Prop) (hm : P.follows .mixedOrders = true) (hsel : Region.noSelect ops = true)
    (hn : o1.length + (o2.length + D.length) = ops.size) (hb1 : movB .any ops o1 (Array.replicate ops.size false) = true) (hDn : D.Nodup) (hb2 : bagB .any ops D pre (setAll (Array.replicate ops.size false) o1) = true)
    (hb3 : seqB .any ops (fun i => movs2.contains i) noLate true o2 (setAll (setAll (Array.replicate ops.size false) o1) D) = true)
    (hQ : ∀ c a d v w, Q (.panic c) (Act.put a d v) w → Q (.panic c) a w)
    (hS : S w.drew) (h1 : S w.drew → wpMovs P ops S o1 a (fun a' => I (fun _ => false) a' w.drew)) (hIS : ∀ f a w, I f a w → S w)
    (hstep : ∀ f a w i, I f a w → i ∈ D → f i = false → (∀ j ∈ pre i, f j = true) → wpOp P ops Q i (fun a' w' => I (fun j => f j || j == i) a' w') a w)
    (hend : ∀ f a w, I f a w → (∀ i ∈ D, f i = true) → wpSeq P ops Q S (fun i => movs2.contains i) noLate o2 a w) : (Code.region id ops true).wp P Q a w := by
  refine wp_region_any hm (wpAny_of_L (S := S) (late := noLate) _ _ _ _ ?_)
  rw [← hn]
  refine wpAnyL_movs hsel hQ (o2.length + D.length) hS o1 _ a (by rw [hn]; exact hb1) ?_
  rw [hn]
  refine wpMovs_mono (fun a' hI => ?_) o1 a (h1 hS)
  have e : setAll (Array.replicate ops.size false) o1 = setAll (setAll (Array.replicate ops.size false) o1) (D.filter fun _ => false) := by
    rw [List.filter_eq_nil_iff.2 (by simp)]
    rfl
  have hl : (D.filter fun i => !(fun _ : Nat => false) i).length = D.length := by
    rw [List.filter_eq_self.2 (by simp)]
  rw [e]
  refine wpAnyL_bag o2.length I hDn hb2 hIS hstep (fun f a w hI hall => ?_) D.length (fun _ => false) a' w.drew hI (fun i _ h => by cases h) hl
  exact wpAnyL_seq hsel (fun j hj => by cases hj) hQ o2 true _ a w hb3 (fun _ => hIS _ _ _ hI) (hend f a w hI hall)
end
end Go.Proofs.Ytbkmgblijncjhaa

set_option linter.unusedVariables false
set_option linter.unusedSimpArgs false
namespace Go.Proofs.Ytbkmgblijncjhaa
open Go.RowKit Go.Maps

def newO (o : Owns) (b : Nat) (l : Lab) : Owns := fun k => if k = b then some l else o k
section
variable {w0 W W' : World} {n i b : Nat} {x : Int} {lab : Lab} {v : Value} {o o' : Owns} {f : Nat → Bool} {vals : Nat → Value}
theorem newO_olds (hb : W.heap.size ≤ b) : Olds W o (newO o b lab) := fun k hk => if_neg (by omega)
theorem newO_at : newO o b lab b = some lab := if_pos rfl

/-- A row of n + 1 numbers, all alike. -/
def ArrV (n : Nat) (x : Int) (lab : Lab) (v : Value) (o : Owns) (W : World) : Prop := ∃ b, v = .slice (some ⟨b, 0, none⟩) (n + 1) (n + 1) ∧ ArrM W n b (List.replicate (n + 1) x) o lab
def FMd (n i : Nat) (v : Value) (o : Owns) (W : World) : Prop := match i with
  | 2 => ∃ um, v = .map (some um) ∧ o um = some .map ∧ IMap Try.prog 3 W um 0 (fun _ => none)
  | 4 => ArrV n 0 .val v o W
  | 6 => ArrV n 0 .lev v o W
  | 7 => ∃ g, v = .slice (some ⟨g, 0, none⟩) 1 1 ∧ Blk W g 3 #[.int .i64 (-1)]
  | 9 => ArrV n (-1) .rsn v o W
  | 11 => ArrV n 0 .last v o W
  | 13 => ArrV n 0 .wt v o W
  | _ => True
theorem ArrV.step (h : ArrV n x lab v o W) (hb : Below W.heap.size W W') (ho : Olds W o o') : ArrV n x lab v o' W' := by
  obtain ⟨b, e, h1⟩ := h
  exact ⟨b, e, h1.keep (hb.block b h1.blk.lt) (ho b h1.blk.lt)⟩
theorem FMd.step (h : FMd n i v o W) (hb : Below W.heap.size W W') (ho : Olds W o o') : FMd n i v o' W' := by
  unfold FMd at h ⊢
  split at h
  · obtain ⟨um, e, h1, h2⟩ := h
    exact ⟨um, e, (ho um (GMap.lt h2)).trans h1, GMap.after h2 hb⟩
  · exact h.step hb ho
  · exact h.step hb ho
  · obtain ⟨g, e, h1⟩ := h
    exact ⟨g, e, h1.below hb h1.lt⟩
  · exact h.step hb ho
  · exact h.step hb ho
  · exact h.step hb ho
  · trivial
/-- How far the parts are made. -/
structure BagS (w0 : World) (n : Nat) (f : Nat → Bool) (vals : Nat → Value) (o : Owns) (W : World) : Prop where
  ol : ∀ k l, o k = some l → w0.heap.size ≤ k ∧ k < W.heap.size
  low : Below w0.heap.size w0 W
  fm : ∀ i, f i = true → FMd n i (vals i) o W
theorem BagS.start (w0 : World) (n : Nat) : BagS w0 n (fun _ => false) (fun _ => undef) (fun _ => none) w0 := ⟨fun k l h => (by cases h), Below.refl _ _, fun i h => (by cases h)⟩
theorem BagS.put (h : BagS w0 n f vals o W) (hb : Below W.heap.size W W') (ho : Olds W o o') (hol : ∀ k l, o' k = some l → w0.heap.size ≤ k ∧ k < W'.heap.size) (hf : FMd n i v o' W') : BagS w0 n (fun j => f j || j == i) (fun j => if j = i then v else vals j) o' W' := by
  refine ⟨hol, below2 h.low h.low.size hb, fun j hj => ?_⟩
  by_cases e : j = i
  · subst e
    rw [if_pos rfl]
    exact hf
  · rw [if_neg e]
    have hj' : f j = true := by simpa [e] using hj
    exact (h.fm j hj').step hb ho
theorem BagS.label (h : BagS w0 n f vals o W) (hb : Below W.heap.size W W') (h1 : W.heap.size ≤ b) (h2 : b < W'.heap.size) : ∀ k l, newO o b lab k = some l → w0.heap.size ≤ k ∧ k < W'.heap.size := fun k l e => by
  have h3 := h.low.size
  have h4 := hb.size
  unfold newO at e
  split at e
  · omega
  · have := h.ol k l e
    omega
theorem BagS.drew (h : BagS w0 n f vals o W) : BagS w0 n f vals o W.drew := ⟨h.ol, h.low.drew, fun i hi => (h.fm i hi).step (stepD1 W) (Olds.refl _ _)⟩
/-- A row that make makes. -/
theorem BagS.make (h : BagS w0 n f vals o W) {cs : Array Value} (hcs : cs = (i64s (List.replicate (n + 1) 0)).toArray) (lab : Lab) (hi : ∀ v o W, ArrV n 0 lab v o W → FMd n i v o W) :
    BagS w0 n (fun j => f j || j == i) (fun j => if j = i then .slice (some ⟨W.heap.size, 0, none⟩) (n + 1) (n + 1) else vals j) (newO o W.heap.size lab) (W.alloc (.cells cs 3)) := by
  refine h.put (stepA W _) (newO_olds (Nat.le_refl _)) (h.label (stepA W _) (Nat.le_refl _) (by simp)) (hi _ _ _ ⟨_, rfl, ?_, by simp, newO_at⟩)
  rw [hcs]
  exact Blk.new W _ _
theorem BagS.map (h : BagS w0 n f vals o W) : BagS w0 n (fun j => f j || j == 2) (fun j => if j = 2 then .map (some W.heap.size) else vals j) (newO o W.heap.size .map) (W.alloc (.map #[] 0)) :=
  h.put (stepA W _) (newO_olds (Nat.le_refl _)) (h.label (stepA W _) (Nat.le_refl _) (by simp)) ⟨_, rfl, newO_at, IMap.made _ _ _⟩
theorem BagS.one (h : BagS w0 n f vals o W) : BagS w0 n (fun j => f j || j == 7) (fun j => if j = 7 then .slice (some ⟨W.heap.size, 0, none⟩) 1 1 else vals j) o (W.alloc (.cells #[.int .i64 (-1)] 3)) :=
  h.put (stepA W _) (Olds.refl _ _) (fun k l e => by have := h.ol k l e; simp; omega) ⟨_, rfl, Blk.new W _ _⟩
theorem BagS.rep (h : BagS w0 n f vals o W) {r : Nat} (hb : Below W.heap.size W W') (h1 : W.heap.size ≤ r) (hr : Blk W' r 3 (i64s (List.replicate (n + 1) (-1))).toArray) : BagS w0 n (fun j => f j || j == 9) (fun j => if j = 9 then .slice (some ⟨r, 0, none⟩) (n + 1) (n + 1) else vals j) (newO o r .rsn) W' :=
  h.put hb (newO_olds h1) (h.label hb h1 hr.lt) ⟨r, rfl, hr, by simp, newO_at⟩
/-- A new solver. -/
def s15 : SS := { cls := [], tr := [], lims := [], done := 0 }
def G15 (n vb lb rb ob wb um : Nat) : SG := { vb := vb, lb := lb, rb := rb, ob := ob, wb := wb, um := um, un := 0, V := List.replicate (n + 1) 0, LV := List.replicate (n + 1) 0, RV := List.replicate (n + 1) (-1), OV := List.replicate (n + 1) 0, WV := List.replicate (n + 1) 0, T := none, ct := 0, L := none, cl := 0, C := none, cc := 0, CS := [], U := fun _ => (none, 0), und := fun _ => [], wrong := 0, dead := false }
theorem smem_new {base vb lb rb ob wb um : Nat} (hol : ∀ k l, o k = some l → base ≤ k ∧ k < W.heap.size) (hbase : base ≤ W.heap.size) (hv : ArrM W n vb (List.replicate (n + 1) 0) o .val) (hl : ArrM W n lb (List.replicate (n + 1) 0) o .lev) (hr : ArrM W n rb (List.replicate (n + 1) (-1)) o .rsn) (ho : ArrM W n ob (List.replicate (n + 1) 0) o .last) (hw : ArrM W n wb (List.replicate (n + 1) 0) o .wt)
    (hmo : o um = some .map) (hm : IMap Try.prog 3 W um 0 (fun _ => none)) : SMem (W.alloc (.cells (sCells n s15 (G15 n vb lb rb ob wb um)) 68)) base W.heap.size n s15 (G15 n vb lb rb ob wb um) (newO o W.heap.size .s) := by
  have hb := stepA W (.cells (sCells n s15 (G15 n vb lb rb ob wb um)) 68)
  have hO : Olds W o (newO o W.heap.size .s) := newO_olds (Nat.le_refl _)
  have hA : ∀ {b' : Nat} {xs : List Int} {lab : Lab}, ArrM W n b' xs o lab → ArrM (W.alloc (.cells (sCells n s15 (G15 n vb lb rb ob wb um)) 68)) n b' xs (newO o W.heap.size .s) lab := fun h => h.keep (hb.block _ h.blk.lt) (hO _ h.blk.lt)
  refine ⟨Blk.new W _ _, newO_at, hA hv, hA hl, hA hr, hA ho, hA hw, World.ownsRow_nil _ _ _ _, fun k e => (by cases e), World.ownsRow_nil _ _ _ _, fun k e => (by cases e), World.ownsRow_nil _ _ _ _, fun k e => (by cases e), rfl, fun i c A h => (by cases h), ?_, (hO _ (GMap.lt hm)).trans hmo, fun x => World.ownsRow_nil _ _ _ _, fun x k e => (by cases e), fun x _ => rfl, fun k l e => ?_⟩
  · exact IMap.congr (GMap.after hm hb) fun x => rfl
  · unfold newO at e
    have := hb.size
    split at e
    · next e2 =>
      rw [e2]
      simp
      exact hbase
    · have := hol k l e
      omega
theorem srel_new (vb lb rb ob wb um : Nat) : SRel n s15 (G15 n vb lb rb ob wb um) := by
  refine ⟨fun v h1 h2 => ?_, fun i x h => (by cases h), fun i x r h => (by cases h), ⟨fun x k => ?_, fun x => Nat.zero_le _⟩⟩
  · show (List.replicate (n + 1) (0 : Int))[v]? = _
    rw [List.getElem?_replicate, if_pos (by omega)]
    rfl
  · constructor
    · intro h
      cases h
    · rintro ⟨d, h, _⟩
      cases h
theorem inv_new : Inv n [] s15 := by
  refine ⟨fun c h => (by cases h), fun c h => (by cases h), List.nodup_nil, fun x h => (by cases h), fun i x r h => (by cases h), List.Pairwise.nil, fun l h => (by cases h), fun l h => (by cases h), Nat.le_refl _, fun m _ c h => (by cases h)⟩
end
end Go.Proofs.Ytbkmgblijncjhaa

set_option linter.unusedVariables false
set_option linter.unusedSimpArgs false
namespace Go.Proofs.Ytbkmgblijncjhaa
open Go.RowKit Go.Maps

theorem en_solve : ∀ args w, (callFunc 24 args).run Try.prog w = .ok (.enter 24 args) w := fun _ _ => by
  simp [callFunc, go_sem, Try.func24, Try.f24]
/-- An assumed literal is odd: the closure. -/
theorem solve1_any (v x : Int) (b : Nat) (w : World) (v0 : 0 ≤ v) (v1 : v ≤ 2000) (hc : w.cell? ⟨b, 0, none⟩ = some (.int .i64 v)) :
    Calls Try.prog 24 #[.int .i64 x, .pointer (some ⟨b, 0, none⟩)] w (fun e w' => e = .returned (.bool (oddX v x)) ∧ w' = w) := by
  have hw : IntKind.i64.wrap (-v) = -v := IntWalk.i64_in _ (by omega)
  by_cases x0 : x = 0
  · have x0' : (x == 0) = true := by simpa using x0
    have HE : Hid (oddX v x = true) := by show oddX v x = true; unfold oddX; rw [x0']; rfl
    clear x0
    go_enter Try.func24, Try.ntmps24
    go_wp2_with fail
    go_ret
    exact ⟨by rw [HE.out]; rfl, rfl⟩
  · have x0' : (x == 0) = false := by simpa using x0
    by_cases x1 : v < x
    · have HE : Hid (oddX v x = true) := by show oddX v x = true; unfold oddX; rw [x0', decide_eq_true x1]; rfl
      clear x0
      go_enter Try.func24, Try.ntmps24
      go_wp2_with fail
      go_ret
      exact ⟨by rw [HE.out]; rfl, rfl⟩
    · by_cases x2 : x < -v
      · have HE : Hid (oddX v x = true) := by show oddX v x = true; unfold oddX; rw [x0', decide_eq_false x1, decide_eq_true x2]; rfl
        clear x0
        go_enter Try.func24, Try.ntmps24
        go_wp2_with fail
        go_ret
        exact ⟨by rw [HE.out]; rfl, rfl⟩
      · have HE : Hid (oddX v x = false) := by show oddX v x = false; unfold oddX; rw [x0', decide_eq_false x1, decide_eq_false x2]; rfl
        clear x0
        go_enter Try.func24, Try.ntmps24
        go_wp2_with fail
        go_ret
        exact ⟨by rw [HE.out]; rfl, rfl⟩

/-- The slots while the parts are made. -/
def slots15 (n q : Nat) (A : Option Addr) (cl c : Nat) (B : Option Addr) (l d : Nat) (v : Nat → Value) : Act :=
  { tmps := #[.agg #[.int .i64 (n : Int), .slice A cl c], .slice B l d, .int .i64 0, .pointer (some ⟨q, 0, none⟩), undef, undef, .slice none 0 0, .bool false, .int .i64 0, .int .i64 ((n : Int) + 1), undef, undef, undef,
      .agg #[.int .i64 (n : Int), .slice A cl c], .bool true, .bool false, .bool false, .slice B l d, .func (.func 24) #[] #[.pointer (some ⟨q, 0, none⟩)], .bool false, .bool false, .pointer (some ⟨q, 0, none⟩), .int .i64 (n : Int), .int .i64 ((n : Int) + 1),
      .pointer (some ⟨q, 0, none⟩), .int .i64 (n : Int), v 2, .int .i64 ((n : Int) + 1), v 4, .int .i64 ((n : Int) + 1), v 6, v 7, .int .i64 ((n : Int) + 1), v 9, .int .i64 ((n : Int) + 1), v 11, .int .i64 ((n : Int) + 1), v 13,
      undef, undef, undef, undef, undef, undef, undef, undef, undef, undef, undef, undef, undef, undef, undef, undef, undef, undef, undef, undef], defers := [] }
/-- A solver that is ready to run. -/
structure Ready (w W : World) (b n : Nat) (F : List (List Int)) (s : SS) (G : SG) (o : Owns) : Prop where
  m : SMem W w.heap.size b n s G o
  r : SRel n s G
  i : Inv n F s
  lims : s.lims = []
  done : s.done = 0
  dead : G.dead = true → ∀ m, ¬ SatF m F
  ne : G.dead = false → ∀ c ∈ s.cls, NE s.lits c
  keep : ∀ xs ∈ F, (∃ x ∈ xs, -x ∈ xs) ∨ normC xs ∈ s.cls
  cn : s.cls.length ≤ F.length
  un : G.un ≤ F.length * 1000000
  low : Below w.heap.size w W
  orig : ∀ c ∈ s.cls, ∃ xs ∈ F, ∀ y ∈ c, y ∈ xs
theorem low_fr {w W W' : World} {base b n : Nat} {s : SS} {G : SG} {o : Owns} (hb : base = w.heap.size) (h : SMem W base b n s G o) (hl : Below w.heap.size w W) (hf : SFr o W W') : Below w.heap.size w W' := by
  refine ⟨hf.os.trans hl.os, hf.tape.trans hl.tape, hf.output.trans hl.output, Nat.le_trans hl.size hf.size, fun k hk => (hf.block k (Nat.lt_of_lt_of_le hk hl.size) ?_).trans (hl.block k hk)⟩
  cases e : o k with
  | none => rfl
  | some l =>
    have := h.ol k l e
    omega
theorem Ready.step {w W W' : World} {b n : Nat} {F : List (List Int)} {s s' : SS} {G G' : SG} {o o' : Owns} {xs : List Int} (h : Ready w W b n F s G o) (hg : Begun W W' w.heap.size b n F s G o xs s' G' o') (hx : xs.length ≤ 1000000) : Ready w W' b n (F ++ [xs]) s' G' o' := by
  refine ⟨hg.m, hg.r, hg.i, hg.lims, hg.done, hg.dead, hg.ne, fun ys hy => ?_, ?_, ?_, low_fr rfl h.m h.low hg.fr, fun c hc => ?_⟩
  · rcases List.mem_append.1 hy with h1 | h1
    · rcases h.keep ys h1 with h2 | h2
      · exact .inl h2
      · exact .inr (hg.cls.subset h2)
    · simp at h1
      subst h1
      exact hg.keep
  · have := hg.cn
    have := h.cn
    simp
    omega
  · have := hg.un
    have := h.un
    rw [List.length_append, List.length_singleton]
    omega
  · rcases hg.orig c hc with h1 | h1
    · obtain ⟨ys, h2, h3⟩ := h.orig c h1
      exact ⟨ys, List.mem_append_left _ h2, h3⟩
    · exact ⟨xs, by simp, h1⟩
/-- Clauses that are kept are so: all are. -/
theorem SatF.of_keep {m : Nat → Bool} {F cls : List (List Int)} (h : SatF m cls) (hk : ∀ xs ∈ F, (∃ x ∈ xs, -x ∈ xs) ∨ normC xs ∈ cls) (h0 : ∀ xs ∈ F, ∀ x ∈ xs, x ≠ 0) : SatF m F := fun xs hx => by
  rcases hk xs hx with ⟨x, h1, h2⟩ | h1
  · cases e : litOn m x with
    | true => exact ⟨x, h1, e⟩
    | false => exact ⟨-x, h2, by rw [litOn_neg m (h0 xs hx x h1), e]; rfl⟩
  · obtain ⟨x, h2, h3⟩ := h _ h1
    exact ⟨x, normC_mem.1 h2, h3⟩
/-- What Solve tells of clauses that may be. -/
def SolPost (w : World) (n : Nat) (F : List (List Int)) (l : List Int) (e : Ending) (w' : World) : Prop :=
  Below w.heap.size w w' ∧ ((e = .returned (.tuple #[.slice none 0 0, .bool false, .int .i64 0]) ∧ ∀ m, SatF m F → (∀ a ∈ l, litOn m a = true) → False) ∨
  (∃ (g : Nat) (L : List Bool), e = .returned (.tuple #[.slice (some ⟨g, 0, none⟩) n n, .bool true, .int .i64 0]) ∧ w.heap.size ≤ g ∧ Blk w' g 4 (bools L).toArray ∧ L.length = n ∧ SatF (mL L) F ∧ ∀ a ∈ l, litOn (mL L) a = true))

set_option maxRecDepth 100000 in
set_option maxHeartbeats 8000000 in
theorem solve_gen (n : Nat) (cs : List (List Int)) (A : Option Addr) (c : Nat) (l : List Int) (B : Option Addr) (d : Nat) (w : World) (hr : rightC n cs = true) (ho : l.any (oddX n) = false) (hls : ∀ x ∈ cs, x.length ≤ 1000000) (hll : l.length ≤ 140737488355328) (hp : Cls w w.heap.size A cs) (hq : Vals w w.heap.size B (i64s l)) (hcc : cs.length ≤ c) (hd : l.length ≤ d)
    (hrun : ∀ W b s G o, Ready w W b n cs s G o → Calls Try.prog 27 #[.pointer (some ⟨b, 0, none⟩), .slice B l.length d, .int .i64 0] W (RunPost W n cs s o l)) :
    Calls Try.prog 11 #[.agg #[.int .i64 (n : Int), .slice A cs.length c], .slice B l.length d, .int .i64 0] w (SolPost w n cs l) := by
  have hnot := @not_run Try.prog
  have hmf : ∀ (fn : Fn) (first cap : Array Value) (w : World), (Instr.makeFunc fn first cap).run Try.prog w = .ok (.func fn first cap) w := fun _ _ _ _ => rfl
  obtain ⟨n0, n1, n2, n3⟩ := rightC_iff.1 hr
  have HN3 := Lib.hid n3
  have HRUN := Lib.hid hrun
  have HLS := Lib.hid hls
  have HP := Lib.hid hp
  have HQ := Lib.hid hq
  have HB1 := Lib.hid (stepA w (.cells #[.int .i64 (n : Int), .slice A cs.length c] 24))
  have HK1 := Lib.hid (BlkF.new w 24 #[.int .i64 (n : Int), .slice A cs.length c])
  have HRI := Lib.hid (cright_any n cs A c (w.alloc (.cells #[.int .i64 (n : Int), .slice A cs.length c] 24)) (by omega) (fun x hx => Nat.le_trans (hls x hx) (by omega)) (hp.after (stepA w _)))
  rw [hr] at HRI
  have HO := Lib.hid ho
  clear n3 hrun hls hp hq hr ho
  go_enter Try.func11, Try.ntmps11
  go_wp2_with fail
  refine HRI.out.mono ?_
  rintro e w2 ⟨rfl, hb2⟩
  have HB2 := Lib.hid (step2 HB1.out hb2)
  have HK2 := Lib.hid (HK1.out.step hb2)
  have HHA := Lib.hid (has_ints _ en_solve (some ⟨w.heap.size, 0, none⟩) (oddX n) l B d w2 hll (HQ.out.after HB2.out) (fun x hx => solve1_any n x _ _ n0 n1 (HK2.out.cell 0)))
  rw [HO.out] at HHA
  clear hb2 HRI HB1 HK1
  go_wp2_with fail
  refine HHA.out.mono ?_
  rintro e w3 ⟨rfl, hw3⟩
  have hw3' := hw3.symm
  subst hw3'
  clear hw3 HHA
  have c0 := HK2.out.cell 0
  have c1 := HK2.out.cell 1
  go_wp2_with fail
  obtain ⟨cs0, hcs0, hmk⟩ := make_zeros15 (n + 1) (by omega)
  have hmm := @run_makeMap Try.prog
  have HCZ := Lib.hid hcs0
  clear hcs0
  have hnc : ((n + 1 : Nat) : Int) = (n : Int) + 1 := by omega
  rw [hnc] at hmk
  refine wp_region_noPanic ?_
  refine wp_region_bag (fun W => W.cell? ⟨w.heap.size, 0, none⟩ = some (.int .i64 (n : Int))) [0, 1, 3, 5, 8, 10, 12] [2, 4, 6, 7, 9, 11, 13] [14, 15, 16] [14, 16] (fun i => if i = 9 then [7] else []) (fun f a W => ∃ vals o, a = slots15 n w.heap.size A cs.length c B l.length d vals ∧ BagS w2.drew n f vals o W) (by kernel_rfl) (by kernel_rfl) rfl (by kernel_rfl) (by decide) (by kernel_rfl) (by kernel_rfl) (fun _ _ _ _ _ h => h) c0 (fun hSS => ?_) ?_ ?_ ?_
  · skip
    (refine wpMovs_mov rfl ?_; intro o ho; simp only [List.getElem?_toArray, List.getElem?_cons_zero, List.getElem?_cons_succ, Option.some.injEq] at ho; subst ho; refine ⟨?_, Or.inl ⟨by rfl, fun W hSW => ?_⟩, ?_⟩; rotate_left; (focus (go_simp; first | done | with_reducible rfl)); try simp only [Act.put, List.setIfInBounds_toArray, List.set_cons_zero, List.set_cons_succ])
    (refine wpMovs_mov rfl ?_; intro o ho; simp only [List.getElem?_toArray, List.getElem?_cons_zero, List.getElem?_cons_succ, Option.some.injEq] at ho; subst ho; refine ⟨?_, Or.inl ⟨by rfl, fun W hSW => ?_⟩, ?_⟩; rotate_left; (focus (go_simp; first | done | with_reducible rfl)); try simp only [Act.put, List.setIfInBounds_toArray, List.set_cons_zero, List.set_cons_succ])
    (refine wpMovs_mov rfl ?_; intro o ho; simp only [List.getElem?_toArray, List.getElem?_cons_zero, List.getElem?_cons_succ, Option.some.injEq] at ho; subst ho; refine ⟨?_, Or.inl ⟨by rfl, fun W hSW => ?_⟩, ?_⟩; rotate_left; (focus (go_simp; first | done | with_reducible rfl)); try simp only [Act.put, List.setIfInBounds_toArray, List.set_cons_zero, List.set_cons_succ])
    (refine wpMovs_mov rfl ?_; intro o ho; simp only [List.getElem?_toArray, List.getElem?_cons_zero, List.getElem?_cons_succ, Option.some.injEq] at ho; subst ho; refine ⟨?_, Or.inl ⟨by rfl, fun W hSW => ?_⟩, ?_⟩; rotate_left; (focus (go_simp; first | done | with_reducible rfl)); try simp only [Act.put, List.setIfInBounds_toArray, List.set_cons_zero, List.set_cons_succ])
    (refine wpMovs_mov rfl ?_; intro o ho; simp only [List.getElem?_toArray, List.getElem?_cons_zero, List.getElem?_cons_succ, Option.some.injEq] at ho; subst ho; refine ⟨?_, Or.inl ⟨by rfl, fun W hSW => ?_⟩, ?_⟩; rotate_left; (focus (go_simp; first | done | with_reducible rfl)); try simp only [Act.put, List.setIfInBounds_toArray, List.set_cons_zero, List.set_cons_succ])
    (refine wpMovs_mov rfl ?_; intro o ho; simp only [List.getElem?_toArray, List.getElem?_cons_zero, List.getElem?_cons_succ, Option.some.injEq] at ho; subst ho; refine ⟨?_, Or.inl ⟨by rfl, fun W hSW => ?_⟩, ?_⟩; rotate_left; (focus (go_simp; first | done | with_reducible rfl)); try simp only [Act.put, List.setIfInBounds_toArray, List.set_cons_zero, List.set_cons_succ])
    (refine wpMovs_mov rfl ?_; intro o ho; simp only [List.getElem?_toArray, List.getElem?_cons_zero, List.getElem?_cons_succ, Option.some.injEq] at ho; subst ho; refine ⟨?_, Or.inl ⟨by rfl, fun W hSW => ?_⟩, ?_⟩; rotate_left; (focus (go_simp; first | done | with_reducible rfl)); try simp only [Act.put, List.setIfInBounds_toArray, List.set_cons_zero, List.set_cons_succ])
    exact ⟨fun _ => undef, fun _ => none, rfl, BagS.start _ _⟩
  · rintro f a W ⟨vals, o, rfl, hI⟩
    have hq : w.heap.size < w2.drew.heap.size := HK2.out.p.lt
    exact ((HK2.out.p.drew).below hI.low hq).cell 0
  · rintro f a W i ⟨vals, o, rfl, hI⟩ hi hf hp
    have HI := Lib.hid hI
    clear hI
    unfold slots15
    simp only [List.mem_cons, List.mem_nil_iff, or_false] at hi
    rcases hi with rfl | rfl | rfl | rfl | rfl | rfl | rfl
    · refine wpOp_in rfl ?_
      intro o ho
      simp only [List.getElem?_toArray, List.getElem?_cons_zero, List.getElem?_cons_succ, Option.some.injEq] at ho
      subst ho
      intro K hK
      go_simp
      refine hK.out _ _ ⟨_, _, ?_, HI.out.map⟩
      rfl
    · refine wpOp_in rfl ?_
      intro o ho
      simp only [List.getElem?_toArray, List.getElem?_cons_zero, List.getElem?_cons_succ, Option.some.injEq] at ho
      subst ho
      intro K hK
      go_simp
      refine hK.out _ _ ⟨_, _, ?_, HI.out.make HCZ.out .val (fun _ _ _ h => h)⟩
      rfl
    · refine wpOp_in rfl ?_
      intro o ho
      simp only [List.getElem?_toArray, List.getElem?_cons_zero, List.getElem?_cons_succ, Option.some.injEq] at ho
      subst ho
      intro K hK
      go_simp
      refine hK.out _ _ ⟨_, _, ?_, HI.out.make HCZ.out .lev (fun _ _ _ h => h)⟩
      rfl
    · refine wpOp_in rfl ?_
      intro o ho
      simp only [List.getElem?_toArray, List.getElem?_cons_zero, List.getElem?_cons_succ, Option.some.injEq] at ho
      subst ho
      intro K hK
      go_simp
      refine hK.out _ _ ⟨_, _, ?_, HI.out.one⟩
      rfl
    · obtain ⟨g, e7, hg⟩ := HI.out.fm 7 (hp 7 (by simp))
      have HREP := Lib.hid (repeat_one (-1) (n + 1) g W (by omega) (by omega) hg)
      rw [hnc] at HREP
      clear hg
      refine wpOp_in rfl ?_
      intro o ho
      simp only [List.getElem?_toArray, List.getElem?_cons_zero, List.getElem?_cons_succ, Option.some.injEq] at ho
      subst ho
      intro K hK
      simp only [e7]
      go_simp
      refine HREP.out.mono ?_
      rintro e W2 ⟨r, rfl, h1, hb, hr⟩
      go_simp
      refine hK.out _ _ ⟨_, _, ?_, HI.out.rep hb h1 hr⟩
      simp [slots15, Act.put, e7]
    · refine wpOp_in rfl ?_
      intro o ho
      simp only [List.getElem?_toArray, List.getElem?_cons_zero, List.getElem?_cons_succ, Option.some.injEq] at ho
      subst ho
      intro K hK
      go_simp
      refine hK.out _ _ ⟨_, _, ?_, HI.out.make HCZ.out .last (fun _ _ _ h => h)⟩
      rfl
    · refine wpOp_in rfl ?_
      intro o ho
      simp only [List.getElem?_toArray, List.getElem?_cons_zero, List.getElem?_cons_succ, Option.some.injEq] at ho
      subst ho
      intro K hK
      go_simp
      refine hK.out _ _ ⟨_, _, ?_, HI.out.make HCZ.out .wt (fun _ _ _ h => h)⟩
      rfl
  · rintro f a W ⟨vals, o, rfl, hI⟩ hall
    obtain ⟨um, e2, o2, m2⟩ := hI.fm 2 (hall 2 (by simp))
    obtain ⟨b4, e4, h4⟩ := hI.fm 4 (hall 4 (by simp))
    obtain ⟨b6, e6, h6⟩ := hI.fm 6 (hall 6 (by simp))
    obtain ⟨g7, e7, _⟩ := hI.fm 7 (hall 7 (by simp))
    obtain ⟨b9, e9, h9⟩ := hI.fm 9 (hall 9 (by simp))
    obtain ⟨b11, e11, h11⟩ := hI.fm 11 (hall 11 (by simp))
    obtain ⟨b13, e13, h13⟩ := hI.fm 13 (hall 13 (by simp))
    have HI := Lib.hid hI
    have HM := Lib.hid (And.intro o2 m2)
    have H4 := Lib.hid h4
    have H6 := Lib.hid h6
    have H9 := Lib.hid h9
    have H11 := Lib.hid h11
    have H13 := Lib.hid h13
    unfold slots15
    rw [e2, e4, e6, e7, e9, e11, e13]
    clear hI hall m2 o2 h4 h6 h9 h11 h13 e2 e4 e6 e7 e9 e11 e13 hmk hmm c0 c1 HCZ
    (refine wpSeq_mov rfl rfl ?_; intro o ho; simp only [List.getElem?_toArray, List.getElem?_cons_zero, List.getElem?_cons_succ, Option.some.injEq] at ho; subst ho; refine ⟨?_, Or.inl ⟨by rfl, fun W hSW => ?_⟩, ?_⟩; rotate_left; (focus (go_simp; first | done | with_reducible rfl)); try simp only [Act.put, List.setIfInBounds_toArray, List.set_cons_zero, List.set_cons_succ])
    (refine wpSeq_fix rfl rfl ?_; intro o ho; simp only [List.getElem?_toArray, List.getElem?_cons_zero, List.getElem?_cons_succ, Option.some.injEq] at ho; subst ho; intro K hK)
    go_simp
    have HG : Hid (Ready w _ W.heap.size n [] s15 (G15 n b4 b6 b9 b11 b13 um) _) := Lib.hid ⟨smem_new (fun k l e => by
        have h1 := HI.out.ol k l e
        have h2 := HB2.out.size
        have h3 : w2.drew.heap.size = w2.heap.size := rfl
        omega) (Nat.le_trans HB2.out.size HI.out.low.size) H4.out H6.out H9.out H11.out H13.out HM.out.1 HM.out.2, srel_new _ _ _ _ _ _, inv_new, rfl, rfl, (fun h => by cases h), (fun _ c h => by cases h), (fun xs h => by cases h), Nat.le_refl _, Nat.zero_le _, step2 (step2 HB2.out (stepD1 w2)) (step2 HI.out.low (stepA W _)), (fun c h => by cases h)⟩
    have HK4 := Lib.hid (((HK2.out.step (stepD1 w2)).step HI.out.low).step (stepA W (.cells (sCells n s15 (G15 n b4 b6 b9 b11 b13 um)) 68)))
    (refine hK.out _ _ (fun _ => HK4.out.cell 0) ?_; clear hK K; try simp only [Act.put, List.setIfInBounds_toArray, List.set_cons_zero, List.set_cons_succ])
    (refine wpSeq_mov rfl rfl ?_; intro o ho; simp only [List.getElem?_toArray, List.getElem?_cons_zero, List.getElem?_cons_succ, Option.some.injEq] at ho; subst ho; refine ⟨?_, Or.inl ⟨by rfl, fun W hSW => ?_⟩, ?_⟩; rotate_left; (focus (go_simp; first | done | with_reducible rfl)); try simp only [Act.put, List.setIfInBounds_toArray, List.set_cons_zero, List.set_cons_succ])
    refine wpSeq_done ?_
    have hsc : (sCells n s15 (G15 n b4 b6 b9 b11 b13 um)) = #[.int .i64 (n : Int), .slice none 0 0, .map (some um), .slice (some ⟨b4, 0, none⟩) (n + 1) (n + 1), .slice (some ⟨b6, 0, none⟩) (n + 1) (n + 1), .slice (some ⟨b9, 0, none⟩) (n + 1) (n + 1), .slice (some ⟨b11, 0, none⟩) (n + 1) (n + 1), .slice (some ⟨b13, 0, none⟩) (n + 1) (n + 1), .slice none 0 0, .int .i64 0, .slice none 0 0, .int .i64 0, .bool false] := rfl
    rw [← hsc]
    clear hsc HI HM H4 H6 H9 H11 H13 HK2
    generalize W.alloc (.cells (sCells n s15 (G15 n b4 b6 b9 b11 b13 um)) 68) = W3 at HG HK4 ⊢
    generalize W.heap.size = b at HG ⊢
    have k0 := HK4.out.cell 0
    have k1 := HK4.out.cell 1
    go_wp2_with fail
    clear k0 k1
    go_loopw [43] (fun iv wr => ∃ (j : Nat) (s : SS) (G : SG) (o : Owns), j ≤ cs.length ∧ iv = .int .i64 (j : Int) ∧ Ready w wr b n (cs.take j) s G o) (fun iv _ => cs.length - (intOf iv).toNat)
    case atStart => exact ⟨0, s15, _, _, Nat.zero_le _, rfl, HG.out⟩
    case round =>
      obtain ⟨j, s, G, o', hj, rfl, hR⟩ := hrel
      have HR := Lib.hid hR
      clear hR HG
      by_cases hlt : j < cs.length
      · have hlt' : (j : Int) < (cs.length : Int) := by omega
        obtain ⟨xs, hx⟩ : ∃ xs, cs[j]? = some xs := ⟨_, List.getElem?_eq_getElem hlt⟩
        obtain ⟨q, p, D, dd, rfl, _, hc, hxd, hv⟩ := (HP.out.after HR.out.low) j xs hx
        have hmem := List.mem_of_getElem? hx
        have hxl := HLS.out xs hmem
        have hjl : (cs.take j).length = j := by
          rw [List.length_take]
          omega
        have HX := Lib.hid hx
        have HBE := Lib.hid (begin_any HR.out.m HR.out.r HR.out.i HR.out.lims HR.out.done HR.out.dead HR.out.ne (by omega) hv hxd hxl (fun x hx' => by
          have := HN3.out xs hmem x hx'
          omega) (by
          have := HR.out.cn
          omega) (by
          have := HR.out.un
          rw [hjl] at this
          omega))
        clear hv hmem hx
        go_wp2_with fail
        refine HBE.out.mono ?_
        rintro e w4 ⟨rfl, s', G', o2, hbeg⟩
        have HR2 := Lib.hid (HR.out.step hbeg hxl)
        have et : cs.take j ++ [xs] = cs.take (j + 1) := by rw [List.take_add_one, HX.out]; rfl
        rw [et] at HR2
        clear hbeg HBE HR et
        go_wp2_with fail
        go_roundw
        case rel => exact ⟨j + 1, s', G', o2, by omega, by go_num, HR2.out⟩
        case measure => simp [intOf]; omega
      · have hlt' : ¬ ((j : Int) < (cs.length : Int)) := by omega
        have hjE : cs.take j = cs := List.take_of_length_le (by omega)
        rw [hjE] at HR
        have HRU := Lib.hid (HRUN.out _ b s G o' HR.out)
        clear hjE
        go_wp2_with fail
        refine HRU.out.mono ?_
        rintro e w4 (⟨rfl, hno, hf⟩ | ⟨g, L, rfl, hg, hbl, hL, hsat, hall, hf⟩)
        · have HNO := Lib.hid hno
          have HF := Lib.hid (low_fr rfl HR.out.m HR.out.low hf)
          clear hno hf HRU
          go_wp2_with fail
          go_ret3
          exact ⟨HF.out, .inl ⟨rfl, HNO.out⟩⟩
        · have HF := Lib.hid (low_fr rfl HR.out.m HR.out.low hf)
          have HL := Lib.hid (And.intro hbl (And.intro hsat hall))
          have hg' := Nat.le_trans HR.out.low.size hg
          clear hbl hsat hall hf HRU
          go_wp2_with fail
          go_ret3
          exact ⟨HF.out, .inr ⟨g, L, rfl, hg', HL.out.1, hL, HL.out.2.1.of_keep HR.out.keep (fun xs hx x hx' => (HN3.out xs hx x hx').1), HL.out.2.2⟩⟩
end Go.Proofs.Ytbkmgblijncjhaa

set_option linter.unusedVariables false
set_option linter.unusedSimpArgs false
namespace Go.Proofs.Ytbkmgblijncjhaa
open Go.RowKit Go.Maps

set_option maxRecDepth 100000 in
set_option maxHeartbeats 4000000 in
theorem solve_no (v : Int) (cs : List (List Int)) (A : Option Addr) (c : Nat) (l : List Int) (B : Option Addr) (d : Nat) (w : World) (hno : (rightC v cs && !l.any (oddX v)) = false) (hcl : cs.length ≤ 140737488355328) (hls : ∀ x ∈ cs, x.length ≤ 140737488355328) (hll : l.length ≤ 140737488355328) (hp : Cls w w.heap.size A cs) (hq : Vals w w.heap.size B (i64s l)) (u : Int) :
    Calls Try.prog 11 #[.agg #[.int .i64 v, .slice A cs.length c], .slice B l.length d, .int .i64 u] w (fun e w' => e = .returned (.tuple #[.slice none 0 0, .bool false, .int .i64 1]) ∧ Below w.heap.size w w') := by
  have hnot := @not_run Try.prog
  have hmf : ∀ (fn : Fn) (first cap : Array Value) (w : World), (Instr.makeFunc fn first cap).run Try.prog w = .ok (.func fn first cap) w := fun _ _ _ _ => rfl
  have HQ := Lib.hid hq
  have HB1 := Lib.hid (stepA w (.cells #[.int .i64 v, .slice A cs.length c] 24))
  have HK1 := Lib.hid (BlkF.new w 24 #[.int .i64 v, .slice A cs.length c])
  have HRI := Lib.hid (cright_any v cs A c (w.alloc (.cells #[.int .i64 v, .slice A cs.length c] 24)) hcl hls (hp.after (stepA w _)))
  clear hp hq hls
  cases hr : rightC v cs
  · rw [hr] at HRI
    clear hr hno
    go_enter Try.func11, Try.ntmps11
    go_wp2_with fail
    refine HRI.out.mono ?_
    rintro e w2 ⟨rfl, hb2⟩
    have HB2 := Lib.hid (step2 HB1.out hb2)
    clear hb2 HRI
    go_wp2_with fail
    go_ret3
    exact ⟨rfl, HB2.out⟩
  · have ho : l.any (oddX v) = true := by
      rw [hr] at hno
      simpa using hno
    obtain ⟨n0, n1, _, _⟩ := rightC_iff.1 hr
    rw [hr] at HRI
    have HO := Lib.hid ho
    clear hr hno ho
    go_enter Try.func11, Try.ntmps11
    go_wp2_with fail
    refine HRI.out.mono ?_
    rintro e w2 ⟨rfl, hb2⟩
    have HB2 := Lib.hid (step2 HB1.out hb2)
    have HK2 := Lib.hid (HK1.out.step hb2)
    have HHA := Lib.hid (has_ints _ en_solve (some ⟨w.heap.size, 0, none⟩) (oddX v) l B d w2 hll (HQ.out.after HB2.out) (fun x hx => solve1_any v x _ _ n0 n1 (HK2.out.cell 0)))
    rw [HO.out] at HHA
    clear hb2 HRI HB1 HK1
    go_wp2_with fail
    refine HHA.out.mono ?_
    rintro e w3 ⟨rfl, hw3⟩
    have hw3' := hw3.symm
    subst hw3'
    clear hw3 HHA
    go_wp2_with fail
    go_ret3
    exact ⟨rfl, HB2.out⟩

/-- Of few variables: what Solve tells. -/
theorem solve_any (n : Nat) (hn : n ≤ 41) (cs : List (List Int)) (A : Option Addr) (c : Nat) (l : List Int) (B : Option Addr) (d : Nat) (w : World) (hr : rightC n cs = true) (ho : l.any (oddX n) = false) (hls : ∀ x ∈ cs, x.length ≤ 1000000) (hll : l.length ≤ 140737488355328) (hp : Cls w w.heap.size A cs) (hq : Vals w w.heap.size B (i64s l)) (hcc : cs.length ≤ c) (hd : l.length ≤ d) :
    Calls Try.prog 11 #[.agg #[.int .i64 (n : Int), .slice A cs.length c], .slice B l.length d, .int .i64 0] w (SolPost w n cs l) := by
  refine solve_gen n cs A c l B d w hr ho hls hll hp hq hcc hd fun W b s G o hR => ?_
  obtain ⟨_, _, n2, _⟩ := rightC_iff.1 hr
  have hpow : 2 ^ n ≤ 2 ^ 41 := Nat.pow_le_pow_right (by omega) hn
  have hpm : 2 ^ n * (n + 1) ≤ 2 ^ 41 * 42 := Nat.mul_le_mul hpow (by omega)
  have h1 := hR.cn
  have h2 := hR.un
  refine run_any hR.m hR.r hR.i (fun p x r h => ?_) hR.dead (fun hd c hc => ?_) (fun hd c hc => by rw [hR.done]; exact (hR.ne hd c hc).w2) hR.lims (by omega) (hq.after hR.low) (fun hne k p e => ?_) hll hd (fun x hx => ?_) (by omega) (by omega)
  · rw [hR.lims] at h
    cases h
  · have hne := (hR.ne hd c hc).ne
    cases c with
    | nil => exact absurd rfl hne
    | cons y c =>
      refine ⟨y, List.mem_cons_self .., ?_⟩
      rw [hR.done]
      simp
  · obtain ⟨k', p', e', hk, _⟩ := hq 0 (.int .i64 (l.head hne)) (by
      cases l with
      | nil => exact absurd rfl hne
      | cons y l => rfl)
    rw [e] at e'
    cases e'
    cases e2 : o k with
    | none => rfl
    | some lb =>
      have := hR.m.ol k lb e2
      omega
  · have := oddX_no.1 (by simpa using List.any_eq_false.1 ho x hx)
    omega
end Go.Proofs.Ytbkmgblijncjhaa

set_option linter.unusedVariables false
set_option linter.unusedSimpArgs false
namespace Go.Proofs.Ytbkmgblijncjhaa
open Go.RowKit Go.Maps

abbrev Zs := List (Nat × List Int)
def slot (z : Nat × List Int) : Value := .slice (some ⟨z.1, 0, none⟩) z.2.length z.2.length
/-- Clauses by their blocks. -/
theorem cls_of_blks {w : World} {b : Nat} {zs : Zs} (h : Blk w b 25 (zs.map slot).toArray) (hi : ∀ z ∈ zs, Blk w z.1 3 (i64s z.2).toArray) : Cls w w.heap.size (some ⟨b, 0, none⟩) (zs.map (·.2)) := fun i x hx => by
  rw [List.getElem?_map] at hx
  obtain ⟨z, hz, rfl⟩ := Option.map_eq_some_iff.1 hx
  obtain ⟨b', o, e, hb, hc⟩ := vals_of_blk h i (slot z) (by rw [List.getElem?_map, hz]; rfl)
  exact ⟨b', o, _, _, e, hb, hc, Nat.le_refl _, vals_of_blk (hi z (List.mem_of_getElem? hz))⟩

end Go.Proofs.Ytbkmgblijncjhaa

set_option linter.unusedVariables false
set_option linter.unusedSimpArgs false
namespace Go.Proofs.Ytbkmgblijncjhaa
open Go.RowKit Go.Maps

def c15 : List (List Int) := [[1, 2], [-1]]
theorem c15_can : ∃ m, SatF m c15 := ⟨fun v => v == 2, fun c hc => by
  simp [c15] at hc
  rcases hc with rfl | rfl
  · exact ⟨2, by simp, rfl⟩
  · exact ⟨-1, by simp, rfl⟩⟩
theorem c15_is {L : List Bool} (hL : L.length = 2) (h : SatF (mL L) c15) : L = [false, true] := by
  match L, hL with
  | [a, b], _ =>
    have h1 := h [-1] (by simp [c15])
    have h2 := h [1, 2] (by simp [c15])
    simp [litOn, mL] at h1 h2
    subst h1
    simp at h2
    subst h2
    rfl
theorem c15_right : rightC ((2 : Nat) : Int) c15 = true := by decide
set_option maxRecDepth 100000 in
set_option maxHeartbeats 4000000 in
theorem awake15_any (w : World) : Calls Try.prog 10 #[] w (Ret w (.bool true)) := by
  have hnot := @not_run Try.prog
  have HSO := Lib.hid (fun (W : World) (A : Option Addr) (l : List Int) (B : Option Addr) (d : Nat) (ho : l.any (oddX ((2 : Nat) : Int)) = false) (hll : l.length ≤ d) (hlb : l.length ≤ 10) (hp : Cls W W.heap.size A c15) (hq : Vals W W.heap.size B (i64s l)) => solve_any 2 (by omega) c15 A 2 l B d W c15_right ho (fun x hx => by
    simp [c15] at hx
    rcases hx with rfl | rfl <;> simp) (by omega) hp hq (by simp [c15]) hll)
  have HSN := Lib.hid (fun (W : World) (A : Option Addr) (l : List Int) (B : Option Addr) (d : Nat) (ho : (rightC 2 c15 && !l.any (oddX 2)) = false) (hlb : l.length ≤ 10) (hp : Cls W W.heap.size A c15) (hq : Vals W W.heap.size B (i64s l)) => solve_no 2 c15 A 2 l B d W ho (by simp [c15]) (fun x hx => by
    simp [c15] at hx
    rcases hx with rfl | rfl <;> simp) (by omega) hp hq 0)
  have i1 := (((Blk.new w 3 #[.int .i64 1, .int .i64 2]).alloc (.cells #[.int .i64 (-1)] 3)).alloc (.cells #[.slice (some ⟨w.heap.size, 0, none⟩) 2 2, .slice (some ⟨w.heap.size + 1, 0, none⟩) 1 1] 25)).alloc (.cells #[.int .i64 2, .slice (some ⟨w.heap.size + 1 + 1, 0, none⟩) 2 2] 24)
  have i2 := ((Blk.new (w.alloc (.cells #[.int .i64 1, .int .i64 2] 3)) 3 #[.int .i64 (-1)]).alloc (.cells #[.slice (some ⟨w.heap.size, 0, none⟩) 2 2, .slice (some ⟨w.heap.size + 1, 0, none⟩) 1 1] 25)).alloc (.cells #[.int .i64 2, .slice (some ⟨w.heap.size + 1 + 1, 0, none⟩) 2 2] 24)
  have ou := (Blk.new ((w.alloc (.cells #[.int .i64 1, .int .i64 2] 3)).alloc (.cells #[.int .i64 (-1)] 3)) 25 #[.slice (some ⟨w.heap.size, 0, none⟩) 2 2, .slice (some ⟨w.heap.size + 1, 0, none⟩) 1 1]).alloc (.cells #[.int .i64 2, .slice (some ⟨w.heap.size + 1 + 1, 0, none⟩) 2 2] 24)
  have HK := Lib.hid (BlkF.new (((w.alloc (.cells #[.int .i64 1, .int .i64 2] 3)).alloc (.cells #[.int .i64 (-1)] 3)).alloc (.cells #[.slice (some ⟨w.heap.size, 0, none⟩) 2 2, .slice (some ⟨w.heap.size + 1, 0, none⟩) 1 1] 25)) 24 #[.int .i64 2, .slice (some ⟨w.heap.size + 1 + 1, 0, none⟩) 2 2])
  simp only [World.size_alloc] at i2 ou HK
  have hcl := cls_of_blks (zs := [(w.heap.size, [1, 2]), (w.heap.size + 1, [-1])]) ou (fun z hz => by
    simp only [List.mem_cons, List.not_mem_nil, or_false] at hz
    rcases hz with rfl | rfl
    · exact i1
    · exact i2)
  have HCL : Hid (Cls _ _ (some ⟨w.heap.size + 1 + 1, 0, none⟩) c15) := Lib.hid hcl
  have HL := Lib.hid ((((Low.refl w).step (stepA w (.cells #[.int .i64 1, .int .i64 2] 3))).step (stepA _ (.cells #[.int .i64 (-1)] 3))).step (stepA _ (.cells #[.slice (some ⟨w.heap.size, 0, none⟩) 2 2, .slice (some ⟨w.heap.size + 1, 0, none⟩) 1 1] 25)) |>.step (stepA _ (.cells #[.int .i64 2, .slice (some ⟨w.heap.size + 1 + 1, 0, none⟩) 2 2] 24)))
  clear i1 i2 ou hcl
  go_enter Try.func10, Try.ntmps10
  go_wp2_with fail
  refine (HSO.out _ (some ⟨w.heap.size + 1 + 1, 0, none⟩) [] none 0 rfl (Nat.le_refl _) (by simp) HCL.out Vals.nil).mono ?_
  rintro e w1 ⟨hb, ⟨rfl, hno⟩ | ⟨g, L, rfl, hg, hbl, hL, hsat, _⟩⟩
  · obtain ⟨m, hm⟩ := c15_can
    exact (hno m hm (fun a ha => by cases ha)).elim
  · obtain rfl := c15_is hL hsat
    have HBL : Hid (BlkF w1 g 4 #[.bool false, .bool true]) := ⟨hbl⟩
    replace HK := Lib.hid (HK.out.step hb); replace HL := Lib.hid (HL.out.step hb)
    replace HCL := Lib.hid (HCL.out.after hb)
    have k0 := HK.out.cell 0
    have k1 := HK.out.cell 1
    clear hb hg hbl hL hsat
    go_wp2_with fail
    replace HK := Lib.hid (HK.out.step (stepA w1 (.cells #[.int .i64 (-2)] 3))); replace HL := Lib.hid (HL.out.step (stepA w1 (.cells #[.int .i64 (-2)] 3))); replace HBL := Lib.hid (HBL.out.step (stepA w1 (.cells #[.int .i64 (-2)] 3)))
    replace HCL := Lib.hid (HCL.out.after (stepA w1 (.cells #[.int .i64 (-2)] 3)))
    refine (HSO.out _ (some ⟨w.heap.size + 1 + 1, 0, none⟩) [-2] (some ⟨w1.heap.size, 0, none⟩) 1 rfl (Nat.le_refl _) (by simp) HCL.out (vals_of_blk (Blk.new w1 _ (i64s [-2]).toArray))).mono ?_
    rintro e w2 ⟨hb, ⟨rfl, _⟩ | ⟨g2, L2, rfl, _, _, hL2, hsat, hall⟩⟩
    rotate_left
    · obtain rfl := c15_is hL2 hsat
      have := hall (-2) (by simp)
      simp [litOn, mL] at this
    replace HK := Lib.hid (HK.out.step hb); replace HL := Lib.hid (HL.out.step hb); replace HBL := Lib.hid (HBL.out.step hb)
    replace HCL := Lib.hid (HCL.out.after hb)
    replace k0 := HK.out.cell 0
    replace k1 := HK.out.cell 1
    clear hb
    go_wp2_with fail
    replace HK := Lib.hid (HK.out.step (stepA w2 (.cells #[.int .i64 3] 3))); replace HL := Lib.hid (HL.out.step (stepA w2 (.cells #[.int .i64 3] 3))); replace HBL := Lib.hid (HBL.out.step (stepA w2 (.cells #[.int .i64 3] 3)))
    replace HCL := Lib.hid (HCL.out.after (stepA w2 (.cells #[.int .i64 3] 3)))
    refine (HSN.out _ (some ⟨w.heap.size + 1 + 1, 0, none⟩) [3] (some ⟨w2.heap.size, 0, none⟩) 1 (by decide) (by simp) HCL.out (vals_of_blk (Blk.new w2 _ (i64s [3]).toArray))).mono ?_
    rintro e w3 ⟨rfl, hb⟩
    replace HK := Lib.hid (HK.out.step hb); replace HL := Lib.hid (HL.out.step hb); replace HBL := Lib.hid (HBL.out.step hb)
    have b0 := HBL.out.cell 0
    have b1 := HBL.out.cell 1
    clear hb k0 k1
    go_wp2_with fail
    go_ret
    exact ⟨rfl, HL.out.b⟩
end Go.Proofs.Ytbkmgblijncjhaa
