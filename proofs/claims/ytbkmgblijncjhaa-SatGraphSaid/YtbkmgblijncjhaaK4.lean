/- How many closed vectors a gate's graph has: the number, and the clauses of a graph. The clauses of a graph: what is closed under them. The clauses of a graph: so many conflicts. A graph's clauses and a model of them: plain data. -/
import Derived.Test.YtbkmgblijncjhaaK1
import Derived.Test.YtbkmgblijncjhaaK3
import Derived.Test.YtbkmgblijncjhaaK7
set_option linter.unusedVariables false
set_option linter.unusedSimpArgs false
namespace Go.Proofs.Ytbkmgblijncjhaa

/-- The pieces that are one gate alone. -/
def lone (ps : List (List Nat)) : List (List Nat) := ps.filter fun p => decide (p.length = 1)
theorem lone_yes {p : List Nat} {ps : List (List Nat)} (h : p.length = 1) : lone (p :: ps) = p :: lone ps := List.filter_cons_of_pos (by simpa using h)
theorem lone_no {p : List Nat} {ps : List (List Nat)} (h : p.length ≠ 1) : lone (p :: ps) = lone ps := List.filter_cons_of_neg (by simpa using h)
theorem sq_mul (a W B D : Nat) (hW : W * W ≤ B) (h : a * a * B ≤ D) : (a * W) * (a * W) ≤ D := by
  have e : (a * W) * (a * W) = a * a * (W * W) := by
    rw [Nat.mul_assoc, Nat.mul_left_comm W, ← Nat.mul_assoc]
  rw [e]
  exact Nat.le_trans (Nat.mul_le_mul_left _ hW) h
theorem wt0_1 (r : Nat) : wtP [] [r] = 2 := by simp [wtP1]
theorem wt0_2 (c t : Nat) : wtP [] [c, t] = 3 := by simp [wtP2]
theorem wt0_3 (c d t : Nat) : wtP [] [c, d, t] = 5 := by simp [wtP3]
theorem wt_sq : ∀ ps : List (List Nat), (∀ p ∈ ps, Formed p) → ∃ b, (lone ps).length + b = ps.flatten.length ∧ wtL [] ps * wtL [] ps ≤ 4 ^ (lone ps).length * 3 ^ b
  | [], _ => ⟨0, rfl, Nat.le_refl _⟩
  | p :: ps, h => by
    obtain ⟨b, h1, h2⟩ := wt_sq ps fun q hq => h q (List.mem_cons_of_mem _ hq)
    have hf := h p (List.mem_cons_self ..)
    match p, hf with
    | [r], _ =>
      refine ⟨b, ?_, ?_⟩
      · rw [lone_yes rfl, List.flatten_cons, List.length_append, List.length_cons, List.length_singleton]
        omega
      · rw [lone_yes rfl, List.length_cons, wtL_cons, wt0_1, Nat.pow_succ]
        refine sq_mul 2 _ _ _ h2 ?_
        rw [Nat.mul_right_comm (4 ^ _) 4]
        generalize 4 ^ (lone ps).length * 3 ^ b = X
        omega
    | [c, t], _ =>
      refine ⟨b + 2, ?_, ?_⟩
      · rw [lone_no (by simp), List.flatten_cons, List.length_append]
        show _ = 2 + _
        omega
      · rw [lone_no (by simp), wtL_cons, wt0_2, Nat.pow_add]
        refine sq_mul 3 _ _ _ h2 ?_
        rw [show 4 ^ (lone ps).length * (3 ^ b * 3 ^ 2) = 4 ^ (lone ps).length * 3 ^ b * 3 ^ 2 from (Nat.mul_assoc _ _ _).symm]
        generalize 4 ^ (lone ps).length * 3 ^ b = X
        omega
    | [c, d, t], _ =>
      refine ⟨b + 3, ?_, ?_⟩
      · rw [lone_no (by simp), List.flatten_cons, List.length_append]
        show _ = 3 + _
        omega
      · rw [lone_no (by simp), wtL_cons, wt0_3, Nat.pow_add]
        refine sq_mul 5 _ _ _ h2 ?_
        rw [show 4 ^ (lone ps).length * (3 ^ b * 3 ^ 3) = 4 ^ (lone ps).length * 3 ^ b * 3 ^ 3 from (Nat.mul_assoc _ _ _).symm]
        generalize 4 ^ (lone ps).length * 3 ^ b = X
        omega
theorem lone_one {r : Nat} : ∀ {ps : List (List Nat)}, ps.flatten.Nodup → (∀ x, [x] ∈ ps → x = r) → (lone ps).length ≤ 1
  | [], _, _ => Nat.zero_le _
  | p :: ps, hnd, h => by
    rw [List.flatten_cons, List.nodup_append] at hnd
    obtain ⟨_, h2, h3⟩ := hnd
    have ih := lone_one (ps := ps) h2 fun x hx => h x (List.mem_cons_of_mem _ hx)
    by_cases h1 : p.length = 1
    · rw [lone_yes h1]
      have : lone ps = [] := by
        refine List.eq_nil_iff_forall_not_mem.2 fun q hq => ?_
        obtain ⟨h4, h5⟩ := List.mem_filter.1 hq
        obtain ⟨x, rfl⟩ := List.length_eq_one_iff.1 h1
        obtain ⟨y, rfl⟩ := List.length_eq_one_iff.1 (of_decide_eq_true h5)
        have e1 := h x (List.mem_cons_self ..)
        have e2 := h y (List.mem_cons_of_mem _ h4)
        exact h3 x (by simp) y (List.mem_flatten.2 ⟨[y], h4, by simp⟩) (by rw [e1, e2])
      rw [this]
      exact Nat.le_refl _
    · rw [lone_no h1]
      exact ih
/-- So many gates, of which one has none above it. -/
theorem wt_num {ps : List (List Nat)} {a b : Nat} (h : wtL [] ps * wtL [] ps ≤ 4 ^ a * 3 ^ b) (ha : a ≤ 1) (hab : a + b ≤ 40) : wtL [] ps ≤ 4030000000 := by
  have h1 : 4 ^ a * 3 ^ b ≤ 4 * 3 ^ 39 := by
    have : a = 0 ∨ a = 1 := by omega
    rcases this with rfl | rfl
    · have := Nat.pow_le_pow_right (n := 3) (by omega) (show b ≤ 40 by omega)
      omega
    · have := Nat.pow_le_pow_right (n := 3) (by omega) (show b ≤ 39 by omega)
      omega
  have h2 := Nat.le_trans h h1
  generalize wtL [] ps = W at h2
  refine Nat.le_of_not_lt fun h3 => ?_
  have h4 := Nat.mul_le_mul (Nat.le_of_lt h3) (Nat.le_of_lt h3)
  have h5 := Nat.le_trans h4 h2
  revert h5
  decide
theorem flat_len {n k : Nat} {ch : Nat → Nat × Nat} {cone : Nat → Bool} {ps : List (List Nat)} (h : Fits n (n + 1 + k) ch cone ps) : ps.flatten.length ≤ k := by
  have h1 : (ps.flatten.map fun v => v - n).Nodup := List.pairwise_map.2 (List.Pairwise.imp_of_mem (fun {a b} ha hb hne e => by
    have := (h.mem a).1 ha
    have := (h.mem b).1 hb
    exact hne (by omega)) h.nd)
  have := length_le_of_nodup k _ h1 fun v hv => by
    obtain ⟨u, hu, rfl⟩ := List.mem_map.1 hv
    have := (h.mem u).1 hu
    omega
  rwa [List.length_map] at this

/-! ### A graph's clauses -/
theorem und_parent {g : Gr} {v u : Int} (h : Und g v u) : u ≠ v → ∃ (j : Nat) (p : Pr), g.as[j]? = some p ∧ Und g v (g.n + 1 + j) ∧ (u = p.1 / 2 ∨ u = p.2 / 2) := by
  induction h with
  | self v => exact fun h => absurd rfl h
  | @left j p u hp h ih =>
    intro _
    by_cases e : u = p.1 / 2
    · exact ⟨j, p, hp, .self _, .inl e⟩
    · obtain ⟨j', p', h1, h2, h3⟩ := ih e
      exact ⟨j', p', h1, .left hp h2, h3⟩
  | @right j p u hp h ih =>
    intro _
    by_cases e : u = p.2 / 2
    · exact ⟨j, p, hp, .self _, .inr e⟩
    · obtain ⟨j', p', h1, h2, h3⟩ := ih e
      exact ⟨j', p', h1, .right hp h2, h3⟩
def kids (g : Gr) (t : Nat) : Nat × Nat := match g.as[t - (g.n.toNat + 1)]? with
  | some p => ((p.1 / 2).toNat, (p.2 / 2).toNat)
  | none => (0, 0)
def coneB (g : Gr) (l : Int) (t : Nat) : Bool := (belowG g l)[t]?.getD false
theorem kids_of {g : Gr} (h0 : 0 ≤ g.n) {j : Nat} {p : Pr} (h : g.as[j]? = some p) {t : Nat} (ht : t = g.n.toNat + 1 + j) : kids g t = ((p.1 / 2).toNat, (p.2 / 2).toNat) := by
  unfold kids
  rw [show t - (g.n.toNat + 1) = j by omega, h]
theorem coneB_iff {g : Gr} {l : Int} {t : Nat} : coneB g l t = true ↔ (belowG g l)[t]? = some true := by
  unfold coneB
  cases h : (belowG g l)[t]? with
  | none => simp
  | some b => simp
theorem kids_lt {g : Gr} (hr : rightB g = true) (t : Nat) (h : g.n.toNat < t) : (kids g t).1 < t ∧ (kids g t).2 < t := by
  have h0 := (right_vars hr).1
  unfold kids
  cases e : g.as[t - (g.n.toNat + 1)]? with
  | none => exact ⟨by show 0 < t; omega, by show 0 < t; omega⟩
  | some p =>
    obtain ⟨m1, m2, m3⟩ := gate_less hr e
    constructor
    · show (p.1 / 2).toNat < t
      omega
    · show (p.2 / 2).toNat < t
      omega
/-- What is known of the pieces of a literal's gates. -/
theorem pieces_of {g : Gr} (hr : rightB g = true) {l : Int} (hl : litB g l = true) : ∃ ps, Fits g.n.toNat (g.n.toNat + 1 + g.as.length) (kids g) (coneB g l) ps ∧ (g.as.length ≤ 40 → wtL [] ps ≤ 4030000000) := by
  obtain ⟨hf, ha⟩ := pieces_ok (cone := coneB g l) (kids_lt hr) g.as.length
  generalize piecesG g.n.toNat (kids g) (coneB g l) g.as.length = ps at hf ha
  have h0 := (right_vars hr).1
  refine ⟨ps, hf, fun h40 => ?_⟩
  obtain ⟨b, h1, h2⟩ := wt_sq ps hf.formed
  have h3 := flat_len hf
  refine wt_num h2 (lone_one (r := (l / 2).toNat) hf.nd fun x hx => ?_) (by omega)
  have h4 := (hf.mem x).1 (List.mem_flatten.2 ⟨[x], hx, by simp⟩)
  by_cases e : (x : Int) = l / 2
  · omega
  · obtain ⟨j, p, h5, h6, h7⟩ := und_parent ((below_iff hr hl x).1 (coneB_iff.1 h4.2.2)) e
    obtain ⟨m1, m2, m3⟩ := gate_less hr h5
    have hj := (List.getElem?_eq_some_iff.1 h5).1
    have h8 := ha x hx (g.n.toNat + 1 + j) (by omega) (by omega) (coneB_iff.2 ((below_iff hr hl _).2 (by rw [show ((g.n.toNat + 1 + j : Nat) : Int) = g.n + 1 + j by omega]; exact h6)))
    rw [kids_of h0 h5 rfl] at h8
    rcases h7 with h7 | h7
    · exact absurd (show x = (p.1 / 2).toNat by omega) h8.1
    · exact absurd (show x = (p.2 / 2).toNat by omega) h8.2
end Go.Proofs.Ytbkmgblijncjhaa

set_option linter.unusedVariables false
set_option linter.unusedSimpArgs false
namespace Go.Proofs.Ytbkmgblijncjhaa

def Good (q : List Int) : Prop := ∀ x ∈ q, x = -1 ∨ x = 0 ∨ x = 1
theorem Good.get {q : List Int} (h : Good q) (i : Nat) : q.getD i 0 = -1 ∨ q.getD i 0 = 0 ∨ q.getD i 0 = 1 := by
  rw [List.getD_eq_getElem?_getD]
  cases e : q[i]? with
  | none => exact .inr (.inl rfl)
  | some x => exact h x (List.mem_of_getElem? e)
theorem valV_neg (v : List Int) {y : Int} (h : y ≠ 0) : valV v (-y) = -valV v y := by
  unfold valV
  rw [Int.natAbs_neg]
  split <;> split <;> omega
theorem closed2 {v : List Int} {x y : Int} (h : ClosedV v [x, y]) : valV v x = 1 ∨ valV v y = 1 ∨ (valV v x ≠ -1 ∧ valV v y ≠ -1) := by
  rcases h with ⟨z, hz, h⟩ | ⟨z, hz, u, hu, hne, h1, h2⟩
  · simp only [List.mem_cons, List.not_mem_nil, or_false] at hz
    rcases hz with rfl | rfl
    · exact .inl h
    · exact .inr (.inl h)
  · simp only [List.mem_cons, List.not_mem_nil, or_false] at hz hu
    rcases hz with rfl | rfl <;> rcases hu with rfl | rfl
    · exact absurd rfl hne
    · exact .inr (.inr ⟨h1, h2⟩)
    · exact .inr (.inr ⟨h2, h1⟩)
    · exact absurd rfl hne
theorem closed3 {v : List Int} {x y t : Int} (h : ClosedV v [x, y, t]) : valV v x = 1 ∨ valV v y = 1 ∨ valV v t = 1 ∨ (valV v x ≠ -1 ∧ valV v y ≠ -1) ∨ (valV v x ≠ -1 ∧ valV v t ≠ -1) ∨ (valV v y ≠ -1 ∧ valV v t ≠ -1) := by
  rcases h with ⟨z, hz, h⟩ | ⟨z, hz, u, hu, hne, h1, h2⟩
  · simp only [List.mem_cons, List.not_mem_nil, or_false] at hz
    rcases hz with rfl | rfl | rfl
    · exact .inl h
    · exact .inr (.inl h)
    · exact .inr (.inr (.inl h))
  · simp only [List.mem_cons, List.not_mem_nil, or_false] at hz hu
    rcases hz with rfl | rfl | rfl <;> rcases hu with rfl | rfl | rfl
    · exact absurd rfl hne
    · exact .inr (.inr (.inr (.inl ⟨h1, h2⟩)))
    · exact .inr (.inr (.inr (.inr (.inl ⟨h1, h2⟩))))
    · exact .inr (.inr (.inr (.inl ⟨h2, h1⟩)))
    · exact absurd rfl hne
    · exact .inr (.inr (.inr (.inr (.inr ⟨h1, h2⟩))))
    · exact .inr (.inr (.inr (.inr (.inl ⟨h2, h1⟩))))
    · exact .inr (.inr (.inr (.inr (.inr ⟨h2, h1⟩))))
    · exact absurd rfl hne
theorem closedV_sub {v : List Int} {c d : List Int} (h : ClosedV v c) (hs : ∀ y ∈ c, y ∈ d) : ClosedV v d := by
  rcases h with ⟨y, h1, h2⟩ | ⟨y, h1, z, h2, h3⟩
  · exact .inl ⟨y, hs y h1, h2⟩
  · exact .inr ⟨y, hs y h1, z, hs z h2, h3⟩
theorem closedV_congr {v u : List Int} {c : List Int} (h : ∀ y ∈ c, valV v y = valV u y) (hc : ClosedV v c) : ClosedV u c := by
  rcases hc with ⟨y, h1, h2⟩ | ⟨y, h1, z, h2, h3, h4, h5⟩
  · exact .inl ⟨y, h1, by rw [← h y h1]; exact h2⟩
  · exact .inr ⟨y, h1, z, h2, h3, by rw [← h y h1]; exact h4, by rw [← h z h2]; exact h5⟩
/-- The way on from so much of a vector. -/
def okP (g : Gr) (l : Int) (q : List Int) (a : Int) : Prop :=
  Good q ∧ (q.length = 0 → a = -1) ∧ (g.n.toNat < q.length → coneB g l q.length = false → a = 0) ∧ (g.n.toNat < q.length → coneB g l q.length = true → ∀ p, g.as[q.length - (g.n.toNat + 1)]? = some p → ∀ c ∈ gateC g.n (q.length - (g.n.toNat + 1)) p, ClosedV (q ++ [a]) c)
open Classical in
noncomputable def okB (g : Gr) (l : Int) (q : List Int) (a : Int) : Bool := decide (okP g l q a)
open Classical in
theorem okB_no {g : Gr} {l : Int} {q : List Int} {a : Int} (h : ¬ okP g l q a) : okB g l q a = false := by
  unfold okB
  exact decide_eq_false h
open Classical in
theorem okB_yes {g : Gr} {l : Int} {q : List Int} {a : Int} (h : okP g l q a) : okB g l q a = true := by
  unfold okB
  exact decide_eq_true h
theorem valV_pos (v : List Int) (i : Nat) : valV v ((i : Int) + 1) = v.getD i 0 := by
  unfold valV
  rw [if_neg (by omega), show ((i : Int) + 1).natAbs - 1 = i by omega]
theorem valV_litC (v : List Int) {m : Int} (h0 : 0 ≤ m) : (valV v (litC m) = 0 ↔ v.getD (m / 2).toNat 0 = 0) ∧ (valV v (litC m) = v.getD (m / 2).toNat 0 ∨ valV v (litC m) = -v.getD (m / 2).toNat 0) := by
  have e : m / 2 + 1 = (((m / 2).toNat : Nat) : Int) + 1 := by omega
  unfold litC
  split
  · rw [valV_neg v (by omega), e, valV_pos]
    exact ⟨by omega, .inr rfl⟩
  · rw [e, valV_pos]
    exact ⟨Iff.rfl, .inl rfl⟩
theorem getD_snoc_lt {q : List Int} {a : Int} {i : Nat} (h : i < q.length) : (q ++ [a]).getD i 0 = q.getD i 0 := by
  rw [List.getD_eq_getElem?_getD, List.getElem?_append_left h, ← List.getD_eq_getElem?_getD]
theorem getD_snoc_len {q : List Int} {a : Int} : (q ++ [a]).getD q.length 0 = a := by
  rw [List.getD_eq_getElem?_getD, List.getElem?_append_right (Nat.le_refl _), Nat.sub_self]
  rfl
theorem ok_opts {g : Gr} (hr : rightB g = true) (l : Int) (q : List Int) (hq : q.length < g.n.toNat + 1 + g.as.length) : (q.length = 0 → Opts (okB g l q) false) ∧ (g.n.toNat < q.length → coneB g l q.length = false → Opts (okB g l q) false) ∧ (g.n.toNat < q.length → coneB g l q.length = true → Opts (okB g l q) (star q (kids g q.length).1 && star q (kids g q.length).2)) := by
  have h0 := (right_vars hr).1
  refine ⟨fun h => ?_, fun h1 h2 => ?_, fun h1 h2 => ?_⟩
  · refine .inl ⟨okB_no fun h3 => ?_, okB_no fun h3 => ?_⟩
    · have := h3.2.1 h
      omega
    · have := h3.2.1 h
      omega
  · refine .inr (.inl ⟨okB_no fun h3 => ?_, okB_no fun h3 => ?_⟩)
    · have := h3.2.2.1 h1 h2
      omega
    · have := h3.2.2.1 h1 h2
      omega
  · obtain ⟨p, hp⟩ : ∃ p, g.as[q.length - (g.n.toNat + 1)]? = some p := ⟨_, List.getElem?_eq_getElem (by omega)⟩
    obtain ⟨m1, m2, m3⟩ := gate_less hr hp
    rw [kids_of h0 hp (by omega)]
    by_cases hG : Good q
    · obtain ⟨a1, a2⟩ := valV_litC q (m := p.1) (by omega)
      obtain ⟨b1, b2⟩ := valV_litC q (m := p.2) (by omega)
      have ga := hG.get (p.1 / 2).toNat
      have gb := hG.get (p.2 / 2).toNat
      have facts : ∀ α : Int, okP g l q α → (α = -1 ∨ valV q (litC p.1) = 1 ∨ (α ≠ 1 ∧ valV q (litC p.1) ≠ -1)) ∧ (α = -1 ∨ valV q (litC p.2) = 1 ∨ (α ≠ 1 ∧ valV q (litC p.2) ≠ -1)) ∧ (α = 1 ∨ valV q (litC p.1) = -1 ∨ valV q (litC p.2) = -1 ∨ (α ≠ -1 ∧ valV q (litC p.1) ≠ 1) ∨ (α ≠ -1 ∧ valV q (litC p.2) ≠ 1) ∨ (valV q (litC p.1) ≠ 1 ∧ valV q (litC p.2) ≠ 1)) := fun α h => by
        have h4 := h.2.2.2 h1 h2 p hp
        have eX : g.n + 1 + ((q.length - (g.n.toNat + 1) : Nat) : Int) + 1 = (q.length : Int) + 1 := by omega
        have vX : valV (q ++ [α]) ((q.length : Int) + 1) = α := by rw [valV_pos, getD_snoc_len]
        have vA : valV (q ++ [α]) (litC p.1) = valV q (litC p.1) := by
          unfold litC valV
          split <;> split <;> first | omega | (rw [getD_snoc_lt (by omega)])
        have vB : valV (q ++ [α]) (litC p.2) = valV q (litC p.2) := by
          unfold litC valV
          split <;> split <;> first | omega | (rw [getD_snoc_lt (by omega)])
        have nA : litC p.1 ≠ 0 := by unfold litC; split <;> omega
        have nB : litC p.2 ≠ 0 := by unfold litC; split <;> omega
        unfold gateC at h4
        rw [eX] at h4
        have k1 := closed2 (h4 [-((q.length : Int) + 1), litC p.1] (by simp))
        have k2 := closed2 (h4 [-((q.length : Int) + 1), litC p.2] (by simp))
        have k3 := closed3 (h4 [(q.length : Int) + 1, -litC p.1, -litC p.2] (by simp))
        rw [valV_neg _ (by omega), vX, vA] at k1
        rw [valV_neg _ (by omega), vX, vB] at k2
        rw [vX, valV_neg _ nA, valV_neg _ nB, vA, vB] at k3
        omega
      have sa : star q (p.1 / 2).toNat = true ↔ valV q (litC p.1) = 0 := by
        unfold star
        rw [beq_iff_eq, a1]
      have sb : star q (p.2 / 2).toNat = true ↔ valV q (litC p.2) = 0 := by
        unfold star
        rw [beq_iff_eq, b1]
      have va : valV q (litC p.1) = -1 ∨ valV q (litC p.1) = 0 ∨ valV q (litC p.1) = 1 := by omega
      have vb : valV q (litC p.2) = -1 ∨ valV q (litC p.2) = 0 ∨ valV q (litC p.2) = 1 := by omega
      generalize valV q (litC p.1) = a at facts sa va
      generalize valV q (litC p.2) = b at facts sb vb
      have no : ∀ α : Int, ¬ ((α = -1 ∨ a = 1 ∨ (α ≠ 1 ∧ a ≠ -1)) ∧ (α = -1 ∨ b = 1 ∨ (α ≠ 1 ∧ b ≠ -1)) ∧ (α = 1 ∨ a = -1 ∨ b = -1 ∨ (α ≠ -1 ∧ a ≠ 1) ∨ (α ≠ -1 ∧ b ≠ 1) ∨ (a ≠ 1 ∧ b ≠ 1))) → okB g l q α = false := fun α h => okB_no fun h3 => h (facts α h3)
      show Opts (okB g l q) (star q (p.1 / 2).toNat && star q (p.2 / 2).toNat)
      by_cases h00 : a = 0 ∧ b = 0
      · rw [sa.2 h00.1, sb.2 h00.2]
        show okB g l q 1 = false
        exact no 1 (by omega)
      · have e : (star q (p.1 / 2).toNat && star q (p.2 / 2).toNat) = false := by
          rw [Bool.and_eq_false_iff]
          by_cases ha : a = 0
          · exact .inr (Bool.eq_false_iff.2 fun h => h00 ⟨ha, sb.1 h⟩)
          · exact .inl (Bool.eq_false_iff.2 fun h => ha (sa.1 h))
        rw [e]
        by_cases c1 : a = -1 ∨ b = -1
        · exact .inl ⟨no 1 (by omega), no 0 (by omega)⟩
        · by_cases c2 : a = 1 ∧ b = 1
          · exact .inr (.inr ⟨no 0 (by omega), no (-1) (by omega)⟩)
          · exact .inr (.inl ⟨no 1 (by omega), no (-1) (by omega)⟩)
    · have no : ∀ α, okB g l q α = false := fun α => okB_no fun h => hG h.1
      cases star q (p.1 / 2).toNat && star q (p.2 / 2).toNat
      · exact .inl ⟨no _, no _⟩
      · exact no 1

/-- What stands in the clauses of a graph. -/
theorem mem_clausesAt {g : Gr} {l : Int} : ∀ k, k ≤ g.as.length → ∀ c, c ∈ clausesAt g l k ↔ c = [-1] ∨ ∃ (j : Nat) (p : Pr), j < k ∧ g.as[j]? = some p ∧ (belowG g l)[(g.n + 1 + j).toNat]?.getD false = true ∧ c ∈ gateC g.n j p
  | 0, _, c => by
    simp [clausesAt]
  | k + 1, hk, c => by
    have ih := mem_clausesAt (g := g) (l := l) k (by omega) c
    have hp := List.getElem?_eq_getElem (by omega : k < g.as.length)
    rw [clausesAt, hp]
    simp only
    have ex : (∃ (j : Nat) (p : Pr), j < k + 1 ∧ g.as[j]? = some p ∧ (belowG g l)[(g.n + 1 + j).toNat]?.getD false = true ∧ c ∈ gateC g.n j p) ↔ (∃ (j : Nat) (p : Pr), j < k ∧ g.as[j]? = some p ∧ (belowG g l)[(g.n + 1 + j).toNat]?.getD false = true ∧ c ∈ gateC g.n j p) ∨ ((belowG g l)[(g.n + 1 + k).toNat]?.getD false = true ∧ c ∈ gateC g.n k g.as[k]) := by
      constructor
      · rintro ⟨j, p, h1, h2, h3, h4⟩
        by_cases e : j = k
        · subst e
          rw [hp] at h2
          cases h2
          exact .inr ⟨h3, h4⟩
        · exact .inl ⟨j, p, by omega, h2, h3, h4⟩
      · rintro (⟨j, p, h1, h2⟩ | ⟨h3, h4⟩)
        · exact ⟨j, p, by omega, h2⟩
        · exact ⟨k, _, by omega, hp, h3, h4⟩
    rw [ex]
    split
    · rename_i h
      rw [List.mem_append, ih]
      constructor
      · rintro ((h1 | h1) | h1)
        · exact .inl h1
        · exact .inr (.inl h1)
        · exact .inr (.inr ⟨h, h1⟩)
      · rintro (h1 | h1 | ⟨_, h1⟩)
        · exact .inl (.inl h1)
        · exact .inl (.inr h1)
        · exact .inr h1
    · rename_i h
      rw [ih]
      constructor
      · rintro (h1 | h1)
        · exact .inl h1
        · exact .inr (.inl h1)
      · rintro (h1 | h1 | ⟨h2, _⟩)
        · exact .inl h1
        · exact .inr h1
        · exact absurd h2 h
end Go.Proofs.Ytbkmgblijncjhaa

set_option linter.unusedVariables false
set_option linter.unusedSimpArgs false
namespace Go.Proofs.Ytbkmgblijncjhaa

theorem litC_abs {m : Int} (h : 0 ≤ m) : litC m = m / 2 + 1 ∨ litC m = -(m / 2 + 1) := by
  unfold litC
  split
  · exact .inr rfl
  · exact .inl rfl
theorem take_snoc_getD {v : List Int} {i k : Nat} (hi : i < v.length) (hk : k ≤ i) : (v.take i ++ [v.getD i 0]).getD k 0 = v.getD k 0 := by
  have e : v.take i ++ [v.getD i 0] = v.take (i + 1) := by
    rw [List.take_add_one, List.getElem?_eq_getElem hi, List.getD_eq_getElem?_getD, List.getElem?_eq_getElem hi]
    rfl
  rw [e, List.getD_eq_getElem?_getD, List.getElem?_take, if_pos (by omega), ← List.getD_eq_getElem?_getD]
theorem gateC_plain {g : Gr} (hr : rightB g = true) {j : Nat} {p : Pr} (hp : g.as[j]? = some p) {c : List Int} (hc : c ∈ gateC g.n j p) : (¬ ∃ x ∈ c, -x ∈ c) ∧ ∀ y ∈ c, (y.natAbs : Int) = g.n + 1 + j + 1 ∨ (y.natAbs : Int) = p.1 / 2 + 1 ∨ (y.natAbs : Int) = p.2 / 2 + 1 := by
  have h0 := (right_vars hr).1
  obtain ⟨m1, m2, m3⟩ := gate_less hr hp
  have a1 := litC_abs (m := p.1) (by omega)
  have a2 := litC_abs (m := p.2) (by omega)
  unfold gateC at hc
  generalize litC p.1 = A at *
  generalize litC p.2 = B at *
  simp only [List.mem_cons, List.not_mem_nil, or_false] at hc
  rcases hc with rfl | rfl | rfl <;> simp only [List.mem_cons, List.not_mem_nil, or_false] <;> refine ⟨fun ⟨x, h1, h2⟩ => ?_, fun y hy => ?_⟩ <;> omega
/-- No more conflicts of a graph's clauses than so many. -/
theorem closed_many {g : Gr} (hr : rightB g = true) {l : Int} (hl : litB g l = true) (h40 : g.as.length ≤ 40) {n : Nat} (hn : (n : Int) = g.vars) {C0 : List (List Int)} (hkeep : ∀ xs ∈ clausesAt g l g.as.length, (∃ x ∈ xs, -x ∈ xs) ∨ ∃ c ∈ C0, ∀ y ∈ c, y ∈ xs) (horig : ∀ c ∈ C0, ∃ xs ∈ clausesAt g l g.as.length, ∀ y ∈ c, y ∈ xs) {A : List Int} {s : SS} {K : List (List Int)} (hK : Kd n A C0 s K) : K.length ≤ 3 ^ g.n.toNat * 4030000000 := by
  have h0 := (right_vars hr).1
  obtain ⟨ps, hf, hw⟩ := pieces_of hr hl
  have hN : n = g.n.toNat + 1 + g.as.length := by unfold Gr.vars at hn; omega
  have key := count_bound (g.n.toNat + 1 + g.as.length) (okB g l) (wtAll g.n.toNat ps) (fun q hq => wtAll_step hf (fun q hq => ok_opts hr l q hq) q hq) (fun q _ => Nat.mul_pos (Nat.pow_pos (by decide)) (wtL_pos q ps)) (g.n.toNat + 1 + g.as.length) [] K (by simp) hK.nd (fun v hv => ?_)
  · refine Nat.le_trans key ?_
    unfold wtAll
    rw [show g.n.toNat + 1 - max ([] : List Int).length 1 = g.n.toNat by simp]
    exact Nat.mul_le_mul_left _ (hw h40)
  · obtain ⟨v1, v2, v3⟩ := hK.vl v hv
    refine ⟨by omega, List.nil_prefix, v2, fun i hi => okB_yes ?_⟩
    have hlen : (v.take i).length = i := by rw [List.length_take]; omega
    have hcl : ∀ xs ∈ clausesAt g l g.as.length, (¬ ∃ x ∈ xs, -x ∈ xs) → ClosedV v xs := fun xs hx ht => by
      rcases hkeep xs hx with h | ⟨c, h1, h2⟩
      · exact absurd h ht
      · exact closedV_sub (hK.cl v hv c h1) h2
    refine ⟨fun x hx => v2 x (List.mem_of_mem_take hx), fun h => ?_, fun h1 h2 => ?_, fun h1 h2 p hp c hc => ?_⟩
    · have hi0 : i = 0 := by omega
      subst hi0
      have h1 := hcl [-1] ((mem_clausesAt _ (Nat.le_refl _) _).2 (.inl rfl)) (by
        rintro ⟨x, hx, hy⟩
        simp only [List.mem_cons, List.not_mem_nil, or_false] at hx hy
        omega)
      rcases h1 with ⟨y, hy, h2⟩ | ⟨y, hy, z, hz, hne, _⟩
      · simp only [List.mem_cons, List.not_mem_nil, or_false] at hy
        subst hy
        rw [valV_neg _ (by decide), show (1 : Int) = ((0 : Nat) : Int) + 1 from rfl, valV_pos] at h2
        omega
      · simp only [List.mem_cons, List.not_mem_nil, or_false] at hy hz
        exact absurd (hy.trans hz.symm) hne
    · rw [hlen] at h1 h2
      refine v3 i (by omega) (Bool.eq_false_iff.2 fun ho => ?_)
      unfold occ at ho
      obtain ⟨c, hc, ho⟩ := List.any_eq_true.1 ho
      obtain ⟨y, hy, ho⟩ := List.any_eq_true.1 ho
      have hyi : y.natAbs = i + 1 := by simpa using ho
      obtain ⟨xs, hx, hsub⟩ := horig c hc
      have hyx := hsub y hy
      rcases (mem_clausesAt _ (Nat.le_refl _) _).1 hx with rfl | ⟨j, p, _, hp, hm, hg⟩
      · simp only [List.mem_cons, List.not_mem_nil, or_false] at hyx
        omega
      · obtain ⟨m1, m2, m3⟩ := gate_less hr hp
        have hm' : (belowG g l)[(g.n + 1 + j).toNat]? = some true := coneB_iff.1 hm
        obtain ⟨b1, b2⟩ := below_gate hr l hp hm'
        have ht : coneB g l i = true := by
          rcases (gateC_plain hr hp hg).2 y hyx with h | h | h
          · rw [show i = (g.n + 1 + j).toNat by omega]
            exact hm
          · rw [show i = (p.1 / 2).toNat by omega]
            exact coneB_iff.2 b1
          · rw [show i = (p.2 / 2).toNat by omega]
            exact coneB_iff.2 b2
        rw [h2] at ht
        cases ht
    · rw [hlen] at h1 h2 hp hc
      obtain ⟨hpl, hab⟩ := gateC_plain hr hp hc
      obtain ⟨m1, m2, m3⟩ := gate_less hr hp
      have hj := (List.getElem?_eq_some_iff.1 hp).1
      refine closedV_congr (fun y hy => ?_) (hcl c ((mem_clausesAt _ (Nat.le_refl _) _).2 (.inr ⟨_, p, hj, hp, ?_, hc⟩)) hpl)
      · have hk : y.natAbs - 1 ≤ i := by
          rcases hab y hy with h | h | h <;> omega
        unfold valV
        rw [take_snoc_getD (by omega) hk]
      · rw [show (g.n + 1 + ((i - (g.n.toNat + 1) : Nat) : Int)).toNat = i by omega]
        exact h2
theorem many_bound {g : Gr} (hr : rightB g = true) {l : Int} (hl : litB g l = true) (h40 : g.as.length ≤ 40) (h6 : g.n ≤ 6) {n : Nat} (hn : (n : Int) = g.vars) {C0 : List (List Int)} (hkeep : ∀ xs ∈ clausesAt g l g.as.length, (∃ x ∈ xs, -x ∈ xs) ∨ ∃ c ∈ C0, ∀ y ∈ c, y ∈ xs) (horig : ∀ c ∈ C0, ∃ xs ∈ clausesAt g l g.as.length, ∀ y ∈ c, y ∈ xs) {F : List (List Int)} {A : List Int} {s : SS} (hi : Inv n F s) (hm : Many n A C0 s) : s.cls.length ≤ C0.length + 2950000000000 := by
  obtain ⟨_, _, K, z, h1, h2, h3⟩ := hm
  have h4 := closed_many hr hl h40 hn hkeep horig h1
  have h5 := hi.lvl0_le
  have h7 : 3 ^ g.n.toNat ≤ 3 ^ 6 := Nat.pow_le_pow_right (by decide) (by omega)
  have h8 := Nat.mul_le_mul_right 4030000000 h7
  have h9 : n ≤ 2000 := by have := (right_vars hr).2.2.1; omega
  omega
end Go.Proofs.Ytbkmgblijncjhaa

set_option linter.unusedVariables false
set_option linter.unusedSimpArgs false
namespace Go.Proofs.Ytbkmgblijncjhaa

/-- The inputs of a model. -/
def insOf (L : List Bool) (N : Nat) : List Bool := (L.drop 1).take N
theorem insOf_length {L : List Bool} {N : Nat} (h : N + 1 ≤ L.length) : (insOf L N).length = N := by
  unfold insOf
  rw [List.length_take, List.length_drop]
  omega
theorem insOf_succ {L : List Bool} {k : Nat} {b : Bool} (h : L[k + 1]? = some b) : insOf L (k + 1) = insOf L k ++ [b] := by
  unfold insOf
  rw [List.take_add_one, List.getElem?_drop, Nat.add_comm 1 k, h]
  rfl
theorem bitB_congr {v u : List Bool} {m : Int} (h : v[(m / 2).toNat]?.getD false = u[(m / 2).toNat]?.getD false) : bitB v m = bitB u m := by
  unfold bitB
  rw [h]
section
variable {g : Gr} {l : Int} {L : List Bool}
theorem model_gate (hr : rightB g = true) (hs : SatF (mL L) (clausesAt g l g.as.length)) {j : Nat} {p : Pr} (hp : g.as[j]? = some p) (hm : coneB g l (g.n + 1 + j).toNat = true) : L[(g.n + 1 + j).toNat]?.getD false = (bitB L p.1 && bitB L p.2) := by
  have h0 := (right_vars hr).1
  obtain ⟨m1, m2, m3⟩ := gate_less hr hp
  have hj := (List.getElem?_eq_some_iff.1 hp).1
  have hz : ∀ c ∈ gateC g.n j p, ∀ x ∈ c, x ≠ 0 := fun c hc x hx => (clausesAt_in hr l _ (Nat.le_refl _) c ((mem_clausesAt _ (Nat.le_refl _) _).2 (.inr ⟨j, p, hj, hp, hm, hc⟩)) x hx).1
  have h1 : (gateC g.n j p).any (fun c => !c.any (soX L)) = false := by
    rw [List.any_eq_false]
    intro c hc
    obtain ⟨x, hx, ho⟩ := hs c ((mem_clausesAt _ (Nat.le_refl _) _).2 (.inr ⟨j, p, hj, hp, hm, hc⟩))
    have : c.any (soX L) = true := List.any_eq_true.2 ⟨x, hx, by rw [← litOn_soX L (hz c hc x hx)]; exact ho⟩
    rw [this]
    decide
  rw [gateC_so L h0 (by omega) (by omega)] at h1
  exact bne_eq_false_iff_eq.1 h1
theorem model_vals (hr : rightB g = true) (hL : (L.length : Int) = g.vars) (hs : SatF (mL L) (clausesAt g l g.as.length)) : ∀ k, k ≤ g.as.length → ∀ i, i < g.n.toNat + 1 + k → (i ≤ g.n.toNat ∨ coneB g l i = true) → (valsAt g (insOf L g.n.toNat) k)[i]?.getD false = L[i]?.getD false
  | 0, _ => fun i hi _ => by
    have h0 := (right_vars hr).1
    rw [valsAt_zero]
    cases i with
    | zero =>
      obtain ⟨x, hx, ho⟩ := hs [-1] ((mem_clausesAt _ (Nat.le_refl _) _).2 (.inl rfl))
      simp only [List.mem_cons, List.not_mem_nil, or_false] at hx
      subst hx
      have h1 : (!mL L 1) = true := ho
      unfold mL at h1
      rw [Nat.sub_self, List.getD_eq_getElem?_getD] at h1
      show false = _
      cases e : L[0]?.getD false
      · rfl
      · rw [e] at h1
        cases h1
    | succ i =>
      show (insOf L g.n.toNat)[i]?.getD false = _
      unfold insOf
      rw [List.getElem?_take, if_pos (by omega), List.getElem?_drop, Nat.add_comm 1 i]
  | k + 1, hk => fun i hi hc => by
    have ih := model_vals hr hL hs k (by omega)
    have h0 := (right_vars hr).1
    have hlen : (insOf L g.n.toNat).length = g.n.toNat := insOf_length (by unfold Gr.vars at hL; omega)
    have hp := List.getElem?_eq_getElem (by omega : k < g.as.length)
    have hvl := valsAt_length (g := g) (xs := insOf L g.n.toNat) (k := k) (by omega)
    rw [hlen] at hvl
    rw [valsAt_succ hp]
    by_cases hik : i < g.n.toNat + 1 + k
    · rw [List.getElem?_append_left (by omega)]
      exact ih i hik hc
    · have hi' : i = (g.n + 1 + k).toNat := by omega
      have hci : coneB g l i = true := by
        rcases hc with h | h
        · omega
        · exact h
      obtain ⟨m1, m2, m3⟩ := gate_less hr hp
      obtain ⟨b1, b2⟩ := below_gate hr l hp (coneB_iff.1 (by rw [← hi']; exact hci))
      have hg := model_gate hr hs hp (by rw [← hi']; exact hci)
      rw [← hi'] at hg
      rw [List.getElem?_append_right (by omega), show i - (valsAt g (insOf L g.n.toNat) k).length = 0 by omega, hg]
      show (bitB _ _ && bitB _ _) = _
      rw [bitB_congr (ih (g.as[k].1 / 2).toNat (by omega) (.inr (coneB_iff.2 b1))), bitB_congr (ih (g.as[k].2 / 2).toNat (by omega) (.inr (coneB_iff.2 b2)))]
/-- A model makes the literal so by its inputs. -/
theorem eval_model (hr : rightB g = true) (hl : litB g l = true) (hL : (L.length : Int) = g.vars) (hs : SatF (mL L) (clausesAt g l g.as.length)) (ha : litOn (mL L) (litC l) = true) : evalG g l (insOf L g.n.toNat) = true := by
  have h0 := (right_vars hr).1
  obtain ⟨_, _, l0, l1⟩ := (litB_iff g l).1 hl
  have hlen : (insOf L g.n.toNat).length = g.n.toNat := insOf_length (by unfold Gr.vars at hL; omega)
  have hn : ((insOf L g.n.toNat).length : Int) = g.n := by omega
  have hal := allG_len (xs := insOf L g.n.toNat) hr hn
  have h1 := model_vals hr hL hs g.as.length (Nat.le_refl _) (l / 2).toNat (by omega) (.inr (coneB_iff.2 (below_self hl)))
  have hnz : litC l ≠ 0 := by unfold litC; split <;> omega
  unfold evalG
  rw [hl, allG_is hr hn, bitB_congr h1, ← (soX_lit L l0).1, ← litOn_soX L hnz, ha, ← allG_is hr hn]
  simp
  omega
theorem eval_none (hr : rightB g = true) (hl : litB g l = true) {n : Nat} (hn : (n : Int) = g.vars) (hno : ∀ m, SatF m (clausesAt g l g.as.length) → (∀ a ∈ [litC l], litOn m a = true) → False) {xs : List Bool} (hx : (xs.length : Int) = g.n) : evalG g l xs = false := by
  obtain ⟨_, _, l0, l1⟩ := (litB_iff g l).1 hl
  have hal := allG_len (xs := xs) hr hx
  have hnz : litC l ≠ 0 := by unfold litC; split <;> omega
  have hso := soC_model hr hx l
  have hR := rightC_of hr l
  rw [← hn] at hso hR
  have hs := (satF_soC (L := allG g xs) hR (by unfold Gr.vars at hn; omega)).1 hso
  refine Bool.eq_false_iff.2 fun he => hno _ hs fun a ha => ?_
  obtain rfl := List.mem_singleton.1 ha
  unfold evalG at he
  rw [Bool.and_eq_true, Bool.and_eq_true] at he
  rw [litOn_soX _ hnz, (soX_lit _ l0).1]
  exact he.2.2
end
/-- Every row of bits is a number's. -/
theorem bits_all : ∀ xs : List Bool, ∃ i : Nat, i < 2 ^ xs.length ∧ bitsG (i : Int) xs.length = xs
  | [] => ⟨0, by simp, rfl⟩
  | b :: xs => by
    obtain ⟨i, h1, h2⟩ := bits_all xs
    have hb : (if b then 1 else 0) ≤ 1 := by split <;> omega
    refine ⟨2 * i + (if b then 1 else 0), by rw [List.length_cons, Nat.pow_succ]; omega, ?_⟩
    unfold bitsG at h2 ⊢
    rw [List.length_cons, List.range_succ_eq_map, List.map_cons, List.map_map]
    congr 1
    · cases b <;> simp <;> omega
    · conv => rhs; rw [← h2]
      refine List.map_congr_left fun k _ => ?_
      show decide ((((2 * i + (if b then 1 else 0) : Nat) : Int)) / 2 ^ (k + 1) % 2 = 1) = _
      rw [Int.pow_succ, Int.mul_comm, ← Int.ediv_ediv_of_nonneg (by decide), show (((2 * i + (if b then 1 else 0) : Nat) : Int)) / 2 = (i : Int) by omega]
/-- What some inputs make. -/
def anyG (g : Gr) (l : Int) (N k : Nat) : Bool := (List.range k).any fun i => evalG g l (bitsG (i : Int) N)
theorem anyG_zero (g : Gr) (l : Int) (N : Nat) : anyG g l N 0 = false := rfl
theorem anyG_succ (g : Gr) (l : Int) (N k : Nat) : anyG g l N (k + 1) = (anyG g l N k || evalG g l (bitsG (k : Int) N)) := by
  unfold anyG
  rw [List.range_succ, List.any_append]
  simp
theorem anyG_none {g : Gr} {l : Int} {N k : Nat} (h : ∀ xs : List Bool, xs.length = N → evalG g l xs = false) : anyG g l N k = false := by
  unfold anyG
  rw [List.any_eq_false]
  intro i _
  rw [h _ (bitsG_length _ _)]
  decide
theorem anyG_some {g : Gr} {l : Int} {N : Nat} {xs : List Bool} (hx : xs.length = N) (h : evalG g l xs = true) : anyG g l N (2 ^ N) = true := by
  obtain ⟨i, h1, h2⟩ := bits_all xs
  rw [hx] at h1 h2
  exact List.any_eq_true.2 ⟨i, List.mem_range.2 h1, by rw [h2]; exact h⟩
end Go.Proofs.Ytbkmgblijncjhaa
