/- A solver of clauses: plain data. A solver of clauses: how far it has come, what a look tells, what a failing clause teaches. A solver of clauses: following, learning. -/
import Derived.WalkKit
set_option linter.unusedVariables false
set_option linter.unusedSimpArgs false
namespace Go.Proofs.Ytbkmgblijncjhaa

/-- Is a literal so, by what variables are? -/
def litOn (m : Nat → Bool) (x : Int) : Bool := if x < 0 then !m x.natAbs else m x.natAbs
theorem litOn_neg (m : Nat → Bool) {x : Int} (hx : x ≠ 0) : litOn m (-x) = !litOn m x := by
  unfold litOn
  rw [Int.natAbs_neg]
  by_cases h : x < 0
  · rw [if_pos h, if_neg (by omega), Bool.not_not]
  · rw [if_neg h, if_pos (by omega)]
/-- Are all clauses so? -/
def SatF (m : Nat → Bool) (F : List (List Int)) : Prop := ∀ c ∈ F, ∃ x ∈ c, litOn m x = true

/-- What the solver knows: clauses, the trail with reasons, where guesses stand, how much was looked at. -/
structure SS where
  cls : List (List Int)
  tr : List (Int × Int)
  lims : List Nat
  done : Nat
def SS.lits (s : SS) : List Int := s.tr.map Prod.fst
/-- What a literal is: 1, -1, or 0. -/
def valL (L : List Int) (x : Int) : Int := if x ∈ L then 1 else if -x ∈ L then -1 else 0
/-- The level of a place on the trail. -/
def levAt (lims : List Nat) (p : Nat) : Nat := lims.countP (fun l => decide (l ≤ p))

structure Inv (n : Nat) (F : List (List Int)) (s : SS) : Prop where
  rng : ∀ c ∈ s.cls, ∀ x ∈ c, x ≠ 0 ∧ x.natAbs ≤ n
  nd : ∀ c ∈ s.cls, (c.map Int.natAbs).Nodup
  tnd : (s.lits.map Int.natAbs).Nodup
  trng : ∀ x ∈ s.lits, x ≠ 0 ∧ x.natAbs ≤ n
  rs : ∀ (i : Nat) (x r : Int), s.tr[i]? = some (x, r) → (i ∈ s.lims ∧ r = -1) ∨ (i ∉ s.lims ∧ ∃ (k : Nat) (c : List Int), r = (k : Int) ∧ s.cls[k]? = some c ∧ x ∈ c ∧ ∀ y ∈ c, y ≠ x → -y ∈ s.lits.take i)
  lpw : s.lims.Pairwise (· < ·)
  llt : ∀ l ∈ s.lims, l < s.tr.length
  ldn : ∀ l ∈ s.lims, l ≤ s.done
  dn : s.done ≤ s.tr.length
  imp : ∀ m, SatF m F → SatF m s.cls
/-- Each clause has a literal that is not false, by what was looked at. -/
def Wat (s : SS) : Prop := ∀ c ∈ s.cls, ∃ y ∈ c, -y ∉ s.lits.take s.done

section
variable {n : Nat} {F : List (List Int)} {s : SS}

theorem nodup_inj {L : List Int} (h : (L.map Int.natAbs).Nodup) {i j : Nat} {x y : Int} (hi : L[i]? = some x) (hj : L[j]? = some y) (e : x.natAbs = y.natAbs) : i = j := by
  have h1 : (L.map Int.natAbs)[i]? = some x.natAbs := by rw [List.getElem?_map, hi]; rfl
  have h2 : (L.map Int.natAbs)[j]? = some x.natAbs := by rw [List.getElem?_map, hj, e]; rfl
  have hi' := (List.getElem?_eq_some_iff.1 h1).1
  have hj' := (List.getElem?_eq_some_iff.1 h2).1
  exact (List.getElem?_inj hi' h).1 (h1.trans h2.symm)
theorem Inv.lits_len (h : Inv n F s) : s.lits.length = s.tr.length := List.length_map ..
/-- A literal and it turned are not both on the trail. -/
theorem Inv.not_both (h : Inv n F s) {x : Int} (h1 : x ∈ s.lits) (h2 : -x ∈ s.lits) : False := by
  obtain ⟨i, hi⟩ := List.getElem?_of_mem h1
  obtain ⟨j, hj⟩ := List.getElem?_of_mem h2
  have e := nodup_inj h.tnd hi hj (by rw [Int.natAbs_neg])
  subst e
  rw [hi] at hj
  have h3 := (h.trng x h1).1
  have : x = -x := Option.some.inj hj
  omega
theorem valL_neg {x : Int} (hb : ¬ (x ∈ s.lits ∧ -x ∈ s.lits)) : valL s.lits (-x) = -valL s.lits x := by
  unfold valL
  rw [Int.neg_neg]
  by_cases h1 : x ∈ s.lits
  · by_cases h2 : -x ∈ s.lits
    · exact absurd ⟨h1, h2⟩ hb
    · simp [h1, h2]
  · by_cases h2 : -x ∈ s.lits <;> simp [h1, h2]
theorem length_le_of_nodup : ∀ (n : Nat) (L : List Nat), L.Nodup → (∀ v ∈ L, 1 ≤ v ∧ v ≤ n) → L.length ≤ n
  | 0, L, _, h => by
    cases L with
    | nil => exact Nat.zero_le _
    | cons a L => have := h a (List.mem_cons_self ..); omega
  | n + 1, L, hd, h => by
    have h1 := length_le_of_nodup n (L.erase (n + 1)) (hd.erase _) (fun v hv => by
      have h2 := (List.Nodup.mem_erase_iff hd).1 hv
      have := h v h2.2
      have := h2.1
      omega)
    rw [List.length_erase] at h1
    split at h1 <;> omega
/-- The trail is no longer than there are variables. -/
theorem Inv.len (h : Inv n F s) : s.tr.length ≤ n := by
  have := length_le_of_nodup n (s.lits.map Int.natAbs) h.tnd (fun v hv => by
    obtain ⟨x, hx, rfl⟩ := List.mem_map.1 hv
    have := h.trng x hx
    omega)
  rwa [List.length_map, h.lits_len] at this
theorem mem_take_iff {α : Type} {L : List α} {i : Nat} {a : α} : a ∈ L.take i ↔ ∃ j, j < i ∧ L[j]? = some a := by
  rw [List.mem_iff_getElem?]
  constructor
  · rintro ⟨j, hj⟩
    rw [List.getElem?_take] at hj
    split at hj
    · exact ⟨j, by assumption, hj⟩
    · cases hj
  · rintro ⟨j, h1, h2⟩
    exact ⟨j, by rw [List.getElem?_take, if_pos h1, h2]⟩
theorem lits_get {i : Nat} {x : Int} : s.lits[i]? = some x ↔ ∃ r, s.tr[i]? = some (x, r) := by
  unfold SS.lits
  rw [List.getElem?_map]
  constructor
  · intro h
    cases hq : s.tr[i]? with
    | none => rw [hq] at h; cases h
    | some q =>
      rw [hq] at h
      have h' : q.1 = x := Option.some.inj h
      exact ⟨q.2, by rw [← h']⟩
  · rintro ⟨r, h⟩
    rw [h]
    rfl

/-- What is on the trail holds wherever the clauses and the guesses hold. -/
theorem Inv.trail_on (h : Inv n F s) {m : Nat → Bool} (hm : SatF m s.cls) : ∀ (i : Nat), (∀ p x r, p ≤ i → p ∈ s.lims → s.tr[p]? = some (x, r) → litOn m x = true) → ∀ x r, s.tr[i]? = some (x, r) → litOn m x = true := by
  intro i
  induction i using Nat.strongRecOn with
  | ind i ih =>
    intro hg x r hi
    rcases h.rs i x r hi with ⟨h1, _⟩ | ⟨_, k, c, _, hc, hx, hf⟩
    · exact hg i x r (Nat.le_refl _) h1 hi
    · obtain ⟨y, hy, hon⟩ := hm c (List.mem_of_getElem? hc)
      by_cases e : y = x
      · rwa [← e]
      · obtain ⟨j, hj, hjy⟩ := mem_take_iff.1 (hf y hy e)
        obtain ⟨r', hr'⟩ := lits_get.1 hjy
        have h2 := ih j hj (fun p x r hp => hg p x r (by omega)) (-y) r' hr'
        rw [litOn_neg m (h.rng c (List.mem_of_getElem? hc) y hy).1, hon] at h2
        cases h2
theorem Inv.all_on (h : Inv n F s) {m : Nat → Bool} (hm : SatF m F) (hg : ∀ p x r, p ∈ s.lims → s.tr[p]? = some (x, r) → litOn m x = true) {x : Int} (hx : x ∈ s.lits) : litOn m x = true := by
  obtain ⟨i, hi⟩ := List.getElem?_of_mem hx
  obtain ⟨r, hr⟩ := lits_get.1 hi
  exact h.trail_on (h.imp m hm) i (fun p x r _ => hg p x r) x r hr
/-- A clause that fails without guesses: there is no model. -/
theorem Inv.no_model (h : Inv n F s) (hl : s.lims = []) {c : List Int} (hc : c ∈ s.cls) (hf : ∀ y ∈ c, -y ∈ s.lits) (m : Nat → Bool) : ¬ SatF m F := fun hm => by
  obtain ⟨y, hy, hon⟩ := h.imp m hm c hc
  have := h.all_on hm (fun p x r hp => by rw [hl] at hp; cases hp) (hf y hy)
  rw [litOn_neg m (h.rng c hc y hy).1, hon] at this
  cases this
/-- Guesses are assumed literals, until all these are on the trail. -/
def GInv (A : List Int) (s : SS) : Prop := ∀ p x r, p ∈ s.lims → s.tr[p]? = some (x, r) → x ∈ A ∨ ∀ a ∈ A, a ∈ s.lits.take p
theorem Inv.no_assumed (h : Inv n F s) {A : List Int} (hG : GInv A s) {a : Int} (ha : a ∈ A) (hn : -a ∈ s.lits) (m : Nat → Bool) (hm : SatF m F) (hA : ∀ a ∈ A, litOn m a = true) : False := by
  have hg : ∀ p x r, p ∈ s.lims → s.tr[p]? = some (x, r) → litOn m x = true := fun p x r hp hx => by
    rcases hG p x r hp hx with h1 | h1
    · exact hA x h1
    · exact absurd (List.mem_of_mem_take (h1 a ha)) fun h2 => h.not_both h2 hn
  have h3 := h.all_on hm hg hn
  have h4 := h.trng _ hn
  rw [litOn_neg m (by omega), hA a ha] at h3
  cases h3
/-- All are told and nothing fails: a model. -/
def modelOf (s : SS) (v : Nat) : Bool := decide ((v : Int) ∈ s.lits)
theorem Inv.on_of_mem (h : Inv n F s) {x : Int} (hx : x ∈ s.lits) : litOn (modelOf s) x = true := by
  unfold litOn modelOf
  have h0 := (h.trng x hx).1
  by_cases hn : x < 0
  · rw [if_pos hn]
    have e : ((x.natAbs : Nat) : Int) = -x := by omega
    rw [e]
    have : ¬ (-x ∈ s.lits) := fun h2 => h.not_both hx h2
    simp [this]
  · rw [if_neg hn]
    have e : ((x.natAbs : Nat) : Int) = x := by omega
    rw [e]
    simp [hx]
theorem Inv.is_model (h : Inv n F s) (hw : Wat s) (hd : s.done = s.tr.length) (hall : ∀ v : Nat, 1 ≤ v → v ≤ n → (v : Int) ∈ s.lits ∨ -(v : Int) ∈ s.lits) : SatF (modelOf s) s.cls := fun c hc => by
  obtain ⟨y, hy, hny⟩ := hw c hc
  rw [hd, ← h.lits_len, List.take_length] at hny
  have hr := h.rng c hc y hy
  refine ⟨y, hy, h.on_of_mem ?_⟩
  have h1 := hall y.natAbs (by omega) hr.2
  by_cases hn : y < 0
  · have e : ((y.natAbs : Nat) : Int) = -y := by omega
    rw [e, Int.neg_neg] at h1
    exact h1.resolve_left hny
  · have e : ((y.natAbs : Nat) : Int) = y := by omega
    rw [e] at h1
    exact h1.resolve_right hny

/-! ### Steps -/
def SS.put (s : SS) (x r : Int) : SS := { s with tr := s.tr ++ [(x, r)] }
def SS.guess (s : SS) (x : Int) : SS := { s with tr := s.tr ++ [(x, -1)], lims := s.lims ++ [s.tr.length] }
def SS.add (s : SS) (c : List Int) : SS := { s with cls := s.cls ++ [c] }
def SS.back (s : SS) (lv p : Nat) : SS := { s with tr := s.tr.take p, lims := s.lims.take lv, done := p }
def SS.adv (s : SS) : SS := { s with done := s.done + 1 }
theorem put_lits (s : SS) (x r : Int) : (s.put x r).lits = s.lits ++ [x] := by simp [SS.lits, SS.put]
theorem guess_lits (s : SS) (x : Int) : (s.guess x).lits = s.lits ++ [x] := by simp [SS.lits, SS.guess]
theorem back_lits (s : SS) (lv p : Nat) : (s.back lv p).lits = s.lits.take p := by simp [SS.lits, SS.back, List.map_take]
theorem Inv.new (h : Inv n F s) {x : Int} (hu : x ∉ s.lits) (hu2 : -x ∉ s.lits) : ((s.lits ++ [x]).map Int.natAbs).Nodup := by
  rw [List.map_append, List.nodup_append]
  refine ⟨h.tnd, by simp, fun a ha b hb e => ?_⟩
  obtain ⟨y, hy, rfl⟩ := List.mem_map.1 ha
  simp only [List.map_cons, List.map_nil, List.mem_cons, List.not_mem_nil, or_false] at hb
  subst hb
  have e2 : y = x ∨ y = -x := by omega
  rcases e2 with rfl | rfl
  · exact hu hy
  · exact hu2 hy
theorem get_snoc {α : Type} {L : List α} {a b : α} {i : Nat} (h : (L ++ [a])[i]? = some b) : (i < L.length ∧ L[i]? = some b) ∨ (i = L.length ∧ b = a) := by
  by_cases hi : i < L.length
  · rw [List.getElem?_append_left hi] at h
    exact .inl ⟨hi, h⟩
  · have := (List.getElem?_eq_some_iff.1 h).1
    simp at this
    have e : i = L.length := by omega
    subst e
    simp at h
    exact .inr ⟨rfl, h.symm⟩
theorem Inv.put (h : Inv n F s) {k : Nat} {c : List Int} {x : Int} (hc : s.cls[k]? = some c) (hx : x ∈ c) (hf : ∀ y ∈ c, y ≠ x → -y ∈ s.lits) (hu : x ∉ s.lits) (hu2 : -x ∉ s.lits) : Inv n F (s.put x (k : Int)) := by
  have hlen := h.lits_len
  refine ⟨h.rng, h.nd, by rw [put_lits]; exact h.new hu hu2, fun y hy => ?_, fun i y r hi => ?_, h.lpw, fun l hl => ?_, h.ldn, ?_, h.imp⟩
  · rw [put_lits] at hy
    rcases List.mem_append.1 hy with h1 | h1
    · exact h.trng y h1
    · obtain rfl : y = x := by simpa using h1
      exact h.rng c (List.mem_of_getElem? hc) y hx
  · rw [put_lits]
    rcases get_snoc hi with ⟨h1, h2⟩ | ⟨h1, h2⟩
    · rw [List.take_append_of_le_length (by omega)]
      exact h.rs i y r h2
    · cases h2
      subst h1
      refine .inr ⟨fun h3 => absurd (h.llt _ h3) (Nat.lt_irrefl _), k, c, rfl, hc, hx, fun y hy hne => ?_⟩
      rw [List.take_append_of_le_length (by omega), ← hlen, List.take_length]
      exact hf y hy hne
  · have := h.llt l hl
    simp [SS.put]
    omega
  · have := h.dn
    simp [SS.put]
    omega
theorem Inv.guess (h : Inv n F s) (hd : s.done = s.tr.length) {x : Int} (h0 : x ≠ 0) (hx : x.natAbs ≤ n) (hu : x ∉ s.lits) (hu2 : -x ∉ s.lits) : Inv n F (s.guess x) := by
  have hlen := h.lits_len
  refine ⟨h.rng, h.nd, by rw [guess_lits]; exact h.new hu hu2, fun y hy => ?_, fun i y r hi => ?_, ?_, fun l hl => ?_, fun l hl => ?_, ?_, h.imp⟩
  · rw [guess_lits] at hy
    rcases List.mem_append.1 hy with h1 | h1
    · exact h.trng y h1
    · obtain rfl : y = x := by simpa using h1
      exact ⟨h0, hx⟩
  · rw [guess_lits]
    rcases get_snoc hi with ⟨h1, h2⟩ | ⟨h1, h2⟩
    · rw [List.take_append_of_le_length (by omega)]
      rcases h.rs i y r h2 with ⟨h3, h4⟩ | ⟨h3, h4⟩
      · exact .inl ⟨List.mem_append.2 (.inl h3), h4⟩
      · refine .inr ⟨fun h5 => ?_, h4⟩
        rcases List.mem_append.1 h5 with h6 | h6
        · exact h3 h6
        · have : i = s.tr.length := by simpa using h6
          omega
    · cases h2
      subst h1
      exact .inl ⟨List.mem_append.2 (.inr (by simp)), rfl⟩
  · show (s.lims ++ [s.tr.length]).Pairwise (· < ·)
    rw [List.pairwise_append]
    exact ⟨h.lpw, by simp, fun a ha b hb => by
      have := h.llt a ha
      have : b = s.tr.length := by simpa using hb
      omega⟩
  · show l < (s.tr ++ [(x, -1)]).length
    rw [List.length_append]
    rcases List.mem_append.1 hl with h1 | h1
    · have := h.llt l h1
      simp
      omega
    · have : l = s.tr.length := by simpa using h1
      simp
      omega
  · show l ≤ s.done
    rcases List.mem_append.1 hl with h1 | h1
    · exact h.ldn l h1
    · have : l = s.tr.length := by simpa using h1
      omega
  · show s.done ≤ (s.tr ++ [(x, -1)]).length
    simp
    omega
theorem Inv.adv (h : Inv n F s) (hd : s.done < s.tr.length) : Inv n F s.adv :=
  ⟨h.rng, h.nd, h.tnd, h.trng, h.rs, h.lpw, h.llt, fun l hl => Nat.le_succ_of_le (h.ldn l hl), hd, h.imp⟩
theorem Inv.add (h : Inv n F s) {c : List Int} (h1 : ∀ x ∈ c, x ≠ 0 ∧ x.natAbs ≤ n) (h2 : (c.map Int.natAbs).Nodup) (h3 : ∀ m, SatF m F → ∃ x ∈ c, litOn m x = true) : Inv n F (s.add c) := by
  refine ⟨fun d hd => ?_, fun d hd => ?_, h.tnd, h.trng, fun i x r hi => ?_, h.lpw, h.llt, h.ldn, h.dn, fun m hm d hd => ?_⟩
  · rcases List.mem_append.1 hd with h4 | h4
    · exact h.rng d h4
    · obtain rfl : d = c := by simpa using h4
      exact h1
  · rcases List.mem_append.1 hd with h4 | h4
    · exact h.nd d h4
    · obtain rfl : d = c := by simpa using h4
      exact h2
  · rcases h.rs i x r hi with h4 | ⟨h4, k, d, h5, h6, h7⟩
    · exact .inl h4
    · refine .inr ⟨h4, k, d, h5, ?_, h7⟩
      show (s.cls ++ [c])[k]? = some d
      rw [List.getElem?_append_left (List.getElem?_eq_some_iff.1 h6).1]
      exact h6
  · rcases List.mem_append.1 hd with h4 | h4
    · exact h.imp m hm d h4
    · obtain rfl : d = c := by simpa using h4
      exact h3 m hm
theorem pw_lt {L : List Nat} (h : L.Pairwise (· < ·)) {i j : Nat} {a b : Nat} (hi : L[i]? = some a) (hj : L[j]? = some b) : i < j ↔ a < b := by
  obtain ⟨hi', rfl⟩ := List.getElem?_eq_some_iff.1 hi
  obtain ⟨hj', rfl⟩ := List.getElem?_eq_some_iff.1 hj
  have hp := List.pairwise_iff_getElem.1 h
  constructor
  · exact fun h1 => hp i j hi' hj' h1
  · intro h1
    rcases Nat.lt_trichotomy i j with h2 | h2 | h2
    · exact h2
    · subst h2
      omega
    · have := hp j i hj' hi' h2
      omega
theorem Inv.back (h : Inv n F s) {lv p : Nat} (hp : s.lims[lv]? = some p) : Inv n F (s.back lv p) := by
  have hpm := List.mem_of_getElem? hp
  have hpl := h.llt p hpm
  have hsub : ∀ l, l ∈ s.lims.take lv ↔ l ∈ s.lims ∧ l < p := fun l => by
    rw [mem_take_iff]
    constructor
    · rintro ⟨j, hj, hjl⟩
      exact ⟨List.mem_of_getElem? hjl, (pw_lt h.lpw hjl hp).1 hj⟩
    · rintro ⟨h1, h2⟩
      obtain ⟨j, hj⟩ := List.getElem?_of_mem h1
      exact ⟨j, (pw_lt h.lpw hj hp).2 h2, hj⟩
  refine ⟨h.rng, h.nd, ?_, fun x hx => ?_, fun i x r hi => ?_, h.lpw.sublist (List.take_sublist _ _), fun l hl => ?_, fun l hl => ?_, ?_, h.imp⟩
  · rw [back_lits, List.map_take]
    exact h.tnd.sublist (List.take_sublist _ _)
  · rw [back_lits] at hx
    exact h.trng x (List.mem_of_mem_take hx)
  · rw [back_lits]
    have hi' : (s.tr.take p)[i]? = some (x, r) := hi
    rw [List.getElem?_take] at hi'
    split at hi'
    · next hip =>
      rw [List.take_take, Nat.min_eq_left (by omega)]
      rcases h.rs i x r hi' with ⟨h1, h2⟩ | ⟨h1, h2⟩
      · exact .inl ⟨(hsub i).2 ⟨h1, hip⟩, h2⟩
      · exact .inr ⟨fun h3 => h1 ((hsub i).1 h3).1, h2⟩
    · cases hi'
  · have := ((hsub l).1 hl).2
    show l < (s.tr.take p).length
    rw [List.length_take]
    omega
  · exact Nat.le_of_lt ((hsub l).1 hl).2
  · show p ≤ (s.tr.take p).length
    rw [List.length_take]
    omega
end
end Go.Proofs.Ytbkmgblijncjhaa

set_option linter.unusedVariables false
set_option linter.unusedSimpArgs false
namespace Go.Proofs.Ytbkmgblijncjhaa

/-! ### How far it has come -/
def phiL : Nat → List Bool → Nat
  | _, [] => 0
  | 0, _ :: _ => 0
  | n + 1, b :: l => (if b then 2 ^ n else 0) + phiL n l
theorem phiL_lt : ∀ (n : Nat) (l : List Bool), phiL n l < 2 ^ n
  | 0, [] => by decide
  | n + 1, [] => Nat.two_pow_pos _
  | 0, _ :: _ => Nat.zero_lt_one
  | n + 1, b :: l => by
    have := phiL_lt n l
    have e : 2 ^ (n + 1) = 2 ^ n + 2 ^ n := by rw [Nat.pow_succ]; omega
    simp only [phiL]
    split <;> omega
theorem phiL_app : ∀ (n : Nat) (l : List Bool) (b : Bool), l.length < n → phiL n (l ++ [b]) = phiL n l + (if b then 2 ^ (n - 1 - l.length) else 0)
  | 0, l, b, h => by omega
  | n + 1, [], b, h => by
    cases n <;> simp [phiL]
  | n + 1, a :: l, b, h => by
    have := phiL_app n l b (by simpa using h)
    simp only [List.cons_append, phiL, this, List.length_cons]
    have e : n + 1 - 1 - (l.length + 1) = n - 1 - l.length := by omega
    rw [e]
    omega
theorem phiL_flip : ∀ (n : Nat) (a b : List Bool), (a ++ false :: b).length ≤ n → phiL n (a ++ false :: b) < phiL n (a ++ [true])
  | 0, a, b, h => by simp at h
  | n + 1, [], b, h => by
    have := phiL_lt n b
    simp only [List.nil_append, phiL]
    cases n <;> simp [phiL] at this ⊢ <;> omega
  | n + 1, x :: a, b, h => by
    have := phiL_flip n a b (by simpa using h)
    simp only [List.cons_append, phiL]
    omega

section
variable {n : Nat} {F : List (List Int)} {s : SS}
def SS.marks (s : SS) : List Bool := (List.range s.tr.length).map fun i => decide (i ∉ s.lims)
def SS.phi (n : Nat) (s : SS) : Nat := phiL n s.marks
theorem marks_len : s.marks.length = s.tr.length := by simp [SS.marks]
theorem marks_put (x r : Int) (h : ∀ l ∈ s.lims, l < s.tr.length) : (s.put x r).marks = s.marks ++ [true] := by
  unfold SS.marks SS.put
  simp only [List.length_append, List.length_cons, List.length_nil, Nat.zero_add, List.range_succ, List.map_append, List.map_cons, List.map_nil]
  congr 2
  simp only [decide_eq_true_eq]
  intro hm
  exact Nat.lt_irrefl _ (h _ hm)
theorem marks_guess (x : Int) : (s.guess x).marks = s.marks ++ [false] := by
  unfold SS.marks SS.guess
  simp only [List.length_append, List.length_cons, List.length_nil, Nat.zero_add, List.range_succ, List.map_append, List.map_cons, List.map_nil]
  congr 1
  · apply List.map_congr_left
    intro i hi
    have := List.mem_range.1 hi
    congr 1
    simp only [List.mem_append, List.mem_cons, List.not_mem_nil, or_false, eq_iff_iff]
    constructor
    · exact fun h1 h2 => h1 (.inl h2)
    · intro h1 h2
      rcases h2 with h2 | h2
      · exact h1 h2
      · omega
  · simp
theorem Inv.marks_back (h : Inv n F s) {lv p : Nat} (hp : s.lims[lv]? = some p) : (s.back lv p).marks = s.marks.take p := by
  have hpl := h.llt p (List.mem_of_getElem? hp)
  unfold SS.marks SS.back
  simp only [List.length_take]
  rw [← List.map_take, List.take_range, Nat.min_comm p]
  apply List.map_congr_left
  intro i hi
  have hi' := List.mem_range.1 hi
  congr 1
  rw [eq_iff_iff, mem_take_iff]
  constructor
  · intro h1 h2
    obtain ⟨j, hj⟩ := List.getElem?_of_mem h2
    exact h1 ⟨j, (pw_lt h.lpw hj hp).2 (by omega), hj⟩
  · rintro h1 ⟨j, _, hj⟩
    exact h1 (List.mem_of_getElem? hj)
theorem Inv.marks_at (h : Inv n F s) {lv p : Nat} (hp : s.lims[lv]? = some p) : ∃ b, s.marks = s.marks.take p ++ false :: b := by
  have hpm := List.mem_of_getElem? hp
  have hpl := h.llt p hpm
  have hlen : p < s.marks.length := by rw [marks_len]; exact hpl
  refine ⟨s.marks.drop (p + 1), ?_⟩
  have h1 : s.marks[p] = false := by simp [SS.marks, hpm]
  rw [← h1, ← List.drop_eq_getElem_cons hlen, List.take_append_drop]
/-- What is left. -/
def SS.mu (n : Nat) (s : SS) : Nat := (2 ^ n - s.phi n) * (n + 1) + (n - s.tr.length)
theorem mu_of {a b : SS} (h1 : a.phi n < b.phi n) (h2 : b.phi n < 2 ^ n) : b.mu n < a.mu n := by
  unfold SS.mu
  have h3 : 2 ^ n - a.phi n = (2 ^ n - b.phi n) + (b.phi n - a.phi n) := by omega
  rw [h3, Nat.add_mul]
  have h4 : 1 * (n + 1) ≤ (b.phi n - a.phi n) * (n + 1) := Nat.mul_le_mul_right _ (by omega)
  omega
theorem phi_lt (s : SS) : s.phi n < 2 ^ n := phiL_lt _ _
theorem Inv.phi_put (h : Inv n F s) {x r : Int} (hl : s.tr.length < n) : s.phi n < (s.put x r).phi n := by
  unfold SS.phi
  rw [marks_put x r h.llt, phiL_app n _ _ (by rw [marks_len]; exact hl)]
  have := Nat.two_pow_pos (n - 1 - s.marks.length)
  simp only [if_true]
  omega
theorem Inv.phi_guess (h : Inv n F s) {x : Int} (hl : s.tr.length < n) : (s.guess x).phi n = s.phi n := by
  unfold SS.phi
  rw [marks_guess, phiL_app n _ _ (by rw [marks_len]; exact hl)]
  simp
theorem Inv.mu_guess (h : Inv n F s) {x : Int} (hl : s.tr.length < n) : (s.guess x).mu n < s.mu n := by
  unfold SS.mu
  rw [h.phi_guess hl]
  simp [SS.guess]
  omega
/-- Taking guesses back and putting what was learnt goes on. -/
theorem Inv.phi_learn (h : Inv n F s) {lv p : Nat} (hp : s.lims[lv]? = some p) (c : List Int) (x r : Int) : s.phi n < (((s.back lv p).add c).put x r).phi n := by
  have hb := h.back hp
  have hpl := h.llt p (List.mem_of_getElem? hp)
  have hl := h.len
  have e : (((s.back lv p).add c).put x r).marks = s.marks.take p ++ [true] := by
    rw [marks_put x r (by exact hb.llt)]
    show (s.back lv p).marks ++ [true] = _
    rw [h.marks_back hp]
  obtain ⟨b, hb⟩ := h.marks_at hp
  unfold SS.phi
  rw [e]
  conv => lhs; rw [hb]
  refine phiL_flip n _ _ ?_
  rw [← hb, marks_len]
  exact hl
end

/-! ### A look at a clause -/
def lookF (L : List Int) : List Int → Int → Int × Bool
  | [], f => (f, f == 0)
  | x :: l, f => if x ∈ L then (0, false) else if -x ∈ L then lookF L l f else if f = 0 then lookF L l x else (0, false)
theorem lookF_fails {L : List Int} : ∀ (c : List Int) (f : Int), (∀ x ∈ c, x ≠ 0) → (lookF L c f).2 = true → f = 0 ∧ ∀ y ∈ c, -y ∈ L
  | [], f, _, h => ⟨by simpa [lookF] using h, fun y hy => by cases hy⟩
  | x :: l, f, h0, h => by
    simp only [lookF] at h
    split at h
    · cases h
    · split at h
      · next h2 =>
        obtain ⟨h3, h4⟩ := lookF_fails l f (fun y hy => h0 y (List.mem_cons_of_mem _ hy)) h
        refine ⟨h3, fun y hy => ?_⟩
        rcases List.mem_cons.1 hy with rfl | hy
        · exact h2
        · exact h4 y hy
      · split at h
        · exact absurd (lookF_fails l x (fun y hy => h0 y (List.mem_cons_of_mem _ hy)) h).1 (h0 x (List.mem_cons_self ..))
        · cases h
theorem lookF_follows {L : List Int} : ∀ (c : List Int) (f : Int), (∀ x ∈ c, x ≠ 0) → (lookF L c f).1 ≠ 0 → (f ≠ 0 ∧ (lookF L c f).1 = f ∧ ∀ y ∈ c, -y ∈ L) ∨ (f = 0 ∧ (lookF L c f).1 ∈ c ∧ (lookF L c f).1 ∉ L ∧ -(lookF L c f).1 ∉ L ∧ ∀ y ∈ c, y ≠ (lookF L c f).1 → -y ∈ L)
  | [], f, _, h => .inl ⟨h, rfl, fun y hy => by cases hy⟩
  | x :: l, f, h0, h => by
    have h0' : ∀ y ∈ l, y ≠ 0 := fun y hy => h0 y (List.mem_cons_of_mem _ hy)
    simp only [lookF] at h ⊢
    split at h
    · exact absurd rfl h
    · next h1 =>
      rw [if_neg h1]
      split at h
      · next h2 =>
        rw [if_pos h2]
        rcases lookF_follows l f h0' h with ⟨h3, h4, h5⟩ | ⟨h3, h4, h5, h6, h7⟩
        · refine .inl ⟨h3, h4, fun y hy => ?_⟩
          rcases List.mem_cons.1 hy with rfl | hy
          · exact h2
          · exact h5 y hy
        · refine .inr ⟨h3, List.mem_cons_of_mem _ h4, h5, h6, fun y hy hne => ?_⟩
          rcases List.mem_cons.1 hy with rfl | hy
          · exact h2
          · exact h7 y hy hne
      · next h2 =>
        rw [if_neg h2]
        split at h
        · next h3 =>
          rw [if_pos h3]
          rcases lookF_follows l x h0' h with ⟨h4, h5, h6⟩ | ⟨h4, _⟩
          · refine .inr ⟨h3, ?_⟩
            rw [h5]
            refine ⟨List.mem_cons_self .., h1, h2, fun y hy hne => ?_⟩
            rcases List.mem_cons.1 hy with rfl | hy
            · exact absurd rfl hne
            · exact h6 y hy
          · exact absurd h4 (h0 x (List.mem_cons_self ..))
        · exact absurd rfl h
theorem lookF_rest {L : List Int} (hb : ∀ x, ¬ (x ∈ L ∧ -x ∈ L)) : ∀ (c : List Int) (f : Int), (∀ x ∈ c, x ≠ 0) → (lookF L c f).1 = 0 → (lookF L c f).2 = false → ∃ y ∈ c, -y ∉ L
  | [], f, _, h, h' => by
    simp [lookF] at h h'
    exact absurd h h'
  | x :: l, f, h0, h, h' => by
    have h0' : ∀ y ∈ l, y ≠ 0 := fun y hy => h0 y (List.mem_cons_of_mem _ hy)
    simp only [lookF] at h h'
    split at h
    · next h1 => exact ⟨x, List.mem_cons_self .., fun h2 => hb x ⟨h1, h2⟩⟩
    · next h1 =>
      rw [if_neg h1] at h'
      split at h
      · next h2 =>
        rw [if_pos h2] at h'
        obtain ⟨y, hy, hn⟩ := lookF_rest hb l f h0' h h'
        exact ⟨y, List.mem_cons_of_mem _ hy, hn⟩
      · next h2 => exact ⟨x, List.mem_cons_self .., h2⟩
theorem lookF_zero {L : List Int} : ∀ (c : List Int) (f : Int), (lookF L c f).2 = true → (lookF L c f).1 = 0
  | [], f, h => by simpa [lookF] using h
  | x :: l, f, h => by
    simp only [lookF] at h ⊢
    split at h
    · cases h
    · next h1 =>
      rw [if_neg h1]
      split at h
      · next h2 =>
        rw [if_pos h2]
        exact lookF_zero l f h
      · next h2 =>
        rw [if_neg h2]
        split at h
        · next h3 =>
          rw [if_pos h3]
          exact lookF_zero l x h
        · cases h
end Go.Proofs.Ytbkmgblijncjhaa

set_option linter.unusedVariables false
set_option linter.unusedSimpArgs false
namespace Go.Proofs.Ytbkmgblijncjhaa

section
variable {n : Nat} {F : List (List Int)} {s : SS}

/-! ### Following -/
/-- By literals, the clauses that have them. -/
structure UInv (s : SS) (under : Int → List Nat) : Prop where
  mem : ∀ (x : Int) (k : Nat), k ∈ under x ↔ ∃ c, s.cls[k]? = some c ∧ x ∈ c
  len : ∀ x, (under x).length ≤ s.cls.length
theorem Inv.take_put (h : Inv n F s) (hd : s.done < s.tr.length) (x r : Int) : (s.put x r).lits.take (s.done + 1) = s.lits.take (s.done + 1) := by
  rw [put_lits, List.take_append_of_le_length (by rw [h.lits_len]; omega)]
theorem Inv.wat_put (h : Inv n F s) (hw : Wat s) (x r : Int) : Wat (s.put x r) := fun c hc => by
  obtain ⟨y, hy, hn⟩ := hw c hc
  refine ⟨y, hy, ?_⟩
  rw [put_lits]
  show -y ∉ (s.lits ++ [x]).take s.done
  rw [List.take_append_of_le_length (by rw [h.lits_len]; exact h.dn)]
  exact hn
theorem Inv.wat_guess (h : Inv n F s) (hw : Wat s) (x : Int) : Wat (s.guess x) := fun c hc => by
  obtain ⟨y, hy, hn⟩ := hw c hc
  refine ⟨y, hy, ?_⟩
  rw [guess_lits]
  show -y ∉ (s.lits ++ [x]).take s.done
  rw [List.take_append_of_le_length (by rw [h.lits_len]; exact h.dn)]
  exact hn
theorem take_get_succ {L : List Int} {d : Nat} {t y : Int} (h : L[d]? = some t) : y ∈ L.take (d + 1) ↔ y ∈ L.take d ∨ y = t := by
  rw [List.take_add_one, h]
  simp
theorem Inv.wat_adv (h : Inv n F s) (hw : Wat s) {under : Int → List Nat} (hu : UInv s under) {t : Int} (ht : s.lits[s.done]? = some t) (ha : ∀ k ∈ under (-t), ∀ c, s.cls[k]? = some c → ∃ y ∈ c, -y ∉ s.lits.take (s.done + 1)) : Wat s.adv := fun c hc => by
  obtain ⟨k, hk⟩ := List.getElem?_of_mem hc
  by_cases hm : -t ∈ c
  · exact ha k ((hu.mem _ _).2 ⟨c, hk, hm⟩) c hk
  · obtain ⟨y, hy, hn⟩ := hw c hc
    refine ⟨y, hy, fun h1 => ?_⟩
    rcases (take_get_succ ht).1 h1 with h2 | h2
    · exact hn h2
    · refine hm ?_
      rw [← h2, Int.neg_neg]
      exact hy
/-- A clause is so, or two of its literals are not false by what was looked at. -/
def W2c (L : List Int) (d : Nat) (c : List Int) : Prop := (∃ y ∈ c, y ∈ L) ∨ ∃ y ∈ c, ∃ z ∈ c, y ≠ z ∧ -y ∉ L.take d ∧ -z ∉ L.take d
def W2 (s : SS) : Prop := ∀ c ∈ s.cls, W2c s.lits s.done c
theorem W2c.snoc {L c : List Int} {d : Nat} (h : W2c L d c) (hd : d ≤ L.length) (x : Int) : W2c (L ++ [x]) d c := by
  rcases h with ⟨y, h1, h2⟩ | ⟨y, h1, z, h2, h3, h4, h5⟩
  · exact .inl ⟨y, h1, List.mem_append_left _ h2⟩
  · refine .inr ⟨y, h1, z, h2, h3, ?_, ?_⟩
    · rw [List.take_append_of_le_length hd]; exact h4
    · rw [List.take_append_of_le_length hd]; exact h5
theorem Inv.w2_put (h : Inv n F s) (hw : W2 s) (x r : Int) : W2 (s.put x r) := fun c hc => by
  rw [put_lits]
  exact (hw c hc).snoc (by rw [h.lits_len]; exact h.dn) x
theorem Inv.w2_adv (h : Inv n F s) (hw : W2 s) {under : Int → List Nat} (hu : UInv s under) {t : Int} (ht : s.lits[s.done]? = some t) (ha : ∀ k ∈ under (-t), ∀ c, s.cls[k]? = some c → W2c s.lits (s.done + 1) c) : W2 s.adv := fun c hc => by
  obtain ⟨k, hk⟩ := List.getElem?_of_mem hc
  by_cases hm : -t ∈ c
  · exact ha k ((hu.mem _ _).2 ⟨c, hk, hm⟩) c hk
  · rcases hw c hc with h1 | ⟨y, h1, z, h2, h3, h4, h5⟩
    · exact .inl h1
    · have hn : ∀ y ∈ c, -y ∉ s.lits.take s.done → -y ∉ s.lits.take (s.done + 1) := fun y hy hn h1 => by
        rcases (take_get_succ ht).1 h1 with h2 | h2
        · exact hn h2
        · refine hm ?_
          rw [← h2, Int.neg_neg]
          exact hy
      exact .inr ⟨y, h1, z, h2, h3, hn y h1 h4, hn z h2 h5⟩
theorem lookF_two {L : List Int} : ∀ (c : List Int) (f : Int), (∀ x ∈ c, x ≠ 0) → c.Nodup → f ∉ c → (lookF L c f).1 = 0 → (lookF L c f).2 = false → (∃ y ∈ c, y ∈ L) ∨ (f ≠ 0 ∧ ∃ y ∈ c, -y ∉ L) ∨ ∃ y ∈ c, ∃ z ∈ c, y ≠ z ∧ -y ∉ L ∧ -z ∉ L
  | [], f, _, _, _, h, h' => by
    simp [lookF] at h h'
    exact absurd h h'
  | x :: l, f, h0, hnd, hf, h, h' => by
    have h0' : ∀ y ∈ l, y ≠ 0 := fun y hy => h0 y (List.mem_cons_of_mem _ hy)
    obtain ⟨hx, hnl⟩ := List.nodup_cons.1 hnd
    simp only [lookF] at h h'
    split at h
    · next h1 => exact .inl ⟨x, List.mem_cons_self .., h1⟩
    · next h1 =>
      rw [if_neg h1] at h'
      split at h
      · next h2 =>
        rw [if_pos h2] at h'
        rcases lookF_two l f h0' hnl (fun h3 => hf (List.mem_cons_of_mem _ h3)) h h' with ⟨y, a, b⟩ | ⟨e, y, a, b⟩ | ⟨y, a, z, b, e⟩
        · exact .inl ⟨y, List.mem_cons_of_mem _ a, b⟩
        · exact .inr (.inl ⟨e, y, List.mem_cons_of_mem _ a, b⟩)
        · exact .inr (.inr ⟨y, List.mem_cons_of_mem _ a, z, List.mem_cons_of_mem _ b, e⟩)
      · next h2 =>
        rw [if_neg h2] at h'
        split at h
        rotate_left
        · next h3 => exact .inr (.inl ⟨h3, x, List.mem_cons_self .., h2⟩)
        · next h3 =>
          rw [if_pos h3] at h'
          rcases lookF_two l x h0' hnl hx h h' with ⟨y, a, b⟩ | ⟨e, y, a, b⟩ | ⟨y, a, z, b, e⟩
          · exact .inl ⟨y, List.mem_cons_of_mem _ a, b⟩
          · exact .inr (.inr ⟨x, List.mem_cons_self .., y, List.mem_cons_of_mem _ a, fun e2 => hx (by rw [e2]; exact a), h2, b⟩)
          · exact .inr (.inr ⟨y, List.mem_cons_of_mem _ a, z, List.mem_cons_of_mem _ b, e⟩)
theorem nodup_of_abs {c : List Int} (h : (c.map Int.natAbs).Nodup) : c.Nodup := (List.pairwise_map.1 h).imp fun h e => h (by rw [e])
/-- A clause that is so, or has two literals. -/
def NE (L : List Int) (c : List Int) : Prop := (∃ y ∈ c, y ∈ L) ∨ ∃ y ∈ c, ∃ z ∈ c, y ≠ z
theorem NE.ne {L c : List Int} (h : NE L c) : c ≠ [] := by
  rintro rfl
  rcases h with ⟨y, h, _⟩ | ⟨y, h, _⟩ <;> cases h
theorem NE.more {L M c : List Int} (h : NE L c) (hs : ∀ x ∈ L, x ∈ M) : NE M c := by
  rcases h with ⟨y, h1, h2⟩ | h
  · exact .inl ⟨y, h1, hs y h2⟩
  · exact .inr h
theorem NE.w2 {L c : List Int} (h : NE L c) : W2c L 0 c := by
  rcases h with h | ⟨y, h1, z, h2, h3⟩
  · exact .inl h
  · exact .inr ⟨y, h1, z, h2, h3, by simp, by simp⟩
theorem Inv.guess_g (h : Inv n F s) {A : List Int} (hG : GInv A s) {x : Int} (hx : x ∈ A ∨ ∀ a ∈ A, a ∈ s.lits) : GInv A (s.guess x) := fun p y r hp hy => by
  rw [guess_lits]
  rcases get_snoc hy with ⟨h1, h2⟩ | ⟨h1, h2⟩
  · have hp' : p ∈ s.lims := by
      rcases List.mem_append.1 hp with h3 | h3
      · exact h3
      · have : p = s.tr.length := by simpa using h3
        omega
    rw [List.take_append_of_le_length (by rw [h.lits_len]; omega)]
    exact hG p y r hp' h2
  · cases h2
    rcases hx with h3 | h3
    · exact .inl h3
    · refine .inr fun a ha => ?_
      rw [List.take_append_of_le_length (by rw [h.lits_len]; omega), h1, ← h.lits_len, List.take_length]
      exact h3 a ha
theorem Inv.put_g (h : Inv n F s) {A : List Int} (hG : GInv A s) (x r : Int) : GInv A (s.put x r) := fun p y r' hp hy => by
  have hpl := h.llt p hp
  rw [put_lits, List.take_append_of_le_length (by rw [h.lits_len]; omega)]
  rcases get_snoc hy with ⟨h1, h2⟩ | ⟨h1, h2⟩
  · exact hG p y r' hp h2
  · omega
theorem Inv.back_g (h : Inv n F s) {A : List Int} (hG : GInv A s) {lv p : Nat} (hp : s.lims[lv]? = some p) : GInv A (s.back lv p) := fun q y r hq hy => by
  have hy' : (s.tr.take p)[q]? = some (y, r) := hy
  rw [List.getElem?_take] at hy'
  split at hy'
  · rw [back_lits, List.take_take, Nat.min_eq_left (by omega)]
    exact hG q y r (List.mem_of_mem_take hq) hy'
  · cases hy'
theorem Inv.back_w (h : Inv n F s) (hw : Wat s) {lv p : Nat} (hp : s.lims[lv]? = some p) : Wat (s.back lv p) := fun c hc => by
  obtain ⟨y, hy, hn⟩ := hw c hc
  have hpd := h.ldn p (List.mem_of_getElem? hp)
  refine ⟨y, hy, fun h1 => hn ?_⟩
  rw [back_lits] at h1
  have h1' : -y ∈ (s.lits.take p).take p := h1
  rw [List.take_take, Nat.min_self] at h1'
  obtain ⟨j, hj, hjy⟩ := mem_take_iff.1 h1'
  exact mem_take_iff.2 ⟨j, by omega, hjy⟩

/-! ### Levels -/
theorem lev_all {L : List Nat} {p : Nat} (h : ∀ l ∈ L, l ≤ p) : levAt L p = L.length := by
  unfold levAt
  rw [List.countP_eq_length]
  exact fun l hl => by simpa using h l hl
theorem lev_lt {L : List Nat} {p q : Nat} (hq : q ∈ L) (h : p < q) : levAt L p < L.length := by
  have h1 : levAt L p ≤ L.length := List.countP_le_length
  rcases Nat.lt_or_eq_of_le h1 with h2 | h2
  · exact h2
  · unfold levAt at h2
    have := List.countP_eq_length.1 h2 q hq
    simp at this
    omega
theorem Inv.lev_last (h : Inv n F s) {q : Nat} (hq : s.lims[s.lims.length - 1]? = some q) (p : Nat) : q ≤ p ↔ levAt s.lims p = s.lims.length := by
  constructor
  · intro h1
    refine lev_all fun l hl => ?_
    obtain ⟨j, hj⟩ := List.getElem?_of_mem hl
    have hjl := (List.getElem?_eq_some_iff.1 hj).1
    by_cases e : j = s.lims.length - 1
    · subst e
      rw [hq] at hj
      cases hj
      exact h1
    · have := (pw_lt h.lpw hj hq).1 (by omega)
      omega
  · intro h1
    by_cases h2 : q ≤ p
    · exact h2
    · have := lev_lt (List.mem_of_getElem? hq) (show p < q by omega)
      omega
theorem Inv.lev_below (h : Inv n F s) {lv p0 p : Nat} (hp : s.lims[lv]? = some p0) (hl : levAt s.lims p ≤ lv) : p < p0 := by
  rcases Nat.lt_or_ge p p0 with h1 | h1
  · exact h1
  · exfalso
    have h2 : levAt (s.lims.take (lv + 1)) p = (s.lims.take (lv + 1)).length := lev_all fun l hl => by
      obtain ⟨j, hj, hjl⟩ := mem_take_iff.1 hl
      by_cases e : j = lv
      · subst e
        rw [hp] at hjl
        cases hjl
        exact h1
      · have := (pw_lt h.lpw hjl hp).1 (by omega)
        omega
    have h3 : levAt (s.lims.take (lv + 1)) p ≤ levAt s.lims p := (List.take_sublist _ _).countP_le
    have h4 := (List.getElem?_eq_some_iff.1 hp).1
    rw [List.length_take] at h2
    omega
/-- What stands ahead of all guesses holds wherever the clauses hold. -/
theorem Inv.on_zero (h : Inv n F s) {m : Nat → Bool} (hm : SatF m F) {p : Nat} {y : Int} (hy : s.lits[p]? = some y) (h0 : levAt s.lims p = 0) : litOn m y = true := by
  obtain ⟨r, hr⟩ := lits_get.1 hy
  refine h.trail_on (h.imp m hm) p (fun i x r' hi hl _ => ?_) y r hr
  unfold levAt at h0
  have := List.countP_eq_zero.1 h0 i hl
  simp at this
  omega

/-! ### Learning -/
def seenAt (L : List Int) (seen : Int → Bool) (p : Nat) : Bool := match L[p]? with
  | some y => seen (y.natAbs : Int)
  | none => false
theorem seenAt_of {L : List Int} {seen : Int → Bool} {p : Nat} {y : Int} (h : L[p]? = some y) : seenAt L seen p = seen (y.natAbs : Int) := by
  unfold seenAt
  rw [h]
def cntS (L : List Int) (seen : Int → Bool) (q : Nat) : Nat → Nat
  | 0 => 0
  | a + 1 => cntS L seen q a + if q ≤ a ∧ seenAt L seen a = true then 1 else 0
theorem cnt_pos {L : List Int} {seen : Int → Bool} {q : Nat} : ∀ a, 0 < cntS L seen q a → ∃ p, p < a ∧ q ≤ p ∧ seenAt L seen p = true
  | 0, h => by simp [cntS] at h
  | a + 1, h => by
    simp only [cntS] at h
    split at h
    · next h1 => exact ⟨a, Nat.lt_succ_self _, h1.1, h1.2⟩
    · obtain ⟨p, h1, h2⟩ := cnt_pos a (by omega)
      exact ⟨p, by omega, h2⟩
theorem pos_cnt {L : List Int} {seen : Int → Bool} {q p : Nat} (hq : q ≤ p) (hs : seenAt L seen p = true) : ∀ a, p < a → 0 < cntS L seen q a
  | 0, h => by omega
  | a + 1, h => by
    simp only [cntS]
    by_cases e : p = a
    · subst e
      rw [if_pos ⟨hq, hs⟩]
      omega
    · have := pos_cnt hq hs a (by omega)
      omega
theorem cnt_skip {L : List Int} {seen : Int → Bool} {q a' : Nat} : ∀ a, a' ≤ a → (∀ p, a' ≤ p → p < a → seenAt L seen p = false) → cntS L seen q a = cntS L seen q a'
  | 0, h, _ => by
    have : a' = 0 := by omega
    rw [this]
  | a + 1, h, hn => by
    by_cases e : a' = a + 1
    · rw [e]
    · simp only [cntS]
      rw [cnt_skip a (by omega) (fun p h1 h2 => hn p h1 (by omega)), if_neg (by rw [hn a (by omega) (by omega)]; simp)]
      rfl
def addS (seen : Int → Bool) (v : Int) : Int → Bool := fun u => if u = v then true else seen u
theorem cnt_low {L : List Int} (hL : (L.map Int.natAbs).Nodup) {seen : Int → Bool} {q p0 : Nat} {y0 : Int} (h0 : L[p0]? = some y0) (hq : p0 < q) : ∀ a, cntS L (addS seen (y0.natAbs : Int)) q a = cntS L seen q a
  | 0 => rfl
  | a + 1 => by
    simp only [cntS]
    rw [cnt_low hL h0 hq a]
    by_cases hqa : q ≤ a
    · have e : seenAt L (addS seen (y0.natAbs : Int)) a = seenAt L seen a := by
        unfold seenAt
        cases ha : L[a]? with
        | none => rfl
        | some y =>
          show addS seen _ _ = _
          unfold addS
          rw [if_neg]
          intro e
          have := nodup_inj hL ha h0 (by omega)
          omega
      rw [e]
    · rw [if_neg (fun h => hqa h.1), if_neg (fun h => hqa h.1)]
theorem cnt_add {L : List Int} (hL : (L.map Int.natAbs).Nodup) {seen : Int → Bool} {q p0 : Nat} {y0 : Int} (h0 : L[p0]? = some y0) (hq : q ≤ p0) (hn : seen (y0.natAbs : Int) = false) : ∀ a, cntS L (addS seen (y0.natAbs : Int)) q a = cntS L seen q a + if p0 < a then 1 else 0
  | 0 => rfl
  | a + 1 => by
    simp only [cntS]
    rw [cnt_add hL h0 hq hn a]
    by_cases e : a = p0
    · subst e
      have e1 : seenAt L (addS seen (y0.natAbs : Int)) a = true := by
        rw [seenAt_of h0]
        simp [addS]
      have e2 : seenAt L seen a = false := by
        rw [seenAt_of h0]
        exact hn
      rw [e1, e2]
      simp [hq]
    · have e1 : seenAt L (addS seen (y0.natAbs : Int)) a = seenAt L seen a := by
        unfold seenAt
        cases ha : L[a]? with
        | none => rfl
        | some y =>
          show addS seen _ _ = _
          unfold addS
          rw [if_neg]
          intro e'
          exact e (nodup_inj hL ha h0 (by omega))
      rw [e1]
      by_cases h1 : p0 < a
      · rw [if_pos h1, if_pos (show p0 < a + 1 by omega)]
        omega
      · rw [if_neg h1, if_neg (show ¬ p0 < a + 1 by omega)]
        simp

theorem lev_le_of_lt {L : List Nat} (hL : L.Pairwise (· < ·)) {j l i : Nat} (hl : L[j]? = some l) (hi : i < l) : levAt L i ≤ j := by
  unfold levAt
  conv => lhs; rw [← List.take_append_drop j L]
  rw [List.countP_append]
  have h1 : (L.drop j).countP (fun q => decide (q ≤ i)) = 0 := by
    rw [List.countP_eq_zero]
    intro q hq
    obtain ⟨k, hk⟩ := List.getElem?_of_mem hq
    rw [List.getElem?_drop] at hk
    have : l ≤ q := by
      rcases Nat.eq_zero_or_pos k with h0 | h0
      · subst h0
        rw [Nat.add_zero, hl] at hk
        cases hk
        exact Nat.le_refl _
      · have h3 := (List.getElem?_eq_some_iff.1 hl)
        have h4 := (List.getElem?_eq_some_iff.1 hk)
        have := List.pairwise_iff_getElem.1 hL j (j + k) h3.1 h4.1 (by omega)
        rw [h3.2, h4.2] at this
        omega
    simpa using by omega
  have h2 : (L.take j).countP (fun q => decide (q ≤ i)) ≤ j := Nat.le_trans List.countP_le_length (by rw [List.length_take]; omega)
  omega
/-- What is known of any model: one of what was put out, or of the open ones turned. -/
def DD (s : SS) (q : Nat) (seen : Int → Bool) (out : List Int) (a : Nat) (m : Nat → Bool) : Prop :=
  (∃ y ∈ out, litOn m y = true) ∨ ∃ p y, q ≤ p ∧ p < a ∧ s.lits[p]? = some y ∧ seen (y.natAbs : Int) = true ∧ litOn m y = false
/-- What stands while one learns, in a clause c, behind j of its literals. -/
structure LI (n : Nat) (F : List (List Int)) (s : SS) (q : Nat) (seen : Int → Bool) (out : List Int) (opn a : Nat) (x : Int) (c : List Int) (j lv : Nat) : Prop where
  cm : c ∈ s.cls
  cf : ∀ y ∈ c, y ≠ x → -y ∈ s.lits.take a
  ha : a ≤ s.tr.length
  sn : ∀ v, seen v = true → ∃ (p : Nat) (y : Int), s.lits[p]? = some y ∧ (y.natAbs : Int) = v
  so : ∀ y ∈ out, ∃ p, p < q ∧ s.lits[p]? = some (-y) ∧ levAt s.lims p ≤ lv ∧ seen (y.natAbs : Int) = true
  oin : ∀ (p : Nat) (y : Int), p < q → s.lits[p]? = some y → seen (y.natAbs : Int) = true → -y ∈ out
  ond : (out.map Int.natAbs).Nodup
  lvl : lv < s.lims.length
  cnt : opn = cntS s.lits seen q a
  xs : x ≠ 0 → seen (x.natAbs : Int) = true
  sem : ∀ m, SatF m F → (x = 0 ∨ litOn m x = false) ∨ DD s q seen out a m
  sd : ∀ (i : Nat) (y : Int), i < j → c[i]? = some y → y ≠ x → (∃ p, s.lits[p]? = some (-y) ∧ levAt s.lims p = 0) ∨ seen (y.natAbs : Int) = true
  pos : (x = 0 ∧ ∃ y ∈ c, ∃ p, q ≤ p ∧ s.lits[p]? = some (-y)) ∨ (x ≠ 0 ∧ 0 < opn)
  lmx : lv = 0 ∨ ∃ y ∈ out, ∃ p, s.lits[p]? = some (-y) ∧ levAt s.lims p = lv
  su : ∀ v, seen v = true → ∃ c ∈ s.cls, ∃ y ∈ c, (y.natAbs : Int) = v

variable {q opn a j lv : Nat} {seen : Int → Bool} {out c : List Int} {x : Int}
/-- At first. -/
theorem Inv.learn_start (h : Inv n F s) (hw : Wat s) {q : Nat} (hq : s.lims[s.lims.length - 1]? = some q) {c : List Int} (hc : c ∈ s.cls) (hf : ∀ y ∈ c, -y ∈ s.lits) : LI n F s q (fun _ => false) [] 0 s.tr.length 0 c 0 0 := by
  have hql := (List.getElem?_eq_some_iff.1 hq).1
  refine ⟨hc, fun y hy _ => by rw [← h.lits_len, List.take_length]; exact hf y hy, Nat.le_refl _, fun v hv => (by cases hv), fun y hy => (by cases hy), fun p y _ _ hv => (by cases hv), (by simp), (by omega), ?_, fun h0 => absurd rfl h0, fun m _ => .inl (.inl rfl), fun i y hi => (by omega), .inl ⟨rfl, ?_⟩, .inl rfl, fun v hv => (by cases hv)⟩
  · have : ∀ a, cntS s.lits (fun _ => false) q a = 0 := fun a => by
      rcases Nat.eq_zero_or_pos (cntS s.lits (fun _ => false) q a) with h1 | h1
      · exact h1
      · obtain ⟨p, _, _, h2⟩ := cnt_pos a h1
        unfold seenAt at h2
        split at h2 <;> cases h2
    rw [this]
  · obtain ⟨y, hy, hn⟩ := hw c hc
    obtain ⟨p, hp⟩ := List.getElem?_of_mem (hf y hy)
    refine ⟨y, hy, p, ?_, hp⟩
    have h1 := h.ldn q (List.mem_of_getElem? hq)
    have h2 : ¬ p < s.done := fun h2 => hn (mem_take_iff.2 ⟨p, h2, hp⟩)
    omega
/-- A literal whose variable was seen, or is told without guesses. -/
theorem LI.had (h : LI n F s q seen out opn a x c j lv) {y : Int} (hy : c[j]? = some y) (hh : seen (y.natAbs : Int) = true ∨ ∃ p, s.lits[p]? = some (-y) ∧ levAt s.lims p = 0) : LI n F s q seen out opn a x c (j + 1) lv :=
  ⟨h.cm, h.cf, h.ha, h.sn, h.so, h.oin, h.ond, h.lvl, h.cnt, h.xs, h.sem, fun i z hi hz hne => by
    by_cases e : i = j
    · subst e
      rw [hy] at hz
      cases hz
      exact hh.symm
    · exact h.sd i z (by omega) hz hne, h.pos, h.lmx, h.su⟩
theorem DD.mono {s : SS} {q a : Nat} {seen seen' : Int → Bool} {out out' : List Int} {m : Nat → Bool} (h : DD s q seen out a m) (h1 : ∀ v, seen v = true → seen' v = true) (h2 : ∀ y ∈ out, y ∈ out') : DD s q seen' out' a m := by
  rcases h with ⟨y, hy, ho⟩ | ⟨p, y, h3, h4, h5, h6, h7⟩
  · exact .inl ⟨y, h2 y hy, ho⟩
  · exact .inr ⟨p, y, h3, h4, h5, h1 _ h6, h7⟩
theorem addS_mono {seen : Int → Bool} {v u : Int} (h : seen u = true) : addS seen v u = true := by
  unfold addS
  split
  · rfl
  · exact h
theorem addS_same {seen : Int → Bool} {v : Int} : addS seen v v = true := by simp [addS]
theorem addS_inv {seen : Int → Bool} {v u : Int} (h : addS seen v u = true) : u = v ∨ seen u = true := by
  unfold addS at h
  split at h
  · next e => exact .inl e
  · exact .inr h
/-- A new variable of the last level. -/
theorem LI.cur (h : LI n F s q seen out opn a x c j lv) (hi : Inv n F s) {y : Int} (hy : c[j]? = some y) (hn : seen (y.natAbs : Int) = false) {p : Nat} (hp : s.lits[p]? = some (-y)) (hq : q ≤ p) : LI n F s q (addS seen (y.natAbs : Int)) out (opn + 1) a x c (j + 1) lv := by
  have hyx : y ≠ x := fun e => by
    have h0 := (hi.rng c h.cm y (List.mem_of_getElem? hy)).1
    rw [e] at hn h0
    rw [h.xs h0] at hn
    cases hn
  have hpa : p < a := by
    obtain ⟨i, h1, h2⟩ := mem_take_iff.1 (h.cf y (List.mem_of_getElem? hy) hyx)
    rwa [nodup_inj hi.tnd hp h2 rfl]
  have e1 : ((-y).natAbs : Int) = (y.natAbs : Int) := by omega
  refine { h with sn := fun v hv => ?_, so := fun z hz => ?_, oin := fun i z h1 h2 h3 => ?_, cnt := ?_, xs := fun h0 => addS_mono (h.xs h0), sem := fun m hm => ?_, sd := fun i z h1 h2 h3 => ?_, pos := ?_, su := fun v hv => (addS_inv hv).elim (fun e => ⟨c, h.cm, y, List.mem_of_getElem? hy, e.symm⟩) (h.su v) }
  · rcases addS_inv hv with e | h1
    · exact ⟨p, -y, hp, by rw [e1, e]⟩
    · exact h.sn v h1
  · obtain ⟨i, h1, h2, h3, h4⟩ := h.so z hz
    exact ⟨i, h1, h2, h3, addS_mono h4⟩
  · rcases addS_inv h3 with e | h4
    · have := nodup_inj hi.tnd h2 hp (by omega)
      omega
    · exact h.oin i z h1 h2 h4
  · have := cnt_add hi.tnd hp hq (by rw [e1]; exact hn) a
    rw [e1, if_pos hpa] at this
    rw [this, h.cnt]
  · exact (h.sem m hm).imp id fun h1 => h1.mono (fun v => addS_mono) fun _ h => h
  · by_cases e : i = j
    · subst e
      rw [hy] at h2
      cases h2
      exact .inr addS_same
    · exact (h.sd i z (by omega) h2 h3).imp id addS_mono
  · rcases h.pos with h1 | ⟨h1, _⟩
    · exact .inl h1
    · exact .inr ⟨h1, by omega⟩
/-- A new variable of a level below. -/
theorem LI.low (h : LI n F s q seen out opn a x c j lv) (hi : Inv n F s) (hql : s.lims[s.lims.length - 1]? = some q) {y : Int} (hy : c[j]? = some y) (hn : seen (y.natAbs : Int) = false) {p : Nat} (hp : s.lits[p]? = some (-y)) (hq : p < q) : LI n F s q (addS seen (y.natAbs : Int)) (out ++ [y]) opn a x c (j + 1) (max lv (levAt s.lims p)) := by
  have e1 : ((-y).natAbs : Int) = (y.natAbs : Int) := by omega
  refine { h with sn := fun v hv => ?_, so := fun z hz => ?_, oin := fun i z h1 h2 h3 => ?_, ond := ?_, lvl := ?_, cnt := ?_, xs := fun h0 => addS_mono (h.xs h0), sem := fun m hm => ?_, sd := fun i z h1 h2 h3 => ?_, lmx := ?_, su := fun v hv => (addS_inv hv).elim (fun e => ⟨c, h.cm, y, List.mem_of_getElem? hy, e.symm⟩) (h.su v) }
  · rcases addS_inv hv with e | h1
    · exact ⟨p, -y, hp, by rw [e1, e]⟩
    · exact h.sn v h1
  · rcases List.mem_append.1 hz with h1 | h1
    · obtain ⟨i, h1, h2, h3, h4⟩ := h.so z h1
      exact ⟨i, h1, h2, by omega, addS_mono h4⟩
    · obtain rfl : z = y := by simpa using h1
      exact ⟨p, hq, hp, by omega, addS_same⟩
  · rcases addS_inv h3 with e | h4
    · have e2 := nodup_inj hi.tnd h2 hp (by omega)
      subst e2
      rw [hp] at h2
      cases h2
      simp
    · exact List.mem_append.2 (.inl (h.oin i z h1 h2 h4))
  · rw [List.map_append, List.nodup_append]
    refine ⟨h.ond, by simp, fun u hu v hv e => ?_⟩
    obtain ⟨z, hz, rfl⟩ := List.mem_map.1 hu
    have hv' : v = y.natAbs := by simpa using hv
    obtain ⟨i, _, _, _, h4⟩ := h.so z hz
    rw [e, hv', hn] at h4
    cases h4
  · have := lev_lt (List.mem_of_getElem? hql) hq
    have := h.lvl
    omega
  · have := cnt_low hi.tnd (seen := seen) hp hq a
    rw [e1] at this
    rw [this, h.cnt]
  · exact (h.sem m hm).imp id fun h1 => h1.mono (fun v => addS_mono) fun _ h => List.mem_append.2 (.inl h)
  · by_cases e : i = j
    · subst e
      rw [hy] at h2
      cases h2
      exact .inr addS_same
    · exact (h.sd i z (by omega) h2 h3).imp id addS_mono
  · rcases Nat.lt_or_ge lv (levAt s.lims p) with h1 | h1
    · exact .inr ⟨y, List.mem_append.2 (.inr (List.mem_singleton.2 rfl)), p, hp, by omega⟩
    · rcases h.lmx with h2 | ⟨z, h2, i, h3, h4⟩
      · exact .inl (by omega)
      · exact .inr ⟨z, List.mem_append.2 (.inl h2), i, h3, by omega⟩
/-- Behind the clause. -/
theorem LI.opened (h : LI n F s q seen out opn a x c c.length lv) (hi : Inv n F s) (hql : s.lims[s.lims.length - 1]? = some q) : 0 < opn := by
  rcases h.pos with ⟨h0, y, hy, p, hq, hp⟩ | ⟨_, h1⟩
  · obtain ⟨i, hiy⟩ := List.getElem?_of_mem hy
    have hy0 := (hi.rng c h.cm y hy).1
    have hyx : y ≠ x := by omega
    have hpa : p < a := by
      obtain ⟨i, h1, h2⟩ := mem_take_iff.1 (h.cf y hy hyx)
      rwa [nodup_inj hi.tnd hp h2 rfl]
    rcases h.sd i y (List.getElem?_eq_some_iff.1 hiy).1 hiy hyx with ⟨p', h2, h3⟩ | h2
    · have e := nodup_inj hi.tnd hp h2 rfl
      subst e
      have h4 := (hi.lev_last hql p).1 hq
      have := (List.getElem?_eq_some_iff.1 hql).1
      omega
    · rw [h.cnt]
      refine pos_cnt hq ?_ a hpa
      rw [seenAt_of hp]
      have e1 : ((-y).natAbs : Int) = (y.natAbs : Int) := by omega
      rw [e1]
      exact h2
  · exact h1
theorem LI.known (h : LI n F s q seen out opn a x c c.length lv) (hi : Inv n F s) {m : Nat → Bool} (hm : SatF m F) : DD s q seen out a m := by
  rcases h.sem m hm with h1 | h1
  · obtain ⟨y, hy, hon⟩ := hi.imp m hm c h.cm
    have hy0 := (hi.rng c h.cm y hy).1
    by_cases e : y = x
    · rcases h1 with h2 | h2
      · omega
      · rw [← e, hon] at h2
        cases h2
    · obtain ⟨i, hiy⟩ := List.getElem?_of_mem hy
      obtain ⟨p, hpa, hp⟩ := mem_take_iff.1 (h.cf y hy e)
      have hoff : litOn m (-y) = false := by rw [litOn_neg m hy0, hon]; rfl
      have e1 : ((-y).natAbs : Int) = (y.natAbs : Int) := by omega
      rcases h.sd i y (List.getElem?_eq_some_iff.1 hiy).1 hiy e with ⟨p', h2, h3⟩ | h2
      · rw [hi.on_zero hm h2 h3] at hoff
        cases hoff
      · by_cases hq : q ≤ p
        · exact .inr ⟨p, -y, hq, hpa, hp, by rw [e1]; exact h2, hoff⟩
        · have := h.oin p (-y) (by omega) hp (by rw [e1]; exact h2)
          rw [Int.neg_neg] at this
          exact .inl ⟨y, this, hon⟩
  · exact h1
/-- The last seen literal of the trail, x', at a'. -/
theorem LI.found (h : LI n F s q seen out opn a x c c.length lv) (hi : Inv n F s) (hql : s.lims[s.lims.length - 1]? = some q) {a' : Nat} {x' : Int} (h1 : a' < a) (h2 : s.lits[a']? = some x') (h3 : seen (x'.natAbs : Int) = true) (h4 : ∀ p, a' < p → p < a → seenAt s.lits seen p = false) :
    q ≤ a' ∧ opn = cntS s.lits seen q a' + 1 := by
  have h5 := h.opened hi hql
  rw [h.cnt] at h5
  obtain ⟨p, h6, h7, h8⟩ := cnt_pos a h5
  have h9 : p ≤ a' := by
    rcases Nat.lt_or_ge a' p with h10 | h10
    · rw [h4 p h10 h6] at h8
      cases h8
    · exact h10
  refine ⟨by omega, ?_⟩
  rw [h.cnt, cnt_skip (a' := a' + 1) a (by omega) (fun p h9 h10 => h4 p (by omega) h10)]
  simp only [cntS]
  rw [if_pos ⟨by omega, by rw [seenAt_of h2]; exact h3⟩]
theorem DD.below {s : SS} {q a a' : Nat} {seen : Int → Bool} {out : List Int} {m : Nat → Bool} {x' : Int} (h : DD s q seen out a m) (h2 : s.lits[a']? = some x') (h4 : ∀ p, a' < p → p < a → seenAt s.lits seen p = false) : litOn m x' = false ∨ DD s q seen out a' m := by
  rcases h with h1 | ⟨p, y, h5, h6, h7, h8, h9⟩
  · exact .inr (.inl h1)
  · rcases Nat.lt_trichotomy p a' with h10 | h10 | h10
    · exact .inr (.inr ⟨p, y, h5, h10, h7, h8, h9⟩)
    · subst h10
      rw [h2] at h7
      cases h7
      exact .inl h9
    · have := h4 p h10 h6
      rw [seenAt_of h7, h8] at this
      cases this
/-- On with its reason. -/
theorem LI.next (h : LI n F s q seen out opn a x c c.length lv) (hi : Inv n F s) (hql : s.lims[s.lims.length - 1]? = some q) {a' : Nat} {x' : Int} (h1 : a' < a) (h2 : s.lits[a']? = some x') (h3 : seen (x'.natAbs : Int) = true) (h4 : ∀ p, a' < p → p < a → seenAt s.lits seen p = false) (h5 : opn - 1 ≠ 0) :
    ∃ (k : Nat) (c' : List Int), s.tr[a']? = some (x', (k : Int)) ∧ s.cls[k]? = some c' ∧ LI n F s q seen out (opn - 1) a' x' c' 0 lv := by
  obtain ⟨h6, h7⟩ := h.found hi hql h1 h2 h3 h4
  obtain ⟨r, hr⟩ := lits_get.1 h2
  have hx0 := (hi.trng x' (List.mem_of_getElem? h2)).1
  obtain ⟨p, h8, h9, h10⟩ := cnt_pos (L := s.lits) (seen := seen) (q := q) a' (by omega)
  have hnl : a' ∉ s.lims := fun hm => by
    have h11 := hi.lev_last hql p
    have := lev_lt hm h8
    have := h11.1 h9
    omega
  rcases hi.rs a' x' r hr with ⟨h11, _⟩ | ⟨_, k, c', rfl, hc', hx', hf⟩
  · exact absurd h11 hnl
  · have hal : a' < s.tr.length := by have := h.ha; omega
    refine ⟨k, c', hr, hc', { h with cm := List.mem_of_getElem? hc', cf := hf, ha := by omega, cnt := by omega, xs := fun _ => h3, sem := fun m hm => ?_, sd := fun i y hi => by omega, pos := .inr ⟨hx0, by omega⟩ }⟩
    rcases (h.known hi hm).below h2 h4 with h12 | h12
    · exact .inl (.inr h12)
    · exact .inr h12
/-- What is learnt. -/
structure Learnt (n : Nat) (F : List (List Int)) (s : SS) (x : Int) (out : List Int) (lv p : Nat) : Prop where
  lim : s.lims[lv]? = some p
  rng : ∀ y ∈ -x :: out, y ≠ 0 ∧ y.natAbs ≤ n
  nd : ((-x :: out).map Int.natAbs).Nodup
  imp : ∀ m, SatF m F → ∃ y ∈ -x :: out, litOn m y = true
  low : ∀ y ∈ out, -y ∈ s.lits.take p
  u1 : x ∉ s.lits.take p
  u2 : -x ∉ s.lits.take p
  top : lv = 0 ∨ ∃ y ∈ out, ∀ l ∈ s.lims.take lv, -y ∉ s.lits.take l
  oc : ∀ y ∈ -x :: out, ∃ c ∈ s.cls, ∃ z ∈ c, z.natAbs = y.natAbs
theorem LI.learnt (h : LI n F s q seen out opn a x c c.length lv) (hi : Inv n F s) (hql : s.lims[s.lims.length - 1]? = some q) {a' : Nat} {x' : Int} (h1 : a' < a) (h2 : s.lits[a']? = some x') (h3 : seen (x'.natAbs : Int) = true) (h4 : ∀ p, a' < p → p < a → seenAt s.lits seen p = false) (h5 : opn - 1 = 0) :
    ∃ p, Learnt n F s x' out lv p := by
  obtain ⟨h6, h7⟩ := h.found hi hql h1 h2 h3 h4
  have hr := hi.trng x' (List.mem_of_getElem? h2)
  obtain ⟨p0, hp0⟩ : ∃ p0, s.lims[lv]? = some p0 := ⟨_, List.getElem?_eq_getElem h.lvl⟩
  have hpq : p0 ≤ q := by
    by_cases e : lv = s.lims.length - 1
    · rw [e, hql] at hp0
      cases hp0
      exact Nat.le_refl _
    · have := (pw_lt hi.lpw hp0 hql).1 (by have := h.lvl; omega)
      omega
  refine ⟨p0, hp0, fun y hy => ?_, ?_, fun m hm => ?_, fun y hy => ?_, fun hm => ?_, fun hm => ?_, h.lmx.imp id ?_, fun y hy => ?_⟩
  · rcases List.mem_cons.1 hy with rfl | hy
    · omega
    · obtain ⟨p, _, h8, _⟩ := h.so y hy
      have := hi.trng _ (List.mem_of_getElem? h8)
      omega
  · rw [List.map_cons, List.nodup_cons]
    refine ⟨fun hm => ?_, h.ond⟩
    obtain ⟨y, hy, e⟩ := List.mem_map.1 hm
    obtain ⟨p, h8, h9, _⟩ := h.so y hy
    have := nodup_inj hi.tnd h9 h2 (by omega)
    omega
  · rcases (h.known hi hm).below h2 h4 with h12 | ⟨y, hy, hon⟩ | ⟨p, y, h13, h14, h15, h16, h17⟩
    · exact ⟨-x', List.mem_cons_self .., by rw [litOn_neg m hr.1, h12]; rfl⟩
    · exact ⟨y, List.mem_cons_of_mem _ hy, hon⟩
    · have := pos_cnt (L := s.lits) (seen := seen) h13 (by rw [seenAt_of h15]; exact h16) a' h14
      omega
  · obtain ⟨p, h8, h9, h10, _⟩ := h.so y hy
    exact mem_take_iff.2 ⟨p, hi.lev_below hp0 h10, h9⟩
  · obtain ⟨p, h8, h9⟩ := mem_take_iff.1 hm
    have := nodup_inj hi.tnd h9 h2 rfl
    omega
  · obtain ⟨p, h8, h9⟩ := mem_take_iff.1 hm
    have := nodup_inj hi.tnd h9 h2 (by omega)
    omega
  · rintro ⟨y, hy, i, h8, h9⟩
    refine ⟨y, hy, fun l hl hm => ?_⟩
    obtain ⟨i', h10, h11⟩ := mem_take_iff.1 hm
    have e := nodup_inj hi.tnd h8 h11 rfl
    obtain ⟨j', hj', hlj⟩ := mem_take_iff.1 hl
    have := lev_le_of_lt hi.lpw hlj (show i < l by omega)
    omega
  · have hs : seen (y.natAbs : Int) = true := by
      rcases List.mem_cons.1 hy with rfl | hy
      · rw [Int.natAbs_neg]
        exact h3
      · obtain ⟨_, _, _, _, h8⟩ := h.so y hy
        exact h8
    obtain ⟨d, h8, z, h9, h10⟩ := h.su _ hs
    exact ⟨d, h8, z, h9, by omega⟩
/-- Back, add, put. -/
def SS.learn (s : SS) (x : Int) (out : List Int) (lv p : Nat) : SS := ((s.back lv p).add (-x :: out)).put (-x) (s.cls.length : Int)
theorem Inv.learn (h : Inv n F s) {x : Int} {lv p : Nat} (hl : Learnt n F s x out lv p) : Inv n F (s.learn x out lv p) := by
  have h1 := (h.back hl.lim).add hl.rng hl.nd hl.imp
  have hc : ((s.back lv p).add (-x :: out)).cls[s.cls.length]? = some (-x :: out) := by
    show (s.cls ++ [-x :: out])[s.cls.length]? = _
    simp
  refine h1.put (k := s.cls.length) (x := -x) hc (List.mem_cons_self ..) (fun y hy hne => ?_) ?_ ?_
  · show -y ∈ (s.back lv p).lits
    rw [back_lits]
    rcases List.mem_cons.1 hy with e | hy
    · exact absurd e hne
    · exact hl.low y hy
  · show -x ∉ (s.back lv p).lits
    rw [back_lits]
    exact hl.u2
  · show - -x ∉ (s.back lv p).lits
    rw [back_lits, Int.neg_neg]
    exact hl.u1
theorem Inv.learn_w (h : Inv n F s) (hw : Wat s) {x : Int} {lv p : Nat} (hl : Learnt n F s x out lv p) : Wat (s.learn x out lv p) := by
  have h1 := (h.back hl.lim).add hl.rng hl.nd hl.imp
  refine h1.wat_put (fun c hc => ?_) _ _
  rcases List.mem_append.1 hc with h2 | h2
  · exact h.back_w hw hl.lim c h2
  · obtain rfl : c = -x :: out := by simpa using h2
    refine ⟨-x, List.mem_cons_self .., fun h3 => hl.u1 ?_⟩
    have h4 : - -x ∈ (s.back lv p).lits := List.mem_of_mem_take h3
    rw [back_lits, Int.neg_neg] at h4
    exact h4
theorem Inv.learn_g (h : Inv n F s) {A : List Int} (hG : GInv A s) {x : Int} {lv p : Nat} (hl : Learnt n F s x out lv p) : GInv A (s.learn x out lv p) :=
  ((h.back hl.lim).add hl.rng hl.nd hl.imp).put_g (fun q y r hq hy => h.back_g hG hl.lim q y r hq hy) _ _
theorem Inv.learn_phi (h : Inv n F s) {x : Int} {lv p : Nat} (hl : Learnt n F s x out lv p) : s.phi n < (s.learn x out lv p).phi n := h.phi_learn hl.lim _ _ _
end
end Go.Proofs.Ytbkmgblijncjhaa
