/- Values of three, and what they tell: plain data. -/
import Derived.Test.YtbdhkagcbncefaaPSem
set_option linter.unusedVariables false
set_option linter.unusedSimpArgs false
namespace Go.Proofs.Ytbdhkagcbncefaa

/-- What is told of a value: it, or either. -/
def Tells (t : Int) (b : Bool) : Prop := t = 2 ∨ t = if b then 1 else 0
/-- y tells no more than x. -/
def Less3 (x y : Int) : Prop := y = 2 ∨ y = x

/-- Two lists, place by place. -/
def Each {α β : Type} (R : α → β → Prop) : List α → List β → Prop
  | [], [] => True
  | x :: xs, y :: ys => R x y ∧ Each R xs ys
  | _, _ => False

section
variable {α β : Type} {R : α → β → Prop}
theorem Each.length : ∀ {xs : List α} {ys : List β}, Each R xs ys → xs.length = ys.length
  | [], [], _ => rfl
  | _ :: _, _ :: _, h => by simp [h.2.length]
  | [], _ :: _, h => h.elim
  | _ :: _, [], h => h.elim
theorem Each.snoc : ∀ {xs : List α} {ys : List β} {x : α} {y : β}, Each R xs ys → R x y → Each R (xs ++ [x]) (ys ++ [y])
  | [], [], _, _, _, h => ⟨h, trivial⟩
  | _ :: _, _ :: _, _, _, h, h' => ⟨h.1, h.2.snoc h'⟩
  | [], _ :: _, _, _, h, _ => h.elim
  | _ :: _, [], _, _, h, _ => h.elim
theorem Each.at_ : ∀ {xs : List α} {ys : List β} {i : Nat} {x : α} {y : β}, Each R xs ys → xs[i]? = some x → ys[i]? = some y → R x y
  | [], [], i, x, y, _, h, _ => by simp at h
  | x :: xs, y :: ys, 0, a, b, h, h1, h2 => by simp at h1 h2; subst h1; subst h2; exact h.1
  | x :: xs, y :: ys, i + 1, a, b, h, h1, h2 => h.2.at_ (i := i) (by simpa using h1) (by simpa using h2)
  | [], _ :: _, _, _, _, h, _, _ => h.elim
  | _ :: _, [], _, _, _, h, _, _ => h.elim
theorem Each.get {xs : List α} {ys : List β} (h : Each R xs ys) (i : Nat) (d : α) (e : β) (hd : R d e) : R (xs[i]?.getD d) (ys[i]?.getD e) := by
  have hl := h.length
  by_cases hi : i < xs.length
  · have h1 := List.getElem?_eq_getElem hi
    have h2 := List.getElem?_eq_getElem (hl ▸ hi)
    rw [h1, h2]
    exact h.at_ h1 h2
  · rw [List.getElem?_eq_none (by omega), List.getElem?_eq_none (by omega)]
    exact hd
end

theorem tells_turn {t : Int} {b : Bool} (h : Tells t b) : Tells (turn3 t) (!b) := by
  unfold Tells turn3 at *
  cases b <;> rcases h with rfl | rfl <;> simp
theorem tells_gate {s t : Int} {a b : Bool} (h : Tells s a) (h' : Tells t b) : Tells (gate3 s t) (a && b) := by
  unfold Tells gate3 at *
  cases a <;> cases b <;> rcases h with rfl | rfl <;> rcases h' with rfl | rfl <;> simp
theorem less_turn {x y : Int} (h : Less3 x y) : Less3 (turn3 x) (turn3 y) := by
  unfold Less3 at *
  rcases h with rfl | rfl
  · exact .inl rfl
  · exact .inr rfl
theorem less_gate {x y s t : Int} (hx : Is3 x) (hs : Is3 s) (h : Less3 x y) (h' : Less3 s t) : Less3 (gate3 x s) (gate3 y t) := by
  unfold Less3 Is3 gate3 at *
  rcases hx with rfl | rfl | rfl <;> rcases hs with rfl | rfl | rfl <;> rcases h with rfl | rfl <;> rcases h' with rfl | rfl <;> simp

theorem tells_bit {v : List Int} {u : List Bool} (h : Each Tells v u) (l : Int) : Tells (bit3 v l) (bitB u l) := by
  have hg := h.get (l / 2).toNat 0 false (.inr rfl)
  unfold bit3 bitB
  by_cases hl : l % 2 = 1
  · rw [if_pos hl, decide_eq_true hl]
    have := tells_turn hg
    cases e : u[(l / 2).toNat]?.getD false <;> rw [e] at this <;> exact this
  · rw [if_neg hl, decide_eq_false hl]
    cases e : u[(l / 2).toNat]?.getD false <;> rw [e] at hg <;> exact hg
theorem less_bit {v u : List Int} (h : Each Less3 v u) (l : Int) : Less3 (bit3 v l) (bit3 u l) := by
  have hg := h.get (l / 2).toNat 0 0 (.inr rfl)
  unfold bit3
  by_cases hl : l % 2 = 1
  · rw [if_pos hl, if_pos hl]; exact less_turn hg
  · rw [if_neg hl, if_neg hl]; exact hg

theorem tells_from : ∀ (ps : List Pr) (v : List Int) (u : List Bool), Each Tells v u → Each Tells (vals3From v ps) (valsFrom u ps)
  | [], _, _, h => h
  | p :: ps, v, u, h => tells_from ps _ _ (h.snoc (tells_gate (tells_bit h p.1) (tells_bit h p.2)))
theorem less_from : ∀ (ps : List Pr) (v u : List Int), (∀ x ∈ v, Is3 x) → Each Less3 v u → Each Less3 (vals3From v ps) (vals3From u ps)
  | [], _, _, _, h => h
  | p :: ps, v, u, hv, h => less_from ps _ _ (fun x hx => by
      rcases List.mem_append.1 hx with hx | hx
      · exact hv x hx
      · simp at hx
        rw [hx]
        exact gate3_is _ _) (h.snoc (less_gate (bit3_is hv _) (bit3_is hv _) (less_bit h p.1) (less_bit h p.2)))

theorem each_map {α β γ δ : Type} {R : γ → δ → Prop} (f : α → γ) (g : β → δ) : ∀ {xs : List α} {ys : List β}, Each (fun x y => R (f x) (g y)) xs ys → Each R (xs.map f) (ys.map g)
  | [], [], _ => trivial
  | _ :: _, _ :: _, h => ⟨h.1, each_map f g h.2⟩
  | [], _ :: _, h => h.elim
  | _ :: _, [], h => h.elim

/-- What is told of inputs tells of a literal. -/
theorem threeG_tells {g : Gr} {l : Int} {xs : List Int} {u : List Bool} (hr : rightB g = true) (hn : (u.length : Int) = g.n) (hl : litB g l = true) (h : Each (fun x y => Tells (told3 x) y) xs u) : Tells (threeG g l xs) (evalG g l u) := by
  have hx := h.length
  have e : threeG g l xs = bit3 (vals3At g xs g.as.length) l := by
    unfold threeG
    rw [hr, hl, decide_eq_true (by omega : (xs.length : Int) = g.n)]
    rfl
  rw [e, evalG_is hr hn hl]
  unfold litV vals3At
  rw [List.take_length]
  have hm := each_map (R := Tells) told3 (fun b : Bool => b) h
  rw [List.map_id'] at hm
  have h0 : Each Tells (0 :: xs.map told3) (false :: u) := ⟨.inr rfl, hm⟩
  exact tells_bit (tells_from g.as _ _ h0) l
theorem threeG_less {g : Gr} {l : Int} {xs ys : List Int} (h : Each (fun x y => Less3 (told3 x) (told3 y)) xs ys) : Less3 (threeG g l xs) (threeG g l ys) := by
  have hx := h.length
  unfold threeG
  rw [hx]
  split
  · unfold vals3At
    rw [List.take_length]
    have h0 : Each Less3 (0 :: xs.map told3) (0 :: ys.map told3) := ⟨.inr rfl, each_map (R := Less3) told3 told3 h⟩
    refine less_bit (less_from g.as _ _ (fun x hx => ?_) h0) l
    rcases List.mem_cons.1 hx with rfl | hx
    · exact .inl rfl
    · obtain ⟨y, _, rfl⟩ := List.mem_map.1 hx
      exact told3_is y
  · exact .inr rfl
end Go.Proofs.Ytbdhkagcbncefaa
