/- Layer 2's laws, plain data. -/
import Derived.Test.YtbdhkagcbncefaaPThree
set_option linter.unusedVariables false
set_option linter.unusedSimpArgs false
namespace Go.Proofs.Ytbdhkagcbncefaa

theorem allG_length_le (g : Gr) (xs : List Bool) : (allG g xs).length ≤ 1 + xs.length + g.as.length := by
  unfold allG
  split
  · rw [valsFrom_length]; simp; omega
  · simp

/-- A truth value as one of three. -/
def zT (b : Bool) : Int := if b then 1 else 0
theorem zT_is (b : Bool) : zT b = 0 ∨ zT b = 1 := by cases b <;> simp [zT]
theorem zT_i64 (b : Bool) : 0 ≤ zT b ∧ zT b ≤ 1 := by cases b <;> simp [zT]

/-- t is just what b says. -/
def Exact3 (t : Int) (b : Bool) : Prop := t = zT b
theorem exact_turn {t : Int} {b : Bool} (h : Exact3 t b) : Exact3 (turn3 t) (!b) := by
  unfold Exact3 at *
  subst h
  cases b <;> rfl
theorem exact_gate {s t : Int} {a b : Bool} (h : Exact3 s a) (h' : Exact3 t b) : Exact3 (gate3 s t) (a && b) := by
  unfold Exact3 at *
  subst h
  subst h'
  cases a <;> cases b <;> rfl
theorem exact_bit {v : List Int} {u : List Bool} (h : Each Exact3 v u) (l : Int) : Exact3 (bit3 v l) (bitB u l) := by
  have hg := h.get (l / 2).toNat 0 false rfl
  unfold bit3 bitB
  by_cases hl : l % 2 = 1
  · rw [if_pos hl, decide_eq_true hl]
    have := exact_turn hg
    cases e : u[(l / 2).toNat]?.getD false <;> rw [e] at this <;> exact this
  · rw [if_neg hl, decide_eq_false hl]
    cases e : u[(l / 2).toNat]?.getD false <;> rw [e] at hg <;> exact hg
theorem exact_from : ∀ (ps : List Pr) (v : List Int) (u : List Bool), Each Exact3 v u → Each Exact3 (vals3From v ps) (valsFrom u ps)
  | [], _, _, h => h
  | p :: ps, v, u, h => exact_from ps _ _ (h.snoc (exact_gate (exact_bit h p.1) (exact_bit h p.2)))
theorem threeG_exact {g : Gr} {l : Int} {u : List Bool} (hr : rightB g = true) (hn : (u.length : Int) = g.n) (hl : litB g l = true) : threeG g l (u.map zT) = zT (evalG g l u) := by
  have e : threeG g l (u.map zT) = bit3 (vals3At g (u.map zT) g.as.length) l := by
    unfold threeG
    rw [hr, hl, decide_eq_true (by rw [List.length_map]; exact hn)]
    rfl
  rw [e, evalG_is hr hn hl]
  unfold litV vals3At
  rw [List.take_length]
  have hm : ∀ us : List Bool, Each Exact3 ((us.map zT).map told3) us := by
    intro us
    induction us with
    | nil => trivial
    | cons b us ih => exact ⟨by cases b <;> rfl, ih⟩
  have h0 : Each Exact3 (0 :: (u.map zT).map told3) (false :: u) := ⟨rfl, hm u⟩
  exact exact_bit (exact_from g.as _ _ h0) l

/-- A value, or either, where it is free. -/
def orFree (x : Int) (f : Bool) : Int := if f then 2 else x
def freed (xs : List Int) (fs : List Bool) : List Int := List.zipWith orFree xs fs

theorem freed_length (xs : List Int) (fs : List Bool) (h : fs.length = xs.length) : (freed xs fs).length = xs.length := by simp [freed, h]
theorem freed_snoc {xs : List Int} {fs : List Bool} {x : Int} {f : Bool} (h : xs.length = fs.length) : freed (xs ++ [x]) (fs ++ [f]) = freed xs fs ++ [orFree x f] := by
  unfold freed
  rw [List.zipWith_append h]
  rfl
theorem freed_tells : ∀ (us fs : List Bool), fs.length = us.length → Each (fun x y => Tells (told3 x) y) (freed (us.map zT) fs) us
  | [], fs, h => by simp at h; subst h; trivial
  | u :: us, [], h => by simp at h
  | u :: us, f :: fs, h => by
    refine ⟨?_, freed_tells us fs (by simpa using h)⟩
    cases f <;> cases u <;> simp [orFree, zT, told3, Tells]
theorem freed_less : ∀ (xs : List Int) (fs : List Bool), fs.length = xs.length → (∀ x ∈ xs, Is3 x) → Each (fun x y => Less3 (told3 x) (told3 y)) xs (freed xs fs)
  | [], fs, h, _ => by simp at h; subst h; trivial
  | x :: xs, [], h, _ => by simp at h
  | x :: xs, f :: fs, h, h3 => by
    refine ⟨?_, freed_less xs fs (by simpa using h) (fun y hy => h3 y (List.mem_cons_of_mem _ hy))⟩
    have hx := h3 x (by simp)
    unfold Is3 at hx
    cases f <;> rcases hx with rfl | rfl | rfl <;> simp [orFree, told3, Less3]

/-- A number's digits of two bits, each by a remainder. -/
def digG (t m : Int) (n : Nat) : List Int := (List.range n).map fun i => t / 2 ^ (2 * i) % m
theorem digG_length (t m : Int) (n : Nat) : (digG t m n).length = n := by simp [digG]
theorem digG_succ (t m : Int) (n : Nat) : digG t m (n + 1) = digG t m n ++ [t / 2 ^ (2 * n) % m] := by simp [digG, List.range_succ]
theorem digG_range {t m : Int} (hm : 0 < m) (n : Nat) : ∀ x ∈ digG t m n, 0 ≤ x ∧ x < m := by
  intro x hx
  obtain ⟨i, _, rfl⟩ := List.mem_map.1 hx
  exact ⟨Int.emod_nonneg _ (by omega), Int.emod_lt_of_pos _ hm⟩
theorem digG_is3 (t : Int) (n : Nat) : ∀ x ∈ digG t 3 n, Is3 x := by
  intro x hx
  have := digG_range (by omega) n x hx
  unfold Is3
  omega

/-! ### What all variables are -/
theorem allG_at {g : Gr} {xs : List Bool} (hr : rightB g = true) (hn : (xs.length : Int) = g.n) {i : Nat} {x : Bool} (h : (allG g xs)[i]? = some x) : litV g xs (2 * (i : Int)) = x := by
  have e : allG g xs = valsFrom (false :: xs) g.as := by rw [allG_is hr hn]; unfold valsAt; rw [List.take_length]
  rw [e] at h
  unfold litV bitB
  have e1 : (2 * (i : Int) / 2).toNat = i := by omega
  have e2 : ¬ (2 * (i : Int) % 2 = 1) := by omega
  rw [e1, decide_eq_false e2, h]
  simp
theorem allG_len {g : Gr} {xs : List Bool} (hr : rightB g = true) (hn : (xs.length : Int) = g.n) : ((allG g xs).length : Int) = g.n + 1 + g.as.length := by
  rw [allG_is hr hn, valsAt_length (Nat.le_refl _)]
  omega
theorem allG_first {g : Gr} {xs : List Bool} (hr : rightB g = true) (hn : (xs.length : Int) = g.n) : (allG g xs)[0]? = some false := by
  have hl := allG_len hr hn
  have h0 : (0 : Nat) < (allG g xs).length := by
    obtain ⟨a, _⟩ := right_vars hr
    omega
  have h := List.getElem?_eq_getElem h0
  have := allG_at hr hn h
  rw [h, ← this]
  exact congrArg some (litV_zero g xs)
theorem allG_lit {g : Gr} {xs : List Bool} (hr : rightB g = true) (hn : (xs.length : Int) = g.n) {i : Nat} (h : i < (allG g xs).length) : litB g (2 * (i : Int)) = true ∧ litB g (2 * (i : Int) + 1) = true := by
  have hl := allG_len hr hn
  exact ⟨lit_of hr (by omega) (by unfold Gr.vars; omega), lit_of hr (by omega) (by unfold Gr.vars; omega)⟩
/-- Each variable, by both its literals. -/
theorem allG_both {g : Gr} {xs : List Bool} (hr : rightB g = true) (hn : (xs.length : Int) = g.n) {i : Nat} {x : Bool} (h : (allG g xs)[i]? = some x) : evalG g (2 * (i : Int)) xs = x ∧ evalG g (2 * (i : Int) + 1) xs = !x := by
  obtain ⟨l1, l2⟩ := allG_lit hr hn (List.getElem?_eq_some_iff.1 h).1
  rw [evalG_is hr hn l1, evalG_is hr hn l2, litV_even (by omega) (by omega), allG_at hr hn h]
  exact ⟨rfl, rfl⟩
theorem allG_input {g : Gr} {xs : List Bool} (hr : rightB g = true) (hn : (xs.length : Int) = g.n) {i : Nat} {x y : Bool} (h : (allG g xs)[i + 1]? = some x) (hy : xs[i]? = some y) : x = y := by
  rw [← allG_at hr hn h, ← litV_input (g := g) hy]
  congr 1
theorem allG_gate {g : Gr} {xs : List Bool} (hr : rightB g = true) (hn : (xs.length : Int) = g.n) {i k : Nat} {x : Bool} {p : Pr} (h : (allG g xs)[i]? = some x) (hk : g.as[k]? = some p) (hi : (i : Int) = g.n + 1 + k) :
    x = (evalG g p.1 xs && evalG g p.2 xs) ∧ litB g p.1 = true ∧ litB g p.2 = true := by
  obtain ⟨_, hall, _⟩ := (right_iff g).1 hr
  obtain ⟨m1, m2, m3⟩ := (of_decide_eq_true (hall k p hk) : 2 ≤ p.2 ∧ p.2 / 2 < p.1 / 2 ∧ p.1 / 2 < g.n + 1 + k)
  have hkl := (List.getElem?_eq_some_iff.1 hk).1
  have l1 := lit_of hr (l := p.1) (by omega) (by unfold Gr.vars; omega)
  have l2 := lit_of hr (l := p.2) (by omega) (by unfold Gr.vars; omega)
  refine ⟨?_, l1, l2⟩
  rw [evalG_is hr hn l1, evalG_is hr hn l2, ← litV_gate hr hn hk, ← allG_at hr hn h, hi]

/-! ### What is made of literals -/
theorem Grows.len {g h : Gr} {l : Int} {k : Nat} (hg : Grows g h l k) {xs : List Bool} (hn : (xs.length : Int) = g.n) : (xs.length : Int) = h.n := hn.trans hg.n.symm
theorem evalG_grown {g h : Gr} {l m : Int} {k : Nat} {xs : List Bool} (hr : rightB g = true) (hg : Grows g h l k) (hn : (xs.length : Int) = g.n) (hm : litB g m = true) : evalG h m xs = evalG g m xs := by
  rw [evalG_is hg.right (hg.len hn) (hg.ext.lit hm), evalG_is hr hn hm, litV_ext hg.ext hn hm]
theorem evalG_and {g : Gr} {xs : List Bool} {a b : Int} (hn : (xs.length : Int) = g.n) (he : (andG g a b).2.2 = 0) : evalG (andG g a b).1 (andG g a b).2.1 xs = (evalG g a xs && evalG g b xs) := by
  obtain ⟨hr, ha, hb, _⟩ := andG_zero he
  have hg := andG_grows he
  rw [evalG_is hg.right (hg.len hn) hg.lit, evalG_is hr hn ha, evalG_is hr hn hb, andG_sem hn he]
theorem evalG_or {g : Gr} {xs : List Bool} {a b : Int} (hr : rightB g = true) (hn : (xs.length : Int) = g.n) (ha : litB g a = true) (hb : litB g b = true) (hv : g.vars < 2000) :
    (orG g a b).2.2 = 0 ∧ Grows g (orG g a b).1 (orG g a b).2.1 1 ∧ evalG (orG g a b).1 (orG g a b).2.1 xs = (evalG g a xs || evalG g b xs) := by
  obtain ⟨h1, h2, h3⟩ := orG_sem hr hn ha hb hv
  refine ⟨h1, h2, ?_⟩
  rw [evalG_is h2.right (h2.len hn) h2.lit, evalG_is hr hn ha, evalG_is hr hn hb, h3]
theorem evalG_ite {g : Gr} {xs : List Bool} {k a b : Int} (hr : rightB g = true) (hn : (xs.length : Int) = g.n) (hk : litB g k = true) (ha : litB g a = true) (hb : litB g b = true) (hv : g.vars < 1990) :
    (iteG g k a b).2.2 = 0 ∧ Grows g (iteG g k a b).1 (iteG g k a b).2.1 3 ∧ evalG (iteG g k a b).1 (iteG g k a b).2.1 xs = if evalG g k xs then evalG g a xs else evalG g b xs := by
  obtain ⟨h1, h2, h3⟩ := iteG_sem hr hn hk ha hb hv
  refine ⟨h1, h2, ?_⟩
  rw [evalG_is h2.right (h2.len hn) h2.lit, evalG_is hr hn hk, evalG_is hr hn ha, evalG_is hr hn hb, h3]
end Go.Proofs.Ytbdhkagcbncefaa
