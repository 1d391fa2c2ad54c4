/- A formula with a hole: whatever formula is laid into the hole, the whole is one. A formula, one of whose parts is to be spoilt. -/
import Derived.Test.YtijecfmblddanaaDoorG2
set_option linter.unusedVariables false
set_option linter.unusedSimpArgs false
namespace Go.Proofs.YtijecfmblddanaaDoor
open Go.RowKit Go.Maps

/-- The cells from o of block b hold a formula, its parts at A. -/
structure FmAt (W : World) (b o : Nat) (f : Fm) (A : Option Addr) (c : Nat) : Prop where
  k : W.cell? ⟨b, o, none⟩ = some (.int .i64 f.kind)
  n : W.cell? ⟨b, o + 1, none⟩ = some (.string ⟨f.name.toArray⟩)
  l : W.cell? ⟨b, o + 2, none⟩ = some (.int .i64 f.lit)
  s : W.cell? ⟨b, o + 3, none⟩ = some (.slice A f.kids.length c)

/-- W' is as W but in the hole and in the blocks of its parts. -/
structure Out (W W' : World) (b o lo hi : Nat) : Prop where
  size : W.heap.size ≤ W'.heap.size
  far : ∀ k, k < W.heap.size → ¬ (lo ≤ k ∧ k < hi) → k ≠ b → W'.heap[k]? = W.heap[k]?
  near : ∀ i, ¬ (o ≤ i ∧ i < o + 4) → W'.cell? ⟨b, i, none⟩ = W.cell? ⟨b, i, none⟩
def Hole (W : World) (x b o lo hi : Nat) : Prop :=
  ∀ W', Out W W' b o lo hi → ∀ h A c, FmAt W' b o h A c → FmV W' W'.heap.size h A c → ∃ f A' c', FmAt W' x 0 f A' c' ∧ FmV W' W'.heap.size f A' c'
theorem Hole.start (W : World) (x lo hi : Nat) : Hole W x x 0 lo hi := fun W' _ h A c h1 h2 => ⟨h, A, c, h1, h2⟩
theorem Hole.after {W W1 : World} {x b o lo hi : Nat} (h : Hole W x b o lo hi) (hb : Below W.heap.size W W1) (hbb : b < W.heap.size) : Hole W1 x b o lo hi := fun W' ho =>
  h W' ⟨Nat.le_trans hb.size ho.size, fun k h1 h2 h3 => (ho.far k (Nat.lt_of_lt_of_le h1 hb.size) h2 h3).trans (hb.block k h1), fun i hi => (ho.near i hi).trans ((bcell hb).1 b i hbb)⟩

/-- One level down: the parts copied into a row of their own, r; the new hole is part j. -/
theorem Hole.down {W W1 : World} {x b o lo hi r c c1 j : Nat} {h : Fm} {A : Option Addr} {L : List (Fm × Option Addr × Nat)} {I J : Nat → Nat}
    (H : Hole W x b o lo hi) (ha : FmAt W b o h A c) (hb : b < W.heap.size) (hbo : ¬ (lo ≤ b ∧ b < hi)) (hhi : hi ≤ W.heap.size)
    (hL : h.kids = L.map (·.1)) (hn : L.length ≤ 1000) (hkind : -9223372036854775808 ≤ h.kind ∧ h.kind ≤ 9223372036854775807) (hname : h.name.length ≤ 140737488355328)
    (hin : ∀ (i : Nat) (x : Fm × Option Addr × Nat), L[i]? = some x → lo ≤ I i ∧ J i ≤ hi)
    (hd : ∀ (i j : Nat) (x y : Fm × Option Addr × Nat), L[i]? = some x → L[j]? = some y → i < j → J i ≤ I j)
    (hf : ∀ (i : Nat) (x : Fm × Option Addr × Nat), L[i]? = some x → x.1.kids.length ≤ x.2.2 ∧ x.1.kids.length ≤ 140737488355328 ∧ (-9223372036854775808 ≤ x.1.kind ∧ x.1.kind ≤ 9223372036854775807) ∧ x.1.name.length ≤ 140737488355328)
    (hk : ∀ (i : Nat) (x : Fm × Option Addr × Nat), L[i]? = some x → FmT W (I i) (J i) x.1.kids x.2.1 x.2.2)
    (hr : W.heap.size ≤ r) (hr1 : r < W1.heap.size) (hc1 : L.length ≤ c1)
    (hold : ∀ k, k < W.heap.size → k ≠ b → W1.heap[k]? = W.heap[k]?)
    (hbc : ∀ i, i ≠ o + 3 → W1.cell? ⟨b, i, none⟩ = W.cell? ⟨b, i, none⟩)
    (hb3 : W1.cell? ⟨b, o + 3, none⟩ = some (.slice (some ⟨r, 0, none⟩) L.length c1))
    (hrow : ∀ (i : Nat) (x : Fm × Option Addr × Nat), L[i]? = some x → FmAt W1 r (i * 4) x.1 x.2.1 x.2.2)
    (hj : j < L.length) : ∀ x0 : Fm × Option Addr × Nat, L[j]? = some x0 → Hole W1 x r (j * 4) (I j) (J j) ∧ FmVT W1 (I j) (J j) x0.1 x0.2.1 x0.2.2 ∧ ¬ (I j ≤ r ∧ r < J j) ∧ J j ≤ W1.heap.size := fun x0 hx0 => by
  have hinj := hin j x0 hx0
  have hkeep : ∀ (i : Nat) (x : Fm × Option Addr × Nat), L[i]? = some x → ∀ k, I i ≤ k → k < J i → W1.heap[k]? = W.heap[k]? := fun i x hx k h1 h2 => by
    have := hin i x hx
    exact hold k (by omega) (by omega)
  obtain ⟨g1, g2, g3, g4⟩ := hf j x0 hx0
  refine ⟨fun W' ho h2 A2 c2 hat hv => ?_, ⟨g1, g2, g3, g4, (hk j x0 hx0).keep (hkeep j x0 hx0)⟩, by omega, by omega⟩
  have hs := ho.size
  have hb' : W'.heap[b]? = W1.heap[b]? := ho.far b (by omega) (by omega) (by omega)
  have hbW : ∀ i, W'.cell? ⟨b, i, none⟩ = W1.cell? ⟨b, i, none⟩ := fun i => by simp only [World.cell?, hb']
  have hlen : (h.kids.set j h2).length = L.length := by rw [List.length_set, hL, List.length_map]
  have hrow' : ∀ i x, i ≠ j → L[i]? = some x → FmAt W' r (i * 4) x.1 x.2.1 x.2.2 := fun i x hne hx => by
    obtain ⟨h1, h2, h3, h4⟩ := hrow i x hx
    refine ⟨(ho.near _ ?_).trans h1, (ho.near _ ?_).trans h2, (ho.near _ ?_).trans h3, (ho.near _ ?_).trans h4⟩ <;> omega
  have hkids' : ∀ i x, i ≠ j → L[i]? = some x → FmS W' W'.heap.size x.1.kids x.2.1 := fun i x hne hx => by
    have hii := hin i x hx
    have hap : J i ≤ I j ∨ J j ≤ I i := by
      rcases Nat.lt_or_gt_of_ne hne with h | h
      · exact .inl (hd i j x x0 hx hx0 h)
      · exact .inr (hd j i x0 x hx0 hx h)
    have h1 : FmT W' (I i) (J i) x.1.kids x.2.1 x.2.2 := (hk i x hx).keep fun k hk1 hk2 => by
      rw [ho.far k (by omega) (by omega) (by omega), hkeep i x hx k hk1 hk2]
    exact h1.q.s fun b hb => by omega
  refine H W' ⟨by omega, fun k h1 h2 h3 => ?_, fun i hi => ?_⟩ (.mk h.kind h.name h.lit (h.kids.set j h2)) (some ⟨r, 0, none⟩) c1 ⟨?_, ?_, ?_, ?_⟩ ⟨by show (h.kids.set j h2).length ≤ c1; omega, by show (h.kids.set j h2).length ≤ _; omega, hkind, hname, ?_⟩
  · rw [ho.far k (by omega) (by omega) (by omega), hold k h1 h3]
  · rw [hbW, hbc i (by omega)]
  · rw [hbW, hbc _ (by omega)]
    exact ha.k
  · rw [hbW, hbc _ (by omega)]
    exact ha.n
  · rw [hbW, hbc _ (by omega)]
    exact ha.l
  · rw [hbW, hb3]
    show _ = some (Value.slice _ (h.kids.set j h2).length c1)
    rw [hlen]
  · show FmS W' W'.heap.size (h.kids.set j h2) (some ⟨r, 0, none⟩)
    have hget : ∀ i f, (h.kids.set j h2)[i]? = some f → (i = j ∧ f = h2) ∨ (i ≠ j ∧ ∃ x, L[i]? = some x ∧ x.1 = f) := fun i f hf => by
      by_cases e : i = j
      · subst e
        rw [List.getElem?_set_self (by rw [hL, List.length_map]; omega)] at hf
        exact .inl ⟨rfl, (Option.some.inj hf).symm⟩
      · rw [List.getElem?_set_ne (fun e' => e e'.symm), hL, List.getElem?_map] at hf
        cases hx : L[i]? with
        | none => rw [hx] at hf; cases hf
        | some x =>
          rw [hx] at hf
          exact .inr ⟨e, x, rfl, Option.some.inj hf⟩
    refine .mk _ r 0 (fun i => if i = j then A2 else (L.getD i x0).2.1) (fun i => if i = j then c2 else (L.getD i x0).2.2) (by omega) (fun i f hif => ?_) (fun i f hif => ?_)
    · rcases hget i f hif with ⟨rfl, rfl⟩ | ⟨hne, x, hx, rfl⟩
      · simp only [if_true, Nat.zero_add]
        exact ⟨⟨hat.k, hat.n, hat.l, hat.s⟩, hv.cap, hv.big, hv.kind, hv.name⟩
      · simp only [hne, if_false, Nat.zero_add, List.getD_eq_getElem?_getD, hx, Option.getD_some]
        have := hrow' i x hne hx
        exact ⟨⟨this.k, this.n, this.l, this.s⟩, hf i x hx⟩
    · rcases hget i f hif with ⟨rfl, rfl⟩ | ⟨hne, x, hx, rfl⟩
      · simp only [if_true]
        exact hv.kids
      · simp only [hne, if_false, List.getD_eq_getElem?_getD, hx, Option.getD_some]
        exact hkids' i x hne hx
end Go.Proofs.YtijecfmblddanaaDoor

set_option linter.unusedVariables false
set_option linter.unusedSimpArgs false
namespace Go.Proofs.YtijecfmblddanaaDoor
open Go.RowKit Go.Maps

theorem sc_ne {W : World} {b i j : Nat} {u : Value} (h : i ≠ j) : (W.setCell ⟨b, i, none⟩ u).cell? ⟨b, j, none⟩ = W.cell? ⟨b, j, none⟩ := World.cell?_setCell_other _ _ _ _ (by first | (simp; done) | (simp; omega))
theorem sc_far {W : World} {b k i j : Nat} {u : Value} (h : b ≠ k) : (W.setCell ⟨b, i, none⟩ u).cell? ⟨k, j, none⟩ = W.cell? ⟨k, j, none⟩ := World.cell?_setCell_other _ _ _ _ (by first | (simp; done) | (simp; omega))
theorem sc_eq {W : World} {b i : Nat} {u v : Value} (h : W.cell? ⟨b, i, none⟩ = some v) : (W.setCell ⟨b, i, none⟩ u).cell? ⟨b, i, none⟩ = some u := World.cell?_setCell_same _ _ _ h

/-- At x lies a formula. -/
def Whole (W : World) (x : Nat) : Prop := ∃ f A c, FmAt W x 0 f A c ∧ FmV W W.heap.size f A c
theorem Whole.after {W W1 : World} {x : Nat} (h : Whole W x) (hb : Below W.heap.size W W1) (hx : x < W.heap.size) : Whole W1 x := by
  obtain ⟨f, A, c, ⟨h1, h2, h3, h4⟩, hv⟩ := h
  have hc := (bcell hb).1
  exact ⟨f, A, c, ⟨(hc _ _ hx).trans h1, (hc _ _ hx).trans h2, (hc _ _ hx).trans h3, (hc _ _ hx).trans h4⟩, hv.after hb⟩

theorem Out.refl (W : World) (b o lo hi : Nat) : Out W W b o lo hi := ⟨Nat.le_refl _, fun _ _ _ _ => rfl, fun _ _ => rfl⟩
theorem Out.set {W W' : World} {b o lo hi : Nat} (h : Out W W' b o lo hi) (p : Nat) (hp : o ≤ p ∧ p < o + 4) (u : Value) : Out W (W'.setCell ⟨b, p, none⟩ u) b o lo hi :=
  ⟨by simpa [World.setCell] using h.size, fun k h1 h2 h3 => (Below.heap_setCell W' ⟨b, p, none⟩ u k (by simpa using h3)).trans (h.far k h1 h2 h3), fun i hi => (sc_ne (by omega)).trans (h.near i hi)⟩

/-- What stands while one goes down: x is the whole's block, the hole is at o of block b, its parts in [lo, hi); g lies apart. -/
structure SpSt (W : World) (base x xg glo ghi : Nat) (g : Fm) (Ag : Option Addr) (cg : Nat) (b o lo hi : Nat) (f : Fm) (A : Option Addr) (c : Nat) : Prop where
  H : Hole W x b o lo hi
  a : FmAt W b o f A c
  v : FmVT W lo hi f A c
  bk : ∃ cs, Blk W b 37 cs
  bs : base ≤ b
  out : ¬ (lo ≤ b ∧ b < hi)
  hs : hi ≤ W.heap.size
  low : base ≤ lo
  gv : FmVT W glo ghi g Ag cg
  gx : Blk W xg 37 (fmC g Ag cg).toArray
  g1 : hi ≤ glo
  g2 : ghi ≤ W.heap.size
  g3 : ¬ (glo ≤ b ∧ b < ghi)
  g4 : xg ≠ b
  g5 : ¬ (lo ≤ xg ∧ xg < hi)

section
variable {W W1 : World} {base x xg glo ghi b o lo hi c cg : Nat} {g f : Fm} {Ag A : Option Addr}
theorem SpSt.lt (h : SpSt W base x xg glo ghi g Ag cg b o lo hi f A c) : b < W.heap.size := by
  obtain ⟨cs, hb⟩ := h.bk
  exact hb.lt
theorem SpSt.fz (h : SpSt W base x xg glo ghi g Ag cg b o lo hi f A c) (i : Nat) : W.frozen? ⟨b, i, none⟩ = false := by
  obtain ⟨cs, hb⟩ := h.bk
  exact hb.frozen i
theorem SpSt.after (h : SpSt W base x xg glo ghi g Ag cg b o lo hi f A c) (hb : Below W.heap.size W W1) : SpSt W1 base x xg glo ghi g Ag cg b o lo hi f A c := by
  have hlt := h.lt
  have hc := (bcell hb).1
  have hs := hb.size
  have h1 := h.hs
  have h2 := h.g2
  obtain ⟨cs, hbk⟩ := h.bk
  exact ⟨h.H.after hb hlt, ⟨(hc _ _ hlt).trans h.a.k, (hc _ _ hlt).trans h.a.n, (hc _ _ hlt).trans h.a.l, (hc _ _ hlt).trans h.a.s⟩, h.v.keep fun k h3 h4 => hb.block k (by omega), ⟨cs, hbk.below hb hlt⟩, h.bs, h.out, by omega, h.low,
    h.gv.keep fun k h3 h4 => hb.block k (by omega), h.gx.below hb h.gx.lt, h.g1, by omega, h.g3, h.g4, h.g5⟩

theorem cell_lt {W : World} {b i : Nat} {v : Value} (h : W.cell? ⟨b, i, none⟩ = some v) : b < W.heap.size := World.block_lt_of_cell? W ⟨b, i, none⟩ h

/-- Down: the parts are copied into a row of their own (w9, v9), which is stored at the formula. -/
theorem SpSt.down (h : SpSt W base x xg glo ghi g Ag cg b o lo hi f A c) (hpos : 0 < f.kids.length) : ∃ (k : Nat) (xs : List Value), A = some ⟨k, 0, none⟩ ∧ f.kids.length ≤ 1000 ∧ xs.length = f.kids.length * 4 ∧
    (∀ j u, xs[j]? = some u → W.cell? ((⟨k, 0, none⟩ : Addr).add j) = some u) ∧ (∀ u ∈ xs, u.oneCell' = true) ∧
    ∀ w9 v9, w9.ownsRow W.heap.size 37 4 v9 f.kids.length xs → W.grownBy w9 none → ∃ r c1, v9 = .slice (some ⟨r, 0, none⟩) f.kids.length c1 ∧ W.heap.size ≤ r ∧ f.kids.length ≤ c1 ∧
      ∀ j, j < f.kids.length → ∃ f' A' c' lo' hi', SpSt (w9.setCell ⟨b, o + 3, none⟩ v9) base x xg glo ghi g Ag cg r (j * 4) lo' hi' f' A' c' := by
  have hlt := h.lt
  have hv := h.v.kids
  generalize hkk : f.kids = ks at hv hpos ⊢
  cases hv with
  | mk _ _ L _ _ I J ho hb hn hin hne hd hf hk =>
    rw [List.length_map] at hpos ⊢
    have hvals := Vals.of_own ho
    obtain ⟨k, hA⟩ : ∃ k, A = some ⟨k, 0, none⟩ := by
      rcases ho.2 with ⟨hv, hn0⟩ | ⟨k, cap, cur, hv, _⟩
      · omega
      · injection hv with hA _ _
        exact ⟨k, hA⟩
    refine ⟨k, flatF L, hA, hn, flatF_len L, fun j u hj => ?_, fun u hu => ?_, fun w9 v9 ho9 hg9 => ?_⟩
    · obtain ⟨b', o', e', _, hc⟩ := hvals j u hj
      rw [hA] at e'
      cases e'
      rw [Addr.add_lit]
      exact hc
    · unfold flatF at hu
      obtain ⟨y, _, hy⟩ := List.mem_flatMap.1 hu
      simp only [fmC, List.mem_cons, List.not_mem_nil, or_false] at hy
      rcases hy with rfl | rfl | rfl | rfl <;> rfl
    · have hlen9 := ho9.1
      rcases ho9.2 with ⟨_, h0⟩ | ⟨r, c1, cur, rfl, hr, hcur, hnc, hcm, hcs, htk⟩
      · omega
      · have hv9 := Vals.of_own ho9
        have hbr : b ≠ r := by omega
        have hs9 := hg9.size
        have hblk : ∀ k, k < W.heap.size → w9.heap[k]? = W.heap[k]? := fun k hk => hg9.block k hk (by simp)
        have hbc9 : ∀ i, w9.cell? ⟨b, i, none⟩ = W.cell? ⟨b, i, none⟩ := fun i => by simp only [World.cell?, hblk b hlt]
        have hsz : (w9.setCell ⟨b, o + 3, none⟩ (.slice (some ⟨r, 0, none⟩) L.length c1)).heap.size = w9.heap.size := by simp [World.setCell]
        have hst : ∀ k, k ≠ b → (w9.setCell ⟨b, o + 3, none⟩ (.slice (some ⟨r, 0, none⟩) L.length c1)).heap[k]? = w9.heap[k]? := fun k hk => Below.heap_setCell w9 ⟨b, o + 3, none⟩ _ k (by simpa using hk)
        have hrlt : r < w9.heap.size := (Array.getElem?_eq_some_iff.1 hcur).1
        have hold : ∀ k, k < W.heap.size → k ≠ b → (w9.setCell ⟨b, o + 3, none⟩ (.slice (some ⟨r, 0, none⟩) L.length c1)).heap[k]? = W.heap[k]? := fun k h1 h2 => (hst k h2).trans (hblk k h1)
        have hrow : ∀ (i : Nat) (y : Fm × Option Addr × Nat), L[i]? = some y → FmAt (w9.setCell ⟨b, o + 3, none⟩ (.slice (some ⟨r, 0, none⟩) L.length c1)) r (i * 4) y.1 y.2.1 y.2.2 := fun i y hy => by
          have hcell : ∀ (j : Nat) (u : Value), j < 4 → (fmC y.1 y.2.1 y.2.2)[j]? = some u → (w9.setCell ⟨b, o + 3, none⟩ (.slice (some ⟨r, 0, none⟩) L.length c1)).cell? ⟨r, i * 4 + j, none⟩ = some u := fun j u hj hu => by
            obtain ⟨b', o', e', _, hc⟩ := hv9 (i * 4 + j) u (by rw [flatF_get L i j y hy hj]; exact hu)
            cases e'
            rw [sc_far hbr]
            rw [Nat.zero_add] at hc
            exact hc
          exact ⟨hcell 0 _ (by omega) rfl, hcell 1 _ (by omega) rfl, hcell 2 _ (by omega) rfl, hcell 3 _ (by omega) rfl⟩
        have h1 := h.g1
        have h2 := h.g2
        have h3 := h.g3
        have h4 := h.g4
        have h5 := h.g5
        have h6 := h.low
        have h7 := h.bs
        have h8 := h.gx.lt
        refine ⟨r, c1, rfl, hr, hnc, fun j hj => ?_⟩
        obtain ⟨y0, hy0⟩ : ∃ y, L[j]? = some y := ⟨_, List.getElem?_eq_getElem hj⟩
        have hinj := hin j y0 hy0
        obtain ⟨q1, q2, q3, q4⟩ := h.H.down (j := j) h.a hlt h.out h.hs hkk hn h.v.kind h.v.name hin hd hf hk hr (by rw [hsz]; exact hrlt) hnc hold (fun i hi => by
          rw [sc_ne (by omega), hbc9]) (sc_eq ((hbc9 _).trans h.a.s)) hrow hj y0 hy0
        refine ⟨y0.1, y0.2.1, y0.2.2, I j, J j, q1, hrow j y0 hy0, q2, ⟨cur, ?_⟩, by omega, q3, q4, by omega, h.gv.keep fun k h9 h10 => hold k (by omega) (by omega), ?_, by omega, by rw [hsz]; omega, by omega, by omega, by omega⟩
        · exact (hst r (by omega)).trans hcur
        · exact (hold xg h8 h4).trans h.gx

/-- The hole filled: the whole is a formula. -/
theorem SpSt.kind (h : SpSt W base x xg glo ghi g Ag cg b o lo hi f A c) (n : Int) (hn : -9223372036854775808 ≤ n ∧ n ≤ 9223372036854775807) : Whole (W.setCell ⟨b, o, none⟩ (.int .i64 n)) x := by
  have ho := h.out
  have h1 := h.hs
  refine h.H _ ((Out.refl _ _ _ _ _).set o (by omega) _) (.mk n f.name f.lit f.kids) A c ⟨sc_eq h.a.k, (sc_ne (by omega)).trans h.a.n, (sc_ne (by omega)).trans h.a.l, (sc_ne (by omega)).trans h.a.s⟩
    ⟨h.v.cap, h.v.big, hn, h.v.name, (h.v.kids.keep fun k h3 h4 => Below.heap_setCell W ⟨b, o, none⟩ _ k (by simp; omega)).q.s fun k hk => by simp [World.setCell]; omega⟩
theorem SpSt.name (h : SpSt W base x xg glo ghi g Ag cg b o lo hi f A c) (s : ByteArray) (hn : s.size ≤ 140737488355328) : Whole (W.setCell ⟨b, o + 1, none⟩ (.string s)) x := by
  have ho := h.out
  have h1 := h.hs
  have hs : (⟨s.data.toList.toArray⟩ : ByteArray) = s := by simp
  refine h.H _ ((Out.refl _ _ _ _ _).set (o + 1) (by omega) _) (.mk f.kind s.data.toList f.lit f.kids) A c ⟨(sc_ne (by omega)).trans h.a.k, ?_, (sc_ne (by omega)).trans h.a.l, (sc_ne (by omega)).trans h.a.s⟩
    ⟨h.v.cap, h.v.big, h.v.kind, ?_, (h.v.kids.keep fun k h3 h4 => Below.heap_setCell W ⟨b, o + 1, none⟩ _ k (by simp; omega)).q.s fun k hk => by simp [World.setCell]; omega⟩
  · rw [sc_eq h.a.n]
    show _ = some (Value.string ⟨s.data.toList.toArray⟩)
    rw [hs]
  · show s.data.toList.length ≤ _
    rw [Array.length_toList]
    exact hn
theorem SpSt.lit (h : SpSt W base x xg glo ghi g Ag cg b o lo hi f A c) (n : Int) : Whole (W.setCell ⟨b, o + 2, none⟩ (.int .i64 n)) x := by
  have ho := h.out
  have h1 := h.hs
  refine h.H _ ((Out.refl _ _ _ _ _).set (o + 2) (by omega) _) (.mk f.kind f.name n f.kids) A c ⟨(sc_ne (by omega)).trans h.a.k, (sc_ne (by omega)).trans h.a.n, sc_eq h.a.l, (sc_ne (by omega)).trans h.a.s⟩
    ⟨h.v.cap, h.v.big, h.v.kind, h.v.name, (h.v.kids.keep fun k h3 h4 => Below.heap_setCell W ⟨b, o + 2, none⟩ _ k (by simp; omega)).q.s fun k hk => by simp [World.setCell]; omega⟩
theorem SpSt.atom (h : SpSt W base x xg glo ghi g Ag cg b o lo hi f A c) (s : ByteArray) (hn : s.size ≤ 140737488355328) :
    Whole ((((W.setCell ⟨b, o, none⟩ (.int .i64 3)).setCell ⟨b, o + 1, none⟩ (.string s)).setCell ⟨b, o + 2, none⟩ (.int .i64 0)).setCell ⟨b, o + 3, none⟩ (.slice none 0 0)) x := by
  have hs : (⟨s.data.toList.toArray⟩ : ByteArray) = s := by simp
  have c0 : ∀ (V : World) (i j : Nat) (u : Value), i ≠ j → (V.setCell ⟨b, i, none⟩ u).cell? ⟨b, j, none⟩ = V.cell? ⟨b, j, none⟩ := fun V i j u hij => sc_ne hij
  refine h.H _ (((((Out.refl _ _ _ _ _).set o (by omega) _).set (o + 1) (by omega) _).set (o + 2) (by omega) _).set (o + 3) (by omega) _) (.mk 3 s.data.toList 0 []) none 0 ⟨?_, ?_, ?_, ?_⟩ ⟨Nat.le_refl _, Nat.zero_le _, by simp [Fm.kind], ?_, .nil _⟩
  · rw [c0 _ _ _ _ (by omega), c0 _ _ _ _ (by omega), c0 _ _ _ _ (by omega)]
    exact sc_eq h.a.k
  · rw [c0 _ _ _ _ (by omega), c0 _ _ _ _ (by omega), sc_eq ((c0 _ _ _ _ (by omega)).trans h.a.n)]
    show _ = some (Value.string ⟨s.data.toList.toArray⟩)
    rw [hs]
  · rw [c0 _ _ _ _ (by omega)]
    exact sc_eq ((c0 _ _ _ _ (by omega)).trans ((c0 _ _ _ _ (by omega)).trans h.a.l))
  · exact sc_eq ((c0 _ _ _ _ (by omega)).trans ((c0 _ _ _ _ (by omega)).trans ((c0 _ _ _ _ (by omega)).trans h.a.s)))
  · show s.data.toList.length ≤ _
    rw [Array.length_toList]
    exact hn

/-- One part more: g, behind the others. -/
theorem SpSt.push (h : SpSt W base x xg glo ghi g Ag cg b o lo hi f A c) : ∃ L : List (Fm × Option Addr × Nat), L.length = f.kids.length ∧ W.ownsRow base 37 4 (.slice A f.kids.length c) L.length (flatF L) ∧ L.length ≤ 1000 ∧ (∀ k, (Value.slice A f.kids.length c).ownBlock = some k → lo ≤ k ∧ k < hi) ∧
    ∀ (w7 w9 : World) (A9 : Option Addr) (c9 : Nat), w7.heap.size = W.heap.size + 1 → (∀ k, k < W.heap.size → w7.heap[k]? = W.heap[k]?) → w9.ownsRow base 37 4 (.slice A9 (L.length + 1) c9) (L.length + 1) (flatF (L ++ [(.mk 0 [] 0 [], none, 0)])) → w7.grownBy w9 (Value.slice A f.kids.length c).ownBlock →
      ((Value.slice A9 (L.length + 1) c9).ownBlock = (Value.slice A f.kids.length c).ownBlock ∨ (Value.slice A9 (L.length + 1) c9).ownBlock = some w7.heap.size) → ∃ r, A9 = some ⟨r, 0, none⟩ ∧ r ≠ b ∧ base ≤ r ∧ r < w9.heap.size ∧ (∀ i, w9.frozen? ⟨r, i, none⟩ = false) ∧ FmAt w9 r (L.length * 4) (.mk 0 [] 0 []) none 0 ∧
        (∀ k, k < W.heap.size → ¬ (lo ≤ k ∧ k < hi) → w9.heap[k]? = W.heap[k]?) ∧
        ∀ W', w9.heap.size ≤ W'.heap.size → (∀ k, k < w9.heap.size → k ≠ r → k ≠ b → W'.heap[k]? = w9.heap[k]?) → (∀ i, i < L.length * 4 → W'.cell? ⟨r, i, none⟩ = w9.cell? ⟨r, i, none⟩) → FmAt W' r (L.length * 4) g Ag cg →
          (∀ i, i ≠ o + 3 → W'.cell? ⟨b, i, none⟩ = w9.cell? ⟨b, i, none⟩) → W'.cell? ⟨b, o + 3, none⟩ = some (.slice A9 (L.length + 1) c9) → Whole W' x := by
  have hlt := h.lt
  have hv := h.v.kids
  have h0 := h.out
  have h1 := h.g1
  have h2 := h.g2
  have h3 := h.g3
  have h6 := h.low
  have h7 := h.bs
  have h8 := h.hs
  generalize hkk : f.kids = ks at hv ⊢
  cases hv with
  | mk _ _ L _ _ I J ho hb hn hin hne hd hf hk =>
    rw [List.length_map]
    refine ⟨L, rfl, fm_own_keep ho h6 fun _ _ => rfl, hn, fun k e => ⟨(ho.lt k e).1, hb k e⟩, fun w7 w9 A9 c9 hs7 h7W ho9 hg9 hat => ?_⟩
    rw [flatF_snoc] at ho9
    have hlen9 := ho9.1
    have hv9 := ho9
    rcases ho9.2 with ⟨_, h0⟩ | ⟨r, c1, cur, hvv, hr, hcur, hnc, hcm, hcs, htk⟩
    · omega
    · injection hvv with hA9 _ hc9
      subst hA9 hc9
      have hvals := Vals.of_own hv9
      have hs9 := hg9.size
      have hrlt : r < w9.heap.size := (Array.getElem?_eq_some_iff.1 hcur).1
      have hrr : (lo ≤ r ∧ r < hi ∧ (Value.slice A L.length c).ownBlock = some r) ∨ r = w7.heap.size := by
        rcases hat with e | e
        · have e' : (Value.slice A L.length c).ownBlock = some r := e.symm.trans rfl
          exact .inl ⟨(ho.lt r e').1, hb r e', e'⟩
        · exact .inr (Option.some.inj e)
      have hrb : r ≠ b := by
        rcases hrr with ⟨h9, h10, _⟩ | e <;> omega
      have hcell : ∀ j u, (flatF L ++ fmC (.mk 0 [] 0 []) none 0)[j]? = some u → w9.cell? ⟨r, j, none⟩ = some u := fun j u hj => by
        obtain ⟨b', o', e', _, hc⟩ := hvals j u hj
        cases e'
        rw [Nat.zero_add] at hc
        exact hc
      have hfl := flatF_len L
      have hblk : ∀ k, k < W.heap.size → (Value.slice A L.length c).ownBlock ≠ some k → w9.heap[k]? = W.heap[k]? := fun k h9 h10 => (hg9.block k (by omega) (fun e => h10 e.symm)).trans (h7W k h9)
      have hblk2 : ∀ k, k < W.heap.size → ¬ (lo ≤ k ∧ k < hi) → w9.heap[k]? = W.heap[k]? := fun k h9 h10 => hblk k h9 fun e => h10 ⟨(ho.lt k e).1, hb k e⟩
      have hz : ∀ (j : Nat) (u : Value), (fmC (.mk 0 [] 0 []) none 0)[j]? = some u → w9.cell? ⟨r, L.length * 4 + j, none⟩ = some u := fun j u hj => hcell _ u (by
        rw [List.getElem?_append_right (by omega), show L.length * 4 + j - (flatF L).length = j by omega]
        exact hj)
      refine ⟨r, rfl, hrb, by omega, hrlt, fun i => Blk.frozen (t := 37) (cs := cur) hcur i, ⟨hz 0 _ rfl, hz 1 _ rfl, hz 2 _ rfl, hz 3 _ rfl⟩, hblk2, fun W' hsz hfar hrow hgat hbc hb3 => ?_⟩
      · have hb9 : ∀ i, w9.cell? ⟨b, i, none⟩ = W.cell? ⟨b, i, none⟩ := fun i => by simp only [World.cell?, hblk2 b hlt h0]
        have hW' : ∀ k, k < W.heap.size → k ≠ b → k ≠ r → (Value.slice A L.length c).ownBlock ≠ some k → W'.heap[k]? = W.heap[k]? := fun k h9 h10 h11 h12 => (hfar k (by omega) h11 h10).trans (hblk k h9 h12)
        have hlen : (f.kids ++ [g]).length = L.length + 1 := by rw [hkk]; simp
        refine h.H W' ⟨by omega, fun k h9 h10 h11 => ?_, fun i hi => ?_⟩ (.mk f.kind f.name f.lit (f.kids ++ [g])) (some ⟨r, 0, none⟩) c9 ⟨?_, ?_, ?_, ?_⟩ ⟨by show (f.kids ++ [g]).length ≤ c9; omega, by show (f.kids ++ [g]).length ≤ _; omega, h.v.kind, h.v.name, ?_⟩
        · have h12 : k ≠ r := by
            rcases hrr with ⟨h13, h14, _⟩ | e <;> omega
          exact hW' k h9 h11 h12 fun e => h10 ⟨(ho.lt k e).1, hb k e⟩
        · rw [hbc i (by omega), hb9]
        · rw [hbc _ (by omega), hb9]
          exact h.a.k
        · rw [hbc _ (by omega), hb9]
          exact h.a.n
        · rw [hbc _ (by omega), hb9]
          exact h.a.l
        · rw [hb3]
          show _ = some (Value.slice _ (f.kids ++ [g]).length c9)
          rw [hlen]
        · show FmS W' W'.heap.size (f.kids ++ [g]) (some ⟨r, 0, none⟩)
          have hget : ∀ i k, (f.kids ++ [g])[i]? = some k → (i = L.length ∧ k = g) ∨ (i < L.length ∧ ∃ y, L[i]? = some y ∧ y.1 = k) := fun i k hi => by
            rw [hkk] at hi
            by_cases hiL : i < L.length
            · rw [List.getElem?_append_left (by simpa using hiL), List.getElem?_map, List.getElem?_eq_getElem hiL] at hi
              exact .inr ⟨hiL, _, List.getElem?_eq_getElem hiL, Option.some.inj hi⟩
            · have hi' := (List.getElem?_eq_some_iff.1 hi).1
              simp only [List.length_append, List.length_map, List.length_cons, List.length_nil] at hi'
              have hiE : i = L.length := by omega
              subst hiE
              rw [List.getElem?_append_right (by simp)] at hi
              simp at hi
              exact .inl ⟨rfl, hi.symm⟩
          have hrowA : ∀ (i : Nat) (y : Fm × Option Addr × Nat), L[i]? = some y → FmAt W' r (i * 4) y.1 y.2.1 y.2.2 := fun i y hy => by
            have hiL := (List.getElem?_eq_some_iff.1 hy).1
            have hc : ∀ (j : Nat) (u : Value), j < 4 → (fmC y.1 y.2.1 y.2.2)[j]? = some u → W'.cell? ⟨r, i * 4 + j, none⟩ = some u := fun j u hj hu => by
              rw [hrow _ (by omega)]
              refine hcell _ u ?_
              rw [List.getElem?_append_left (by omega), flatF_get L i j y hy hj]
              exact hu
            exact ⟨hc 0 _ (by omega) rfl, hc 1 _ (by omega) rfl, hc 2 _ (by omega) rfl, hc 3 _ (by omega) rfl⟩
          have hkids : ∀ (i : Nat) (y : Fm × Option Addr × Nat), L[i]? = some y → FmS W' W'.heap.size y.1.kids y.2.1 := fun i y hy => by
            have hii := hin i y hy
            have h1 : FmT W' (I i) (J i) y.1.kids y.2.1 y.2.2 := (hk i y hy).keep fun k hk1 hk2 => hW' k (by omega) (by omega) (by
              rcases hrr with ⟨_, _, e⟩ | e
              · have := hne i y hy r e
                omega
              · omega) (fun e => by
              have := hne i y hy k e
              omega)
            exact h1.q.s fun b hb => by omega
          have hgS : FmS W' W'.heap.size g.kids Ag := by
            have h1 : FmT W' glo ghi g.kids Ag cg := h.gv.kids.keep fun k hk1 hk2 => hW' k (by omega) (by omega) (by
              rcases hrr with ⟨_, _, e⟩ | e <;> omega) (fun e => by
              have := hb k e
              omega)
            exact h1.q.s fun b hb => by omega
          refine .mk _ r 0 (fun i => if i < L.length then (L.getD i (g, Ag, cg)).2.1 else Ag) (fun i => if i < L.length then (L.getD i (g, Ag, cg)).2.2 else cg) (by omega) (fun i k hik => ?_) (fun i k hik => ?_)
          · rcases hget i k hik with ⟨rfl, rfl⟩ | ⟨hiL, y, hy, rfl⟩
            · simp only [Nat.lt_irrefl, if_false, Nat.zero_add]
              exact ⟨⟨hgat.k, hgat.n, hgat.l, hgat.s⟩, h.gv.cap, h.gv.big, h.gv.kind, h.gv.name⟩
            · simp only [hiL, if_true, Nat.zero_add, List.getD_eq_getElem?_getD, hy, Option.getD_some]
              have := hrowA i y hy
              exact ⟨⟨this.k, this.n, this.l, this.s⟩, hf i y hy⟩
          · rcases hget i k hik with ⟨rfl, rfl⟩ | ⟨hiL, y, hy, rfl⟩
            · simp only [Nat.lt_irrefl, if_false]
              exact hgS
            · simp only [hiL, if_true, List.getD_eq_getElem?_getD, hy, Option.getD_some]
              exact hkids i y hy
end

/-- Four cells stored. -/
abbrev st4 (W : World) (r p : Nat) (g : Fm) (Ag : Option Addr) (cg : Nat) : World :=
  (((W.setCell ⟨r, p, none⟩ (.int .i64 g.kind)).setCell ⟨r, p + 1, none⟩ (.string ⟨g.name.toArray⟩)).setCell ⟨r, p + 2, none⟩ (.int .i64 g.lit)).setCell ⟨r, p + 3, none⟩ (.slice Ag g.kids.length cg)
section
variable {W w9 : World} {x r b o p c9 c0 cg : Nat} {g z : Fm} {Ag A0 : Option Addr} {u0 v : Value}
theorem st4_size : (st4 W r p g Ag cg).heap.size = W.heap.size := by simp [World.setCell]
theorem st4_far {k : Nat} (h : k ≠ r) : (st4 W r p g Ag cg).heap[k]? = W.heap[k]? := by
  have hs : ∀ (V : World) (j : Nat) (u : Value), (V.setCell ⟨r, j, none⟩ u).heap[k]? = V.heap[k]? := fun V j u => Below.heap_setCell V ⟨r, j, none⟩ u k (by simpa using h)
  rw [hs, hs, hs, hs]
theorem st4_near {i : Nat} (h : i < p) : (st4 W r p g Ag cg).cell? ⟨r, i, none⟩ = W.cell? ⟨r, i, none⟩ := by
  rw [sc_ne (by omega), sc_ne (by omega), sc_ne (by omega), sc_ne (by omega)]
theorem st4_at (h : FmAt W r p z A0 c0) : FmAt (st4 W r p g Ag cg) r p g Ag cg := by
  refine ⟨?_, ?_, ?_, ?_⟩
  · rw [sc_ne (by omega), sc_ne (by omega), sc_ne (by omega)]
    exact sc_eq h.k
  · rw [sc_ne (by omega), sc_ne (by omega)]
    exact sc_eq ((sc_ne (by omega)).trans h.n)
  · rw [sc_ne (by omega)]
    exact sc_eq ((sc_ne (by omega)).trans ((sc_ne (by omega)).trans h.l))
  · exact sc_eq ((sc_ne (by omega)).trans ((sc_ne (by omega)).trans ((sc_ne (by omega)).trans h.s)))
theorem fill_a (hrb : r ≠ b) (hat : FmAt w9 r p z A0 c0) (e9 : w9.cell? ⟨b, o + 3, none⟩ = some u0)
    (hfin : ∀ W', w9.heap.size ≤ W'.heap.size → (∀ k, k < w9.heap.size → k ≠ r → k ≠ b → W'.heap[k]? = w9.heap[k]?) → (∀ i, i < p → W'.cell? ⟨r, i, none⟩ = w9.cell? ⟨r, i, none⟩) → FmAt W' r p g Ag cg → (∀ i, i ≠ o + 3 → W'.cell? ⟨b, i, none⟩ = w9.cell? ⟨b, i, none⟩) → W'.cell? ⟨b, o + 3, none⟩ = some v → Whole W' x) :
    Whole ((st4 w9 r p g Ag cg).setCell ⟨b, o + 3, none⟩ v) x := by
  have hb : (st4 w9 r p g Ag cg).heap[b]? = w9.heap[b]? := st4_far (by omega)
  have hbc : ∀ i, (st4 w9 r p g Ag cg).cell? ⟨b, i, none⟩ = w9.cell? ⟨b, i, none⟩ := fun i => by simp only [World.cell?, hb]
  have h4 := st4_at (g := g) (Ag := Ag) (cg := cg) hat
  refine hfin _ (by simp [World.setCell]) (fun k h1 h2 h3 => ?_) (fun i hi => ?_) ⟨(sc_far (by omega)).trans h4.k, (sc_far (by omega)).trans h4.n, (sc_far (by omega)).trans h4.l, (sc_far (by omega)).trans h4.s⟩ (fun i hi => (sc_ne (by omega)).trans (hbc i)) (sc_eq ((hbc _).trans e9))
  · exact (Below.heap_setCell _ ⟨b, o + 3, none⟩ _ k (by simpa using h3)).trans (st4_far h2)
  · exact (sc_far (by omega)).trans (st4_near hi)
theorem fill_b (hrb : r ≠ b) (hat : FmAt w9 r p z A0 c0) (e9 : w9.cell? ⟨b, o + 3, none⟩ = some u0)
    (hfin : ∀ W', w9.heap.size ≤ W'.heap.size → (∀ k, k < w9.heap.size → k ≠ r → k ≠ b → W'.heap[k]? = w9.heap[k]?) → (∀ i, i < p → W'.cell? ⟨r, i, none⟩ = w9.cell? ⟨r, i, none⟩) → FmAt W' r p g Ag cg → (∀ i, i ≠ o + 3 → W'.cell? ⟨b, i, none⟩ = w9.cell? ⟨b, i, none⟩) → W'.cell? ⟨b, o + 3, none⟩ = some v → Whole W' x) :
    Whole (st4 (w9.setCell ⟨b, o + 3, none⟩ v) r p g Ag cg) x := by
  have hb : (st4 (w9.setCell ⟨b, o + 3, none⟩ v) r p g Ag cg).heap[b]? = (w9.setCell ⟨b, o + 3, none⟩ v).heap[b]? := st4_far (by omega)
  have hbc : ∀ i, (st4 (w9.setCell ⟨b, o + 3, none⟩ v) r p g Ag cg).cell? ⟨b, i, none⟩ = (w9.setCell ⟨b, o + 3, none⟩ v).cell? ⟨b, i, none⟩ := fun i => by simp only [World.cell?, hb]
  have hat' : FmAt (w9.setCell ⟨b, o + 3, none⟩ v) r p z A0 c0 := ⟨(sc_far (by omega)).trans hat.k, (sc_far (by omega)).trans hat.n, (sc_far (by omega)).trans hat.l, (sc_far (by omega)).trans hat.s⟩
  refine hfin _ (by simp [World.setCell]) (fun k h1 h2 h3 => ?_) (fun i hi => ?_) (st4_at hat') (fun i hi => (hbc i).trans (sc_ne (by omega))) ((hbc _).trans (sc_eq e9))
  · exact (st4_far h2).trans (Below.heap_setCell _ ⟨b, o + 3, none⟩ _ k (by simpa using h3))
  · exact (st4_near hi).trans (sc_far (by omega))
end
end Go.Proofs.YtijecfmblddanaaDoor
