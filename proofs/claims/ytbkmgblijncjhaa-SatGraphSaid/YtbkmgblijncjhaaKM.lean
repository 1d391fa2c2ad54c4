/- A solver in memory. A solver in memory: what a store does. A solver: abs, is, look. A solver: put. A solver: what the numbers tell, behind a put. A solver: follow. A solver: guess. A solver: assume, best, turn. A solver: turn, model. A solver: back. A solver in memory: a clause more, a row under a literal more, another label. -/
import Derived.Test.YtbkmgblijncjhaaK1
import Derived.Test.YtbkmgblijncjhaaG1
import Derived.Test.YtbkmgblijncjhaaProg
set_option linter.unusedVariables false
set_option linter.unusedSimpArgs false
namespace Go.Proofs.Ytbkmgblijncjhaa
open Go.RowKit Go.Maps

/-- Whose a block is. -/
inductive Lab where
  | s | val | lev | rsn | last | wt | tr | lim | cls | map | cl
  | und (x : Int)
/-- Where the solver's parts lie. -/
structure SG where
  vb : Nat
  lb : Nat
  rb : Nat
  ob : Nat
  wb : Nat
  um : Nat
  un : Nat
  V : List Int
  LV : List Int
  RV : List Int
  OV : List Int
  WV : List Int
  T : Option Addr
  ct : Nat
  L : Option Addr
  cl : Nat
  C : Option Addr
  cc : Nat
  CS : List (Option Addr × Nat)
  U : Int → Option Addr × Nat
  und : Int → List Nat
  wrong : Int
  dead : Bool
abbrev Owns := Nat → Option Lab

def natV (l : List Nat) : List Value := l.map fun k : Nat => Value.int .i64 (k : Int)
def clV (x : List Int × Option Addr × Nat) : Value := .slice x.2.1 x.1.length x.2.2
/-- The solver's own cells. -/
def sCells (n : Nat) (s : SS) (G : SG) : Array Value :=
  #[.int .i64 (n : Int), .slice G.C s.cls.length G.cc, .map (some G.um), .slice (some ⟨G.vb, 0, none⟩) (n + 1) (n + 1), .slice (some ⟨G.lb, 0, none⟩) (n + 1) (n + 1), .slice (some ⟨G.rb, 0, none⟩) (n + 1) (n + 1), .slice (some ⟨G.ob, 0, none⟩) (n + 1) (n + 1), .slice (some ⟨G.wb, 0, none⟩) (n + 1) (n + 1),
    .slice G.T s.tr.length G.ct, .int .i64 (s.done : Int), .slice G.L s.lims.length G.cl, .int .i64 G.wrong, .bool G.dead]

/-- A row of n + 1 numbers. -/
structure ArrM (w : World) (n b : Nat) (xs : List Int) (o : Owns) (l : Lab) : Prop where
  blk : Blk w b 3 (i64s xs).toArray
  len : xs.length = n + 1
  own : o b = some l
/-- The solver in memory. -/
structure SMem (w : World) (base b n : Nat) (s : SS) (G : SG) (o : Owns) : Prop where
  sb : Blk w b 68 (sCells n s G)
  so : o b = some .s
  v : ArrM w n G.vb G.V o .val
  l : ArrM w n G.lb G.LV o .lev
  r : ArrM w n G.rb G.RV o .rsn
  ot : ArrM w n G.ob G.OV o .last
  wt : ArrM w n G.wb G.WV o .wt
  tr : w.ownsRow base 3 1 (.slice G.T s.tr.length G.ct) s.tr.length (i64s s.lits)
  tro : ∀ k, (Value.slice G.T s.tr.length G.ct).ownBlock = some k → o k = some .tr
  lm : w.ownsRow base 3 1 (.slice G.L s.lims.length G.cl) s.lims.length (natV s.lims)
  lmo : ∀ k, (Value.slice G.L s.lims.length G.cl).ownBlock = some k → o k = some .lim
  cs : w.ownsRow base 25 1 (.slice G.C s.cls.length G.cc) s.cls.length ((s.cls.zip G.CS).map clV)
  cso : ∀ k, (Value.slice G.C s.cls.length G.cc).ownBlock = some k → o k = some .cls
  csl : G.CS.length = s.cls.length
  cl : ∀ (i : Nat) (c : List Int) (A : Option Addr × Nat), s.cls[i]? = some c → G.CS[i]? = some A → Vals w w.heap.size A.1 (i64s c) ∧ c.length ≤ A.2 ∧ ∀ k p, A.1 = some ⟨k, p, none⟩ → o k = some .cl
  mp : IMap Try.prog 3 w G.um G.un (fun x => if G.und x = [] then none else some (.slice (G.U x).1 (G.und x).length (G.U x).2))
  mpo : o G.um = some .map
  ur : ∀ x, w.ownsRow base 3 1 (.slice (G.U x).1 (G.und x).length (G.U x).2) (G.und x).length (natV (G.und x))
  uro : ∀ x k, (Value.slice (G.U x).1 (G.und x).length (G.U x).2).ownBlock = some k → o k = some (.und x)
  uz : ∀ x, G.und x = [] → G.U x = (none, 0)
  ol : ∀ k l, o k = some l → base ≤ k ∧ k < w.heap.size
/-- The numbers tell what the trail says. -/
structure SRel (n : Nat) (s : SS) (G : SG) : Prop where
  vv : ∀ v : Nat, 1 ≤ v → v ≤ n → G.V[v]? = some (valL s.lits v)
  lv : ∀ (i : Nat) (x : Int), s.lits[i]? = some x → G.LV[x.natAbs]? = some (levAt s.lims i : Int)
  rv : ∀ (i : Nat) (x r : Int), s.tr[i]? = some (x, r) → G.RV[x.natAbs]? = some r
  ui : UInv s G.und

/-- Old blocks that are not the solver's are as they were. -/
structure SFr (o : Owns) (w w' : World) : Prop where
  os : w'.os = w.os
  tape : w'.tape = w.tape
  output : w'.output = w.output
  size : w.heap.size ≤ w'.heap.size
  block : ∀ k, k < w.heap.size → o k = none → w'.heap[k]? = w.heap[k]?
/-- The labels of old blocks stay. -/
def Olds (w : World) (o o' : Owns) : Prop := ∀ k, k < w.heap.size → o' k = o k

section
variable {w w' w'' : World} {base b n : Nat} {s : SS} {G : SG} {o o' o'' : Owns} {lb' : Lab}
theorem SFr.refl (o : Owns) (w : World) : SFr o w w := ⟨rfl, rfl, rfl, Nat.le_refl _, fun _ _ _ => rfl⟩
theorem SFr.trans (h : SFr o w w') (h' : SFr o' w' w'') (ho : Olds w o o') : SFr o w w'' :=
  ⟨h'.os.trans h.os, h'.tape.trans h.tape, h'.output.trans h.output, Nat.le_trans h.size h'.size, fun k h1 h2 => (h'.block k (Nat.lt_of_lt_of_le h1 h.size) ((ho k h1).trans h2)).trans (h.block k h1 h2)⟩
theorem Olds.refl (w : World) (o : Owns) : Olds w o o := fun _ _ => rfl
theorem Olds.trans (h : Olds w o o') (hs : w.heap.size ≤ w'.heap.size) (h' : Olds w' o' o'') : Olds w o o'' := fun k hk => (h' k (Nat.lt_of_lt_of_le hk hs)).trans (h k hk)
theorem SFr.of_below (hb : Below w.heap.size w w') (o : Owns) : SFr o w w' := ⟨hb.os, hb.tape, hb.output, hb.size, fun k h _ => hb.block k h⟩
theorem SFr.set (h : SFr o w w') {k i : Nat} (u : Value) (hk : w.heap.size ≤ k ∨ o k ≠ none) : SFr o w (w'.setCell ⟨k, i, none⟩ u) :=
  ⟨h.os, h.tape, h.output, by simpa [World.setCell] using h.size, fun j h1 h2 => (Below.heap_setCell w' ⟨k, i, none⟩ u j (by
    show j ≠ k
    intro e
    subst e
    rcases hk with h3 | h3
    · omega
    · exact h3 h2)).trans (h.block j h1 h2)⟩
theorem SFr.grown (h : SFr o w w') {row : Option Nat} (hg : w'.grownBy w'' row) (hk : ∀ k, row = some k → w.heap.size ≤ k ∨ o k ≠ none) : SFr o w w'' :=
  ⟨hg.os.trans h.os, hg.tape.trans h.tape, hg.output.trans h.output, Nat.le_trans h.size hg.size, fun j h1 h2 => (hg.block j (Nat.lt_of_lt_of_le h1 h.size) (fun e => by
    rcases hk j e.symm with h3 | h3
    · omega
    · exact h3 h2)).trans (h.block j h1 h2)⟩

theorem ArrM.keep {b' : Nat} {xs : List Int} {l : Lab} (h : ArrM w n b' xs o l) (hk : w'.heap[b']? = w.heap[b']?) (ho : o' b' = o b') : ArrM w' n b' xs o' l := ⟨hk.trans h.blk, h.len, ho.trans h.own⟩
theorem row_keep {e : TypeId} {z : Nat} {v : Value} {m : Nat} {xs : List Value} (h : w.ownsRow base e z v m xs) (hk : ∀ k, v.ownBlock = some k → w'.heap[k]? = w.heap[k]?) : w'.ownsRow base e z v m xs := by
  refine ⟨h.1, ?_⟩
  rcases h.2 with hn | ⟨g, cap, cur, rfl, hg, hgg, rest⟩
  · exact .inl hn
  · exact .inr ⟨g, cap, cur, rfl, hg, (hk g rfl).trans hgg, rest⟩
/-- Nothing of the solver's has turned. -/
theorem SMem.keep (h : SMem w base b n s G o) (hs : w.heap.size ≤ w'.heap.size) (hk : ∀ k l, o k = some l → w'.heap[k]? = w.heap[k]?) : SMem w' base b n s G o := by
  refine ⟨(hk _ _ h.so).trans h.sb, h.so, h.v.keep (hk _ _ h.v.own) rfl, h.l.keep (hk _ _ h.l.own) rfl, h.r.keep (hk _ _ h.r.own) rfl, h.ot.keep (hk _ _ h.ot.own) rfl, h.wt.keep (hk _ _ h.wt.own) rfl, row_keep h.tr fun k e => hk _ _ (h.tro k e), h.tro, row_keep h.lm fun k e => hk _ _ (h.lmo k e), h.lmo,
    row_keep h.cs fun k e => hk _ _ (h.cso k e), h.cso, h.csl, fun i c A h1 h2 => ?_, h.mp.same (hk _ _ h.mpo), h.mpo, fun x => row_keep (h.ur x) fun k e => hk _ _ (h.uro x k e), h.uro, h.uz, fun k l e => ?_⟩
  · obtain ⟨h3, h4, h5⟩ := h.cl i c A h1 h2
    refine ⟨fun j u hj => ?_, h4, h5⟩
    obtain ⟨k, p, e, h6, h7⟩ := h3 j u hj
    refine ⟨k, p, e, Nat.lt_of_lt_of_le h6 hs, ?_⟩
    rw [← h7]
    simp only [World.cell?, hk _ _ (h5 k p e)]
  · have := h.ol k l e
    omega
theorem SMem.after (h : SMem w base b n s G o) (hb : Below w.heap.size w w') : SMem w' base b n s G o := h.keep hb.size fun k l e => hb.block k (h.ol k l e).2
theorem SMem.base_le (h : SMem w base b n s G o) : base ≤ w.heap.size := by
  have := h.ol b _ h.so
  omega
end
end Go.Proofs.Ytbkmgblijncjhaa

set_option linter.unusedVariables false
set_option linter.unusedSimpArgs false
namespace Go.Proofs.Ytbkmgblijncjhaa
open Go.RowKit Go.Maps

theorem i64s_set (m : List Int) (i : Nat) (y : Int) : ((i64s m).toArray).setIfInBounds i (.int .i64 y) = (i64s (m.set i y)).toArray := by
  simp [i64s, List.map_set]
section
variable {w w' w9 : World} {base b n : Nat} {s : SS} {G : SG} {o o' : Owns}
theorem cl_keep {c : List Int} {A : Option Addr × Nat} (h : Vals w w.heap.size A.1 (i64s c) ∧ c.length ≤ A.2 ∧ ∀ k p, A.1 = some ⟨k, p, none⟩ → o k = some .cl) (hs : w.heap.size ≤ w'.heap.size) (hk : ∀ k, o k = some .cl → w'.heap[k]? = w.heap[k]?) : Vals w' w'.heap.size A.1 (i64s c) ∧ c.length ≤ A.2 ∧ ∀ k p, A.1 = some ⟨k, p, none⟩ → o k = some .cl := by
  obtain ⟨h3, h4, h5⟩ := h
  refine ⟨fun j u hj => ?_, h4, h5⟩
  obtain ⟨k, p, e, h6, h7⟩ := h3 j u hj
  refine ⟨k, p, e, Nat.lt_of_lt_of_le h6 hs, ?_⟩
  rw [← h7]
  simp only [World.cell?, hk _ (h5 k p e)]
theorem lab_set {g i : Nat} {u : Value} {L : Lab} (hg : o g = some L) : ∀ k lb, o k = some lb → lb ≠ L → (w.setCell ⟨g, i, none⟩ u).heap[k]? = w.heap[k]? := fun k lb e hne => Below.heap_setCell w ⟨g, i, none⟩ u k (by
  show k ≠ g
  intro e2
  subst e2
  rw [hg] at e
  exact hne (Option.some.inj e).symm)
theorem set_size (g i : Nat) (u : Value) : w.heap.size ≤ (w.setCell ⟨g, i, none⟩ u).heap.size := by simp [World.setCell]
theorem SMem.set_v (h : SMem w base b n s G o) (i : Nat) (u : Int) : SMem (w.setCell ⟨G.vb, i, none⟩ (.int .i64 u)) base b n s { G with V := G.V.set i u } o := by
  have hk := lab_set (w := w) (i := i) (u := .int .i64 u) h.v.own
  have hs := set_size (w := w) G.vb i (.int .i64 u)
  exact ⟨(hk _ _ h.so (by simp)).trans h.sb, h.so, ⟨by rw [← i64s_set]; exact h.v.blk.set_ i (.int .i64 u), by simpa using h.v.len, h.v.own⟩, h.l.keep (hk _ _ h.l.own (by simp)) rfl, h.r.keep (hk _ _ h.r.own (by simp)) rfl, h.ot.keep (hk _ _ h.ot.own (by simp)) rfl, h.wt.keep (hk _ _ h.wt.own (by simp)) rfl, row_keep h.tr fun k e => hk _ _ (h.tro k e) (by simp), h.tro, row_keep h.lm fun k e => hk _ _ (h.lmo k e) (by simp), h.lmo, row_keep h.cs fun k e => hk _ _ (h.cso k e) (by simp), h.cso, h.csl, fun i c A h1 h2 => cl_keep (h.cl i c A h1 h2) hs fun k e => hk _ _ e (by simp), h.mp.same (hk _ _ h.mpo (by simp)), h.mpo, fun x => row_keep (h.ur x) fun k e => hk _ _ (h.uro x k e) (by simp), h.uro, h.uz, fun k lb e => ⟨(h.ol k lb e).1, Nat.lt_of_lt_of_le (h.ol k lb e).2 hs⟩⟩
theorem SMem.set_l (h : SMem w base b n s G o) (i : Nat) (u : Int) : SMem (w.setCell ⟨G.lb, i, none⟩ (.int .i64 u)) base b n s { G with LV := G.LV.set i u } o := by
  have hk := lab_set (w := w) (i := i) (u := .int .i64 u) h.l.own
  have hs := set_size (w := w) G.lb i (.int .i64 u)
  exact ⟨(hk _ _ h.so (by simp)).trans h.sb, h.so, h.v.keep (hk _ _ h.v.own (by simp)) rfl, ⟨by rw [← i64s_set]; exact h.l.blk.set_ i (.int .i64 u), by simpa using h.l.len, h.l.own⟩, h.r.keep (hk _ _ h.r.own (by simp)) rfl, h.ot.keep (hk _ _ h.ot.own (by simp)) rfl, h.wt.keep (hk _ _ h.wt.own (by simp)) rfl, row_keep h.tr fun k e => hk _ _ (h.tro k e) (by simp), h.tro, row_keep h.lm fun k e => hk _ _ (h.lmo k e) (by simp), h.lmo, row_keep h.cs fun k e => hk _ _ (h.cso k e) (by simp), h.cso, h.csl, fun i c A h1 h2 => cl_keep (h.cl i c A h1 h2) hs fun k e => hk _ _ e (by simp), h.mp.same (hk _ _ h.mpo (by simp)), h.mpo, fun x => row_keep (h.ur x) fun k e => hk _ _ (h.uro x k e) (by simp), h.uro, h.uz, fun k lb e => ⟨(h.ol k lb e).1, Nat.lt_of_lt_of_le (h.ol k lb e).2 hs⟩⟩
theorem SMem.set_r (h : SMem w base b n s G o) (i : Nat) (u : Int) : SMem (w.setCell ⟨G.rb, i, none⟩ (.int .i64 u)) base b n s { G with RV := G.RV.set i u } o := by
  have hk := lab_set (w := w) (i := i) (u := .int .i64 u) h.r.own
  have hs := set_size (w := w) G.rb i (.int .i64 u)
  exact ⟨(hk _ _ h.so (by simp)).trans h.sb, h.so, h.v.keep (hk _ _ h.v.own (by simp)) rfl, h.l.keep (hk _ _ h.l.own (by simp)) rfl, ⟨by rw [← i64s_set]; exact h.r.blk.set_ i (.int .i64 u), by simpa using h.r.len, h.r.own⟩, h.ot.keep (hk _ _ h.ot.own (by simp)) rfl, h.wt.keep (hk _ _ h.wt.own (by simp)) rfl, row_keep h.tr fun k e => hk _ _ (h.tro k e) (by simp), h.tro, row_keep h.lm fun k e => hk _ _ (h.lmo k e) (by simp), h.lmo, row_keep h.cs fun k e => hk _ _ (h.cso k e) (by simp), h.cso, h.csl, fun i c A h1 h2 => cl_keep (h.cl i c A h1 h2) hs fun k e => hk _ _ e (by simp), h.mp.same (hk _ _ h.mpo (by simp)), h.mpo, fun x => row_keep (h.ur x) fun k e => hk _ _ (h.uro x k e) (by simp), h.uro, h.uz, fun k lb e => ⟨(h.ol k lb e).1, Nat.lt_of_lt_of_le (h.ol k lb e).2 hs⟩⟩
theorem SMem.set_ot (h : SMem w base b n s G o) (i : Nat) (u : Int) : SMem (w.setCell ⟨G.ob, i, none⟩ (.int .i64 u)) base b n s { G with OV := G.OV.set i u } o := by
  have hk := lab_set (w := w) (i := i) (u := .int .i64 u) h.ot.own
  have hs := set_size (w := w) G.ob i (.int .i64 u)
  exact ⟨(hk _ _ h.so (by simp)).trans h.sb, h.so, h.v.keep (hk _ _ h.v.own (by simp)) rfl, h.l.keep (hk _ _ h.l.own (by simp)) rfl, h.r.keep (hk _ _ h.r.own (by simp)) rfl, ⟨by rw [← i64s_set]; exact h.ot.blk.set_ i (.int .i64 u), by simpa using h.ot.len, h.ot.own⟩, h.wt.keep (hk _ _ h.wt.own (by simp)) rfl, row_keep h.tr fun k e => hk _ _ (h.tro k e) (by simp), h.tro, row_keep h.lm fun k e => hk _ _ (h.lmo k e) (by simp), h.lmo, row_keep h.cs fun k e => hk _ _ (h.cso k e) (by simp), h.cso, h.csl, fun i c A h1 h2 => cl_keep (h.cl i c A h1 h2) hs fun k e => hk _ _ e (by simp), h.mp.same (hk _ _ h.mpo (by simp)), h.mpo, fun x => row_keep (h.ur x) fun k e => hk _ _ (h.uro x k e) (by simp), h.uro, h.uz, fun k lb e => ⟨(h.ol k lb e).1, Nat.lt_of_lt_of_le (h.ol k lb e).2 hs⟩⟩
theorem SMem.set_wt (h : SMem w base b n s G o) (i : Nat) (u : Int) : SMem (w.setCell ⟨G.wb, i, none⟩ (.int .i64 u)) base b n s { G with WV := G.WV.set i u } o := by
  have hk := lab_set (w := w) (i := i) (u := .int .i64 u) h.wt.own
  have hs := set_size (w := w) G.wb i (.int .i64 u)
  exact ⟨(hk _ _ h.so (by simp)).trans h.sb, h.so, h.v.keep (hk _ _ h.v.own (by simp)) rfl, h.l.keep (hk _ _ h.l.own (by simp)) rfl, h.r.keep (hk _ _ h.r.own (by simp)) rfl, h.ot.keep (hk _ _ h.ot.own (by simp)) rfl, ⟨by rw [← i64s_set]; exact h.wt.blk.set_ i (.int .i64 u), by simpa using h.wt.len, h.wt.own⟩, row_keep h.tr fun k e => hk _ _ (h.tro k e) (by simp), h.tro, row_keep h.lm fun k e => hk _ _ (h.lmo k e) (by simp), h.lmo, row_keep h.cs fun k e => hk _ _ (h.cso k e) (by simp), h.cso, h.csl, fun i c A h1 h2 => cl_keep (h.cl i c A h1 h2) hs fun k e => hk _ _ e (by simp), h.mp.same (hk _ _ h.mpo (by simp)), h.mpo, fun x => row_keep (h.ur x) fun k e => hk _ _ (h.uro x k e) (by simp), h.uro, h.uz, fun k lb e => ⟨(h.ol k lb e).1, Nat.lt_of_lt_of_le (h.ol k lb e).2 hs⟩⟩
theorem SMem.set_done (h : SMem w base b n s G o) (d : Nat) : SMem (w.setCell ⟨b, 9, none⟩ (.int .i64 (d : Int))) base b n { s with done := d } G o := by
  have hk := lab_set (w := w) (i := 9) (u := .int .i64 (d : Int)) h.so
  have hs := set_size (w := w) b 9 (.int .i64 (d : Int))
  exact ⟨h.sb.set_ 9 (.int .i64 (d : Int)), h.so, h.v.keep (hk _ _ h.v.own (by simp)) rfl, h.l.keep (hk _ _ h.l.own (by simp)) rfl, h.r.keep (hk _ _ h.r.own (by simp)) rfl, h.ot.keep (hk _ _ h.ot.own (by simp)) rfl, h.wt.keep (hk _ _ h.wt.own (by simp)) rfl, row_keep h.tr fun k e => hk _ _ (h.tro k e) (by simp), h.tro, row_keep h.lm fun k e => hk _ _ (h.lmo k e) (by simp), h.lmo, row_keep h.cs fun k e => hk _ _ (h.cso k e) (by simp), h.cso, h.csl, fun i c A h1 h2 => cl_keep (h.cl i c A h1 h2) hs fun k e => hk _ _ e (by simp), h.mp.same (hk _ _ h.mpo (by simp)), h.mpo, fun x => row_keep (h.ur x) fun k e => hk _ _ (h.uro x k e) (by simp), h.uro, h.uz, fun k lb e => ⟨(h.ol k lb e).1, Nat.lt_of_lt_of_le (h.ol k lb e).2 hs⟩⟩
theorem SMem.set_dead (h : SMem w base b n s G o) (d : Bool) : SMem (w.setCell ⟨b, 12, none⟩ (.bool d)) base b n s { G with dead := d } o := by
  have hk := lab_set (w := w) (i := 12) (u := .bool d) h.so
  have hs := set_size (w := w) b 12 (.bool d)
  exact ⟨h.sb.set_ 12 (.bool d), h.so, h.v.keep (hk _ _ h.v.own (by simp)) rfl, h.l.keep (hk _ _ h.l.own (by simp)) rfl, h.r.keep (hk _ _ h.r.own (by simp)) rfl, h.ot.keep (hk _ _ h.ot.own (by simp)) rfl, h.wt.keep (hk _ _ h.wt.own (by simp)) rfl, row_keep h.tr fun k e => hk _ _ (h.tro k e) (by simp), h.tro, row_keep h.lm fun k e => hk _ _ (h.lmo k e) (by simp), h.lmo, row_keep h.cs fun k e => hk _ _ (h.cso k e) (by simp), h.cso, h.csl, fun i c A h1 h2 => cl_keep (h.cl i c A h1 h2) hs fun k e => hk _ _ e (by simp), h.mp.same (hk _ _ h.mpo (by simp)), h.mpo, fun x => row_keep (h.ur x) fun k e => hk _ _ (h.uro x k e) (by simp), h.uro, h.uz, fun k lb e => ⟨(h.ol k lb e).1, Nat.lt_of_lt_of_le (h.ol k lb e).2 hs⟩⟩
theorem SMem.set_wrong (h : SMem w base b n s G o) (d : Int) : SMem (w.setCell ⟨b, 11, none⟩ (.int .i64 d)) base b n s { G with wrong := d } o := by
  have hk := lab_set (w := w) (i := 11) (u := .int .i64 d) h.so
  have hs := set_size (w := w) b 11 (.int .i64 d)
  exact ⟨h.sb.set_ 11 (.int .i64 d), h.so, h.v.keep (hk _ _ h.v.own (by simp)) rfl, h.l.keep (hk _ _ h.l.own (by simp)) rfl, h.r.keep (hk _ _ h.r.own (by simp)) rfl, h.ot.keep (hk _ _ h.ot.own (by simp)) rfl, h.wt.keep (hk _ _ h.wt.own (by simp)) rfl, row_keep h.tr fun k e => hk _ _ (h.tro k e) (by simp), h.tro, row_keep h.lm fun k e => hk _ _ (h.lmo k e) (by simp), h.lmo, row_keep h.cs fun k e => hk _ _ (h.cso k e) (by simp), h.cso, h.csl, fun i c A h1 h2 => cl_keep (h.cl i c A h1 h2) hs fun k e => hk _ _ e (by simp), h.mp.same (hk _ _ h.mpo (by simp)), h.mpo, fun x => row_keep (h.ur x) fun k e => hk _ _ (h.uro x k e) (by simp), h.uro, h.uz, fun k lb e => ⟨(h.ol k lb e).1, Nat.lt_of_lt_of_le (h.ol k lb e).2 hs⟩⟩
open Classical in
/-- Who owns a row that has grown. -/
noncomputable def ownR (o : Owns) (v : Value) (l : Lab) : Owns := fun k => if v.ownBlock = some k then some l else o k
theorem ownR_old {v v' : Value} {l : Lab} (h : ∀ k, v.ownBlock = some k → o k = some l) (hat : v'.ownBlock = v.ownBlock ∨ v'.ownBlock = some w.heap.size) : Olds w o (ownR o v' l) := fun k hk => by
  unfold ownR
  split
  · next e =>
    rcases hat with e2 | e2
    · exact (h k (e2.symm.trans e)).symm
    · rw [e2] at e
      have := Option.some.inj e
      omega
  · rfl
theorem cl_own {c : List Int} {A : Option Addr × Nat} (h : Vals w w.heap.size A.1 (i64s c) ∧ c.length ≤ A.2 ∧ ∀ k p, A.1 = some ⟨k, p, none⟩ → o k = some .cl) (ho : ∀ k, o k = some .cl → o' k = some .cl) : Vals w w.heap.size A.1 (i64s c) ∧ c.length ≤ A.2 ∧ ∀ k p, A.1 = some ⟨k, p, none⟩ → o' k = some .cl :=
  ⟨h.1, h.2.1, fun k p e => ho k (h.2.2 k p e)⟩
/-- The trail: one more, behind an append. -/
theorem SMem.push_tr (h : SMem w base b n s G o) (x r : Int) {A' : Option Addr} {c' : Nat} (ho : w9.ownsRow base 3 1 (.slice A' (s.tr.length + 1) c') (s.tr.length + 1) (i64s s.lits ++ [.int .i64 x])) (hg : w.grownBy w9 (Value.slice G.T s.tr.length G.ct).ownBlock)
    (hat : (Value.slice A' (s.tr.length + 1) c').ownBlock = (Value.slice G.T s.tr.length G.ct).ownBlock ∨ (Value.slice A' (s.tr.length + 1) c').ownBlock = some w.heap.size) :
    SMem (w9.setCell ⟨b, 8, none⟩ (.slice A' (s.tr.length + 1) c')) base b n (s.put x r) { G with T := A', ct := c' } (ownR o (.slice A' (s.tr.length + 1) c') .tr) ∧ Olds w o (ownR o (.slice A' (s.tr.length + 1) c') .tr) ∧ SFr o w (w9.setCell ⟨b, 8, none⟩ (.slice A' (s.tr.length + 1) c')) := by
  have hO := ownR_old (w := w) h.tro hat
  have hbl := (h.ol _ _ h.so).2
  have hb9 : w9.heap[b]? = w.heap[b]? := hg.block b hbl fun e => by
    have := h.tro b e.symm
    rw [h.so] at this
    cases this
  have hs : w.heap.size ≤ (w9.setCell ⟨b, 8, none⟩ (.slice A' (s.tr.length + 1) c')).heap.size := by
    have := hg.size
    simpa [World.setCell] using this
  have hk : ∀ k lb, o k = some lb → lb ≠ .s → lb ≠ .tr → (w9.setCell ⟨b, 8, none⟩ (.slice A' (s.tr.length + 1) c')).heap[k]? = w.heap[k]? := fun k lb e h1 h2 => by
    refine (Below.heap_setCell w9 ⟨b, 8, none⟩ _ k ?_).trans (hg.block k (h.ol _ _ e).2 fun e2 => ?_)
    · show k ≠ b
      intro e2
      subst e2
      rw [h.so] at e
      exact h1 (Option.some.inj e).symm
    · have := h.tro k e2.symm
      rw [e] at this
      exact h2 (Option.some.inj this)
  have hsb : Blk (w9.setCell ⟨b, 8, none⟩ (.slice A' (s.tr.length + 1) c')) b 68 (sCells n (s.put x r) { G with T := A', ct := c' }) := by
    have h1 : Blk w9 b 68 (sCells n s G) := hb9.trans h.sb
    have h2 := h1.set_ 8 (.slice A' (s.tr.length + 1) c')
    have e : (sCells n s G).setIfInBounds 8 (.slice A' (s.tr.length + 1) c') = sCells n (s.put x r) { G with T := A', ct := c' } := by
      simp [sCells, SS.put, SS.guess]
    rwa [e] at h2
  have hnb : ∀ k, (Value.slice A' (s.tr.length + 1) c').ownBlock = some k → k ≠ b := fun k e e2 => by
    subst e2
    have h1 := hO k hbl
    unfold ownR at h1
    rw [if_pos e, h.so] at h1
    cases h1
  have hrow0 : (w9.setCell ⟨b, 8, none⟩ (.slice A' (s.tr.length + 1) c')).ownsRow base 3 1 (.slice A' (s.tr.length + 1) c') (s.tr.length + 1) (i64s s.lits ++ [.int .i64 x]) := row_keep ho fun k e => Below.heap_setCell w9 ⟨b, 8, none⟩ _ k (hnb k e)
  have hrow : (w9.setCell ⟨b, 8, none⟩ (.slice A' (s.tr.length + 1) c')).ownsRow base 3 1 (.slice A' ((s.put x r)).tr.length c') ((s.put x r)).tr.length (i64s ((s.put x r)).lits) := by
    rw [put_lits, i64s_snoc]
    simpa [SS.put] using hrow0
  have hol : ∀ k lb, ownR o (.slice A' (s.tr.length + 1) c') .tr k = some lb → base ≤ k ∧ k < (w9.setCell ⟨b, 8, none⟩ (.slice A' (s.tr.length + 1) c')).heap.size := fun k lb e => by
    unfold ownR at e
    split at e
    · next e1 =>
      have := hrow0.lt k e1
      omega
    · have := h.ol k lb e
      omega
  refine ⟨⟨hsb, (hO _ (h.ol _ _ h.so).2).trans h.so, h.v.keep (hk _ _ h.v.own (by simp) (by simp)) (hO _ (h.ol _ _ h.v.own).2), h.l.keep (hk _ _ h.l.own (by simp) (by simp)) (hO _ (h.ol _ _ h.l.own).2), h.r.keep (hk _ _ h.r.own (by simp) (by simp)) (hO _ (h.ol _ _ h.r.own).2), h.ot.keep (hk _ _ h.ot.own (by simp) (by simp)) (hO _ (h.ol _ _ h.ot.own).2), h.wt.keep (hk _ _ h.wt.own (by simp) (by simp)) (hO _ (h.ol _ _ h.wt.own).2), hrow, fun k e => if_pos (show _ = some k from (by rw [← e]; cases A' <;> rfl)), row_keep h.lm fun k e => hk _ _ (h.lmo k e) (by simp) (by simp), fun k e => (hO k (h.ol _ _ (h.lmo k e)).2).trans (h.lmo k e), row_keep h.cs fun k e => hk _ _ (h.cso k e) (by simp) (by simp), fun k e => (hO k (h.ol _ _ (h.cso k e)).2).trans (h.cso k e), h.csl, fun i c A h1 h2 => cl_own (cl_keep (h.cl i c A h1 h2) hs fun k e => hk _ _ e (by simp) (by simp)) fun k e => (hO k (h.ol _ _ e).2).trans e, h.mp.same (hk _ _ h.mpo (by simp) (by simp)), (hO _ (h.ol _ _ h.mpo).2).trans h.mpo, fun x => row_keep (h.ur x) fun k e => hk _ _ (h.uro x k e) (by simp) (by simp), fun x k e => (hO k (h.ol _ _ (h.uro x k e)).2).trans (h.uro x k e), h.uz, hol⟩, hO, ?_⟩
  refine ((SFr.refl o w).grown hg fun k e => .inr ?_).set _ (.inr ?_)
  · rw [h.tro k e]
    simp
  · rw [h.so]
    simp
/-- The limits: one more, behind an append. -/
theorem SMem.push_lm (h : SMem w base b n s G o) (d : Nat) {A' : Option Addr} {c' : Nat} (ho : w9.ownsRow base 3 1 (.slice A' (s.lims.length + 1) c') (s.lims.length + 1) (natV s.lims ++ [.int .i64 (d : Int)])) (hg : w.grownBy w9 (Value.slice G.L s.lims.length G.cl).ownBlock)
    (hat : (Value.slice A' (s.lims.length + 1) c').ownBlock = (Value.slice G.L s.lims.length G.cl).ownBlock ∨ (Value.slice A' (s.lims.length + 1) c').ownBlock = some w.heap.size) :
    SMem (w9.setCell ⟨b, 10, none⟩ (.slice A' (s.lims.length + 1) c')) base b n { s with lims := s.lims ++ [d] } { G with L := A', cl := c' } (ownR o (.slice A' (s.lims.length + 1) c') .lim) ∧ Olds w o (ownR o (.slice A' (s.lims.length + 1) c') .lim) ∧ SFr o w (w9.setCell ⟨b, 10, none⟩ (.slice A' (s.lims.length + 1) c')) := by
  have hO := ownR_old (w := w) h.lmo hat
  have hbl := (h.ol _ _ h.so).2
  have hb9 : w9.heap[b]? = w.heap[b]? := hg.block b hbl fun e => by
    have := h.lmo b e.symm
    rw [h.so] at this
    cases this
  have hs : w.heap.size ≤ (w9.setCell ⟨b, 10, none⟩ (.slice A' (s.lims.length + 1) c')).heap.size := by
    have := hg.size
    simpa [World.setCell] using this
  have hk : ∀ k lb, o k = some lb → lb ≠ .s → lb ≠ .lim → (w9.setCell ⟨b, 10, none⟩ (.slice A' (s.lims.length + 1) c')).heap[k]? = w.heap[k]? := fun k lb e h1 h2 => by
    refine (Below.heap_setCell w9 ⟨b, 10, none⟩ _ k ?_).trans (hg.block k (h.ol _ _ e).2 fun e2 => ?_)
    · show k ≠ b
      intro e2
      subst e2
      rw [h.so] at e
      exact h1 (Option.some.inj e).symm
    · have := h.lmo k e2.symm
      rw [e] at this
      exact h2 (Option.some.inj this)
  have hsb : Blk (w9.setCell ⟨b, 10, none⟩ (.slice A' (s.lims.length + 1) c')) b 68 (sCells n { s with lims := s.lims ++ [d] } { G with L := A', cl := c' }) := by
    have h1 : Blk w9 b 68 (sCells n s G) := hb9.trans h.sb
    have h2 := h1.set_ 10 (.slice A' (s.lims.length + 1) c')
    have e : (sCells n s G).setIfInBounds 10 (.slice A' (s.lims.length + 1) c') = sCells n { s with lims := s.lims ++ [d] } { G with L := A', cl := c' } := by
      simp [sCells, SS.put, SS.guess]
    rwa [e] at h2
  have hnb : ∀ k, (Value.slice A' (s.lims.length + 1) c').ownBlock = some k → k ≠ b := fun k e e2 => by
    subst e2
    have h1 := hO k hbl
    unfold ownR at h1
    rw [if_pos e, h.so] at h1
    cases h1
  have hrow0 : (w9.setCell ⟨b, 10, none⟩ (.slice A' (s.lims.length + 1) c')).ownsRow base 3 1 (.slice A' (s.lims.length + 1) c') (s.lims.length + 1) (natV s.lims ++ [.int .i64 (d : Int)]) := row_keep ho fun k e => Below.heap_setCell w9 ⟨b, 10, none⟩ _ k (hnb k e)
  have hrow : (w9.setCell ⟨b, 10, none⟩ (.slice A' (s.lims.length + 1) c')).ownsRow base 3 1 (.slice A' ({ s with lims := s.lims ++ [d] }).lims.length c') ({ s with lims := s.lims ++ [d] }).lims.length (natV ({ s with lims := s.lims ++ [d] }).lims) := by
    rw [show natV (s.lims ++ [d]) = natV s.lims ++ [.int .i64 (d : Int)] by simp [natV]]
    simpa [SS.put] using hrow0
  have hol : ∀ k lb, ownR o (.slice A' (s.lims.length + 1) c') .lim k = some lb → base ≤ k ∧ k < (w9.setCell ⟨b, 10, none⟩ (.slice A' (s.lims.length + 1) c')).heap.size := fun k lb e => by
    unfold ownR at e
    split at e
    · next e1 =>
      have := hrow0.lt k e1
      omega
    · have := h.ol k lb e
      omega
  refine ⟨⟨hsb, (hO _ (h.ol _ _ h.so).2).trans h.so, h.v.keep (hk _ _ h.v.own (by simp) (by simp)) (hO _ (h.ol _ _ h.v.own).2), h.l.keep (hk _ _ h.l.own (by simp) (by simp)) (hO _ (h.ol _ _ h.l.own).2), h.r.keep (hk _ _ h.r.own (by simp) (by simp)) (hO _ (h.ol _ _ h.r.own).2), h.ot.keep (hk _ _ h.ot.own (by simp) (by simp)) (hO _ (h.ol _ _ h.ot.own).2), h.wt.keep (hk _ _ h.wt.own (by simp) (by simp)) (hO _ (h.ol _ _ h.wt.own).2), row_keep h.tr fun k e => hk _ _ (h.tro k e) (by simp) (by simp), fun k e => (hO k (h.ol _ _ (h.tro k e)).2).trans (h.tro k e), hrow, fun k e => if_pos (show _ = some k from (by rw [← e]; cases A' <;> rfl)), row_keep h.cs fun k e => hk _ _ (h.cso k e) (by simp) (by simp), fun k e => (hO k (h.ol _ _ (h.cso k e)).2).trans (h.cso k e), h.csl, fun i c A h1 h2 => cl_own (cl_keep (h.cl i c A h1 h2) hs fun k e => hk _ _ e (by simp) (by simp)) fun k e => (hO k (h.ol _ _ e).2).trans e, h.mp.same (hk _ _ h.mpo (by simp) (by simp)), (hO _ (h.ol _ _ h.mpo).2).trans h.mpo, fun x => row_keep (h.ur x) fun k e => hk _ _ (h.uro x k e) (by simp) (by simp), fun x k e => (hO k (h.ol _ _ (h.uro x k e)).2).trans (h.uro x k e), h.uz, hol⟩, hO, ?_⟩
  refine ((SFr.refl o w).grown hg fun k e => .inr ?_).set _ (.inr ?_)
  · rw [h.lmo k e]
    simp
  · rw [h.so]
    simp
end
end Go.Proofs.Ytbkmgblijncjhaa

set_option linter.unusedVariables false
set_option linter.unusedSimpArgs false
namespace Go.Proofs.Ytbkmgblijncjhaa
open Go.RowKit Go.Maps

theorem abs_any (x : Int) (w : World) (hx : -9223372036854775807 ≤ x ∧ x ≤ 9223372036854775807) : Calls Try.prog 65 #[.int .i64 x] w (fun e w' => e = .returned (.int .i64 (x.natAbs : Int)) ∧ w' = w) := by
  have hw : IntKind.i64.wrap (-x) = -x := IntWalk.i64_in _ (by omega)
  by_cases h0 : x < -x
  · have e : (x.natAbs : Int) = -x := by omega
    rw [e]
    go_enter Try.func65, Try.ntmps65
    go_wp2_with fail
    go_ret
    exact ⟨rfl, rfl⟩
  · have e : (x.natAbs : Int) = x := by omega
    rw [e]
    go_enter Try.func65, Try.ntmps65
    go_wp2_with fail
    go_ret
    exact ⟨rfl, rfl⟩

section
variable {w : World} {base b n : Nat} {s : SS} {G : SG} {o : Owns} {F : List (List Int)}
theorem ArrM.cell {b' i : Nat} {xs : List Int} {l : Lab} {u : Int} (h : ArrM w n b' xs o l) (hi : xs[i]? = some u) : w.cell? ⟨b', i, none⟩ = some (.int .i64 u) := by
  rw [h.blk.cell, List.getElem?_toArray]
  exact i64s_at hi
theorem ArrM.ex {b' i : Nat} {xs : List Int} {l : Lab} (h : ArrM w n b' xs o l) (hi : i ≤ n) : ∃ u, xs[i]? = some u := ⟨_, List.getElem?_eq_getElem (by rw [h.len]; omega)⟩

set_option maxRecDepth 100000 in
set_option maxHeartbeats 2000000 in
/-- is. -/
theorem is_any (h : SMem w base b n s G o) (hr : SRel n s G) (hn : n ≤ 1000000) {x : Int} (h0 : x ≠ 0) (hx : x.natAbs ≤ n) (hb : ¬ (x ∈ s.lits ∧ -x ∈ s.lits)) : Calls Try.prog 51 #[.pointer (some ⟨b, 0, none⟩), .int .i64 x] w (fun e w' => e = .returned (.int .i64 (valL s.lits x)) ∧ w' = w) := by
  have c3 : w.cell? ⟨b, 3, none⟩ = some (.slice (some ⟨G.vb, 0, none⟩) (n + 1) (n + 1)) := h.sb.cell 3
  have hc := h.v.cell (hr.vv x.natAbs (by omega) hx)
  clear h hr
  by_cases hneg : x < 0
  · have hw : IntKind.i64.wrap (-x) = -x := IntWalk.i64_in _ (by omega)
    have e1 : ((x.natAbs : Nat) : Int) = -x := by omega
    have e2 : valL s.lits (-x) = -valL s.lits x := valL_neg hb
    obtain ⟨k, hk⟩ : ∃ k : Nat, -x = (k : Int) := ⟨x.natAbs, by omega⟩
    have e3 : x.natAbs = k := by omega
    have hv : -1 ≤ valL s.lits x ∧ valL s.lits x ≤ 1 := by
      unfold valL
      split
      · omega
      · split <;> omega
    rw [e3, ← hk, e2] at hc
    have hw2 : IntKind.i64.wrap (- -valL s.lits x) = valL s.lits x := by
      rw [Int.neg_neg]
      exact IntWalk.i64_in _ (by omega)
    generalize valL s.lits x = y at *
    have hkn : (k : Int) < (n : Int) + 1 := by omega
    clear e1 e2 e3 hb
    rw [hk] at hw
    go_enter Try.func51, Try.ntmps51
    go_wp2_with fail
    go_ret
    exact ⟨rfl, rfl⟩
  · obtain ⟨k, rfl⟩ : ∃ k : Nat, x = (k : Int) := ⟨x.natAbs, by omega⟩
    have e1 : ((k : Int)).natAbs = k := by omega
    rw [e1] at hc
    generalize valL s.lits (k : Int) = y at *
    have hkn : (k : Int) < (n : Int) + 1 := by omega
    have hk0 : ¬ (k : Int) < 0 := hneg
    clear hb e1
    go_enter Try.func51, Try.ntmps51
    go_wp2_with fail
    go_ret
    exact ⟨rfl, rfl⟩
theorem lookF_drop {L c : List Int} {j : Nat} {x : Int} (h : c[j]? = some x) (f : Int) : lookF L (c.drop j) f = if x ∈ L then (0, false) else if -x ∈ L then lookF L (c.drop (j + 1)) f else if f = 0 then lookF L (c.drop (j + 1)) x else (0, false) := by
  obtain ⟨hj, rfl⟩ := List.getElem?_eq_some_iff.1 h
  rw [List.drop_eq_getElem_cons hj]
  rfl
set_option maxRecDepth 100000 in
set_option maxHeartbeats 4000000 in
/-- look. -/
theorem look_any (h : SMem w base b n s G o) (hr : SRel n s G) (hn : n ≤ 1000000) (hb : ∀ x, ¬ (x ∈ s.lits ∧ -x ∈ s.lits)) {c : List Int} {A : Option Addr} {cp : Nat} (hA : Vals w w.heap.size A (i64s c)) (hcl : c.length ≤ 1000000) (hcp : c.length ≤ cp) (hc : ∀ x ∈ c, x ≠ 0 ∧ x.natAbs ≤ n) :
    Calls Try.prog 66 #[.pointer (some ⟨b, 0, none⟩), .slice A c.length cp] w (fun e w' => e = .returned (.tuple #[.int .i64 (lookF s.lits c 0).1, .bool (lookF s.lits c 0).2]) ∧ w' = w) := by
  have HIS := Lib.hid (fun (x : Int) (hx : x ∈ c) => is_any h hr hn (hc x hx).1 (hc x hx).2 (hb x))
  have HA := Lib.hid hA
  have HC := Lib.hid hc
  clear h hr hA hc
  go_enter Try.func66, Try.ntmps66
  go_wp2_with fail
  go_loopw [4, 10] (fun fv iv wr => ∃ (j : Nat) (f : Int), j ≤ c.length ∧ iv = .int .i64 (j : Int) ∧ fv = .int .i64 f ∧ wr = w ∧ lookF s.lits c 0 = lookF s.lits (c.drop j) f ∧ (-1000000 ≤ f ∧ f ≤ 1000000)) (fun _ iv _ => c.length - (intOf iv).toNat)
  case atStart => exact ⟨0, 0, Nat.zero_le _, rfl, rfl, rfl, rfl, by omega⟩
  case round =>
    obtain ⟨j, f, hj, rfl, rfl, rfl, hL, hf⟩ := hrel
    have HL := Lib.hid hL
    clear hL
    by_cases hlt : j < c.length
    · have hlt' : (j : Int) < (c.length : Int) := by omega
      obtain ⟨x, hx⟩ : ∃ x, c[j]? = some x := ⟨_, List.getElem?_eq_getElem hlt⟩
      have hxm := List.mem_of_getElem? hx
      have hxb := HC.out x hxm
      obtain ⟨q, p, rfl, _, hcx⟩ := HA.out j (.int .i64 x) (i64s_at hx)
      have HCL := Lib.hid (HIS.out x hxm)
      have HD := Lib.hid (lookF_drop (L := s.lits) hx f)
      go_wp2_with fail
      refine HCL.out.mono ?_
      rintro e w1 ⟨rfl, hw⟩
      have hw' := hw.symm
      subst hw'
      clear hw
      by_cases h1 : x ∈ s.lits
      · have e1 : valL s.lits x = 1 := by unfold valL; rw [if_pos h1]
        have e2 : lookF s.lits c 0 = (0, false) := by rw [HL.out, HD.out, if_pos h1]
        rw [e1]
        have E2 := Lib.hid e2
        clear e1 e2
        go_wp2_with fail
        go_ret2
        exact ⟨by rw [E2.out]; rfl, rfl⟩
      · by_cases h2 : -x ∈ s.lits
        · have e1 : valL s.lits x = -1 := by unfold valL; rw [if_neg h1, if_pos h2]
          have e2 : lookF s.lits c 0 = lookF s.lits (c.drop (j + 1)) f := by rw [HL.out, HD.out, if_neg h1, if_pos h2]
          rw [e1]
          clear e1
          have E2 := Lib.hid e2
          clear e2 h1 h2 hx
          go_wp2_with fail
          go_roundw
          case rel => exact ⟨j + 1, f, by omega, by go_num, rfl, trivial, E2.out, hf⟩
          case measure => simp [intOf]; omega
        · have e1 : valL s.lits x = 0 := by unfold valL; rw [if_neg h1, if_neg h2]
          rw [e1]
          clear e1
          by_cases h3 : f = 0
          · have e2 : lookF s.lits c 0 = lookF s.lits (c.drop (j + 1)) x := by rw [HL.out, HD.out, if_neg h1, if_neg h2, if_pos h3]
            have E2 := Lib.hid e2
            clear e2 h1 h2 hx
            subst h3
            go_wp2_with fail
            go_roundw
            case rel => exact ⟨j + 1, x, by omega, by go_num, rfl, trivial, E2.out, by omega⟩
            case measure => simp [intOf]; omega
          · have e2 : lookF s.lits c 0 = (0, false) := by rw [HL.out, HD.out, if_neg h1, if_neg h2, if_neg h3]
            have E2 := Lib.hid e2
            clear e2
            go_wp2_with fail
            go_ret2
            exact ⟨by rw [E2.out]; rfl, rfl⟩
    · have hlt' : ¬ (j : Int) < (c.length : Int) := by omega
      have e2 : lookF s.lits c 0 = (f, f == 0) := by
        rw [HL.out, List.drop_eq_nil_of_le (by omega)]
        rfl
      have E2 := Lib.hid e2
      clear e2
      go_wp2_with fail
      go_ret2
      exact ⟨by rw [E2.out]; rfl, rfl⟩
end
end Go.Proofs.Ytbkmgblijncjhaa

set_option linter.unusedVariables false
set_option linter.unusedSimpArgs false
namespace Go.Proofs.Ytbkmgblijncjhaa
open Go.RowKit Go.Maps

theorem intInfo : (Try.prog.info? 3).map (fun i => (i.zero, i.size, i.bytes)) = some (some (.int .i64 0), 1, 8) := by kernel_rfl
/-- What a literal's variable is. -/
def sgn (x : Int) : Int := if x < 0 then -1 else 1
/-- Behind a put. -/
def SG.put (G : SG) (s : SS) (x why : Int) (T : Option Addr) (ct : Nat) : SG := { G with V := G.V.set x.natAbs (sgn x), LV := G.LV.set x.natAbs (s.lims.length : Int), RV := G.RV.set x.natAbs why, T := T, ct := ct }
def PutPost (w : World) (base b n : Nat) (s : SS) (G : SG) (o : Owns) (x why : Int) (e : Ending) (w' : World) : Prop :=
  e = .returned (.tuple #[]) ∧ ∃ T ct o', SMem w' base b n (s.put x why) (G.put s x why T ct) o' ∧ Olds w o o' ∧ SFr o w w'

set_option maxRecDepth 100000 in
set_option maxHeartbeats 4000000 in
theorem put_any {w : World} {base b n : Nat} {s : SS} {G : SG} {o : Owns} (h : SMem w base b n s G o) (hn : n ≤ 1000000) {x why : Int} (h0 : x ≠ 0) (hx : x.natAbs ≤ n) (hl : s.tr.length ≤ 1000000) :
    Calls Try.prog 52 #[.pointer (some ⟨b, 0, none⟩), .int .i64 x, .int .i64 why] w (PutPost w base b n s G o x why) := by
  obtain ⟨k, hk⟩ : ∃ k : Nat, x.natAbs = k := ⟨_, rfl⟩
  have HAB := Lib.hid (abs_any x w (by omega))
  have HPP : Hid (PutPost w base b n s G o x why = fun e w' => e = .returned (.tuple #[]) ∧ ∃ T ct o', SMem w' base b n (s.put x why) (G.put s x why T ct) o' ∧ Olds w o o' ∧ SFr o w w') := Lib.hid rfl
  generalize PutPost w base b n s G o x why = PP at HPP ⊢
  rw [hk] at HAB
  have c3 : w.cell? ⟨b, 3, none⟩ = some (.slice (some ⟨G.vb, 0, none⟩) (n + 1) (n + 1)) := h.sb.cell 3
  obtain ⟨u0, hu0⟩ := h.v.ex (i := k) (by omega)
  have hc := h.v.cell hu0
  have hf := h.v.blk.frozen k
  have hbv : ¬ b = G.vb := fun e => by
    have h1 := h.so
    rw [e, h.v.own] at h1
    cases h1
  have HS := Lib.hid h
  have HK := Lib.hid hk
  clear h hk hu0
  have hkn : (k : Int) < (n : Int) + 1 := by have := HK.out; omega
  go_enter Try.func52, Try.ntmps52
  go_wp2_with fail
  refine HAB.out.mono ?_
  rintro e w1 ⟨rfl, hw⟩
  have hw' := hw.symm
  subst hw'
  clear hw HAB
  by_cases hneg : x < 0
  · skip
    have hS4 : SMem ((w.setCell ⟨G.vb, k, none⟩ (.int .i64 1)).setCell ⟨G.vb, k, none⟩ (.int .i64 (-1))) base b n s { G with V := G.V.set k (sgn x) } o := by
      rw [show sgn x = -1 by unfold sgn; rw [if_pos hneg]]
      have h1 := (HS.out.set_v k 1).set_v k (-1)
      simp only [List.set_set] at h1
      exact h1
    have hF4 := ((SFr.refl o w).set (i := k) (.int .i64 1) (.inr (show o G.vb ≠ none by rw [HS.out.v.own]; simp))).set (i := k) (.int .i64 (-1)) (.inr (show o G.vb ≠ none by rw [HS.out.v.own]; simp))
    go_wp2_with fail
    have HS4 : Hid (SMem (((w.setCell ⟨G.vb, k, none⟩ (.int .i64 1)).setCell ⟨G.vb, k, none⟩ (.int .i64 (-1)))) base b n s { G with V := G.V.set k (sgn x) } o) := Lib.hid hS4
    have HF4 : Hid (SFr o w (((w.setCell ⟨G.vb, k, none⟩ (.int .i64 1)).setCell ⟨G.vb, k, none⟩ (.int .i64 (-1))))) := Lib.hid hF4
    clear hS4 hF4 c3 hc hf
    generalize ((w.setCell ⟨G.vb, k, none⟩ (.int .i64 1)).setCell ⟨G.vb, k, none⟩ (.int .i64 (-1))) = w4 at HS4 HF4 ⊢
    refine wp_region_noPanic ?_
    refine wp_region_seq (fun W => W.cell? ⟨b, 4, none⟩ = some (.slice (some ⟨G.lb, 0, none⟩) (n + 1) (n + 1)) ∧ W.cell? ⟨b, 5, none⟩ = some (.slice (some ⟨G.rb, 0, none⟩) (n + 1) (n + 1)) ∧ W.cell? ⟨b, 10, none⟩ = some (.slice G.L s.lims.length G.cl)) [0, 4, 5, 9, 10, 15, 1, 2, 3, 6, 7, 8, 11, 12, 13, 14, 16, 17, 18, 19] [0, 1, 2, 3, 4, 5, 6, 7, 8, 9, 10, 11, 12, 13, 14, 15, 16, 18] [] (by kernel_rfl) (by kernel_rfl) rfl (by kernel_rfl) (by kernel_rfl) (fun _ _ _ _ _ h => h) ?_ (fun hSS => ?_)
    · exact ⟨HS4.out.sb.cell 4, HS4.out.sb.cell 5, HS4.out.sb.cell 10⟩
    clear hSS
    have HS5 := Lib.hid (HS4.out.after (stepD1 w4))
    have HF5 := Lib.hid (HF4.out.trans (SFr.of_below (stepD1 w4) o) (Olds.refl _ _))
    clear HS4 HF4
    generalize w4.drew = w5 at HS5 HF5 ⊢
    obtain ⟨u1, hu1⟩ := HS5.out.l.ex (i := k) (by omega)
    have hc1 := HS5.out.l.cell hu1
    have hf1 := HS5.out.l.blk.frozen k
    have HS6 := Lib.hid (HS5.out.set_l k (s.lims.length : Int))
    have HF6 := Lib.hid (HF5.out.set (i := k) (.int .i64 (s.lims.length : Int)) (.inr (show o G.lb ≠ none by rw [HS5.out.l.own]; simp)))
    (refine wpSeq_mov rfl rfl ?_; intro o ho; simp only [List.getElem?_toArray, List.getElem?_cons_zero, List.getElem?_cons_succ, Option.some.injEq] at ho; subst ho; refine ⟨?_, Or.inl ⟨by rfl, fun W hSW => ?_⟩, ?_⟩; rotate_left; (focus (go_simp; first | done | with_reducible rfl)); try simp only [Act.put, List.setIfInBounds_toArray, List.set_cons_zero, List.set_cons_succ])
    (refine wpSeq_mov rfl rfl ?_; intro o ho; simp only [List.getElem?_toArray, List.getElem?_cons_zero, List.getElem?_cons_succ, Option.some.injEq] at ho; subst ho; refine ⟨?_, Or.inl ⟨by rfl, fun W hSW => ?_⟩, ?_⟩; rotate_left; (focus (go_simp; first | done | with_reducible rfl)); try simp only [Act.put, List.setIfInBounds_toArray, List.set_cons_zero, List.set_cons_succ])
    (refine wpSeq_mov rfl rfl ?_; intro o ho; simp only [List.getElem?_toArray, List.getElem?_cons_zero, List.getElem?_cons_succ, Option.some.injEq] at ho; subst ho; refine ⟨?_, Or.inl ⟨by rfl, fun W hSW => ?_⟩, ?_⟩; rotate_left; (focus (go_simp; first | done | with_reducible rfl)); try simp only [Act.put, List.setIfInBounds_toArray, List.set_cons_zero, List.set_cons_succ])
    (refine wpSeq_mov rfl rfl ?_; intro o ho; simp only [List.getElem?_toArray, List.getElem?_cons_zero, List.getElem?_cons_succ, Option.some.injEq] at ho; subst ho; refine ⟨?_, Or.inl ⟨by rfl, fun W hSW => ?_⟩, ?_⟩; rotate_left; (focus (go_simp; first | done | with_reducible rfl)); try simp only [Act.put, List.setIfInBounds_toArray, List.set_cons_zero, List.set_cons_succ])
    (refine wpSeq_mov rfl rfl ?_; intro o ho; simp only [List.getElem?_toArray, List.getElem?_cons_zero, List.getElem?_cons_succ, Option.some.injEq] at ho; subst ho; refine ⟨?_, Or.inl ⟨by rfl, fun W hSW => ?_⟩, ?_⟩; rotate_left; (focus (go_simp; first | done | with_reducible rfl)); try simp only [Act.put, List.setIfInBounds_toArray, List.set_cons_zero, List.set_cons_succ])
    (refine wpSeq_mov rfl rfl ?_; intro o ho; simp only [List.getElem?_toArray, List.getElem?_cons_zero, List.getElem?_cons_succ, Option.some.injEq] at ho; subst ho; refine ⟨?_, Or.inl ⟨by rfl, fun W hSW => ?_⟩, ?_⟩; rotate_left; (focus (go_simp; first | done | with_reducible rfl)); try simp only [Act.put, List.setIfInBounds_toArray, List.set_cons_zero, List.set_cons_succ])
    (refine wpSeq_mov rfl rfl ?_; intro o ho; simp only [List.getElem?_toArray, List.getElem?_cons_zero, List.getElem?_cons_succ, Option.some.injEq] at ho; subst ho; refine ⟨?_, Or.inl ⟨by rfl, fun W hSW => ?_⟩, ?_⟩; rotate_left; (focus (go_simp; first | done | with_reducible rfl)); try simp only [Act.put, List.setIfInBounds_toArray, List.set_cons_zero, List.set_cons_succ])
    (refine wpSeq_mov rfl rfl ?_; intro o ho; simp only [List.getElem?_toArray, List.getElem?_cons_zero, List.getElem?_cons_succ, Option.some.injEq] at ho; subst ho; refine ⟨?_, Or.inl ⟨by rfl, fun W hSW => ?_⟩, ?_⟩; rotate_left; (focus (go_simp; first | done | with_reducible rfl)); try simp only [Act.put, List.setIfInBounds_toArray, List.set_cons_zero, List.set_cons_succ])
    (refine wpSeq_mov rfl rfl ?_; intro o ho; simp only [List.getElem?_toArray, List.getElem?_cons_zero, List.getElem?_cons_succ, Option.some.injEq] at ho; subst ho; refine ⟨?_, Or.inl ⟨by rfl, fun W hSW => ?_⟩, ?_⟩; rotate_left; (focus (go_simp; first | done | with_reducible rfl)); try simp only [Act.put, List.setIfInBounds_toArray, List.set_cons_zero, List.set_cons_succ])
    (refine wpSeq_mov rfl rfl ?_; intro o ho; simp only [List.getElem?_toArray, List.getElem?_cons_zero, List.getElem?_cons_succ, Option.some.injEq] at ho; subst ho; refine ⟨?_, Or.inl ⟨by rfl, fun W hSW => ?_⟩, ?_⟩; rotate_left; (focus (go_simp; first | done | with_reducible rfl)); try simp only [Act.put, List.setIfInBounds_toArray, List.set_cons_zero, List.set_cons_succ])
    (refine wpSeq_mov rfl rfl ?_; intro o ho; simp only [List.getElem?_toArray, List.getElem?_cons_zero, List.getElem?_cons_succ, Option.some.injEq] at ho; subst ho; refine ⟨?_, Or.inl ⟨by rfl, fun W hSW => ?_⟩, ?_⟩; rotate_left; (focus (go_simp; first | done | with_reducible rfl)); try simp only [Act.put, List.setIfInBounds_toArray, List.set_cons_zero, List.set_cons_succ])
    (refine wpSeq_mov rfl rfl ?_; intro o ho; simp only [List.getElem?_toArray, List.getElem?_cons_zero, List.getElem?_cons_succ, Option.some.injEq] at ho; subst ho; refine ⟨?_, Or.inl ⟨by rfl, fun W hSW => ?_⟩, ?_⟩; rotate_left; (focus (go_simp; first | done | with_reducible rfl)); try simp only [Act.put, List.setIfInBounds_toArray, List.set_cons_zero, List.set_cons_succ])
    (refine wpSeq_mov rfl rfl ?_; intro o ho; simp only [List.getElem?_toArray, List.getElem?_cons_zero, List.getElem?_cons_succ, Option.some.injEq] at ho; subst ho; refine ⟨?_, Or.inl ⟨by rfl, fun W hSW => ?_⟩, ?_⟩; rotate_left; (focus (go_simp; first | done | with_reducible rfl)); try simp only [Act.put, List.setIfInBounds_toArray, List.set_cons_zero, List.set_cons_succ])
    (refine wpSeq_mov rfl rfl ?_; intro o ho; simp only [List.getElem?_toArray, List.getElem?_cons_zero, List.getElem?_cons_succ, Option.some.injEq] at ho; subst ho; refine ⟨?_, Or.inl ⟨by rfl, fun W hSW => ?_⟩, ?_⟩; rotate_left; (focus (go_simp; first | done | with_reducible rfl)); try simp only [Act.put, List.setIfInBounds_toArray, List.set_cons_zero, List.set_cons_succ])
    (refine wpSeq_mov rfl rfl ?_; intro o ho; simp only [List.getElem?_toArray, List.getElem?_cons_zero, List.getElem?_cons_succ, Option.some.injEq] at ho; subst ho; refine ⟨?_, Or.inl ⟨by rfl, fun W hSW => ?_⟩, ?_⟩; rotate_left; (focus (go_simp; first | done | with_reducible rfl)); try simp only [Act.put, List.setIfInBounds_toArray, List.set_cons_zero, List.set_cons_succ])
    (refine wpSeq_mov rfl rfl ?_; intro o ho; simp only [List.getElem?_toArray, List.getElem?_cons_zero, List.getElem?_cons_succ, Option.some.injEq] at ho; subst ho; refine ⟨?_, Or.inl ⟨by rfl, fun W hSW => ?_⟩, ?_⟩; rotate_left; (focus (go_simp; first | done | with_reducible rfl)); try simp only [Act.put, List.setIfInBounds_toArray, List.set_cons_zero, List.set_cons_succ])
    (refine wpSeq_mov rfl rfl ?_; intro o ho; simp only [List.getElem?_toArray, List.getElem?_cons_zero, List.getElem?_cons_succ, Option.some.injEq] at ho; subst ho; refine ⟨?_, Or.inl ⟨by rfl, fun W hSW => ?_⟩, ?_⟩; rotate_left; (focus (go_simp; first | done | with_reducible rfl)); try simp only [Act.put, List.setIfInBounds_toArray, List.set_cons_zero, List.set_cons_succ])
    (refine wpSeq_fix rfl rfl ?_; intro o ho; simp only [List.getElem?_toArray, List.getElem?_cons_zero, List.getElem?_cons_succ, Option.some.injEq] at ho; subst ho; intro K hK)
    go_simp
    (refine hK.out _ _ (fun _ => ⟨HS6.out.sb.cell 4, HS6.out.sb.cell 5, HS6.out.sb.cell 10⟩) ?_; clear hK K; try simp only [Act.put, List.setIfInBounds_toArray, List.set_cons_zero, List.set_cons_succ])
    clear hu1 hc1 hf1 HS5 HF5
    generalize w5.setCell ⟨G.lb, k, none⟩ (.int .i64 (s.lims.length : Int)) = w6 at HS6 HF6 ⊢
    obtain ⟨u2, hu2⟩ := HS6.out.r.ex (i := k) (by omega)
    have hc2 := HS6.out.r.cell hu2
    have hf2 := HS6.out.r.blk.frozen k
    have HS7 := Lib.hid (HS6.out.set_r k why)
    have HF7 := Lib.hid (HF6.out.set (i := k) (.int .i64 why) (.inr (show o G.rb ≠ none by rw [HS6.out.r.own]; simp)))
    (refine wpSeq_mov rfl rfl ?_; intro o ho; simp only [List.getElem?_toArray, List.getElem?_cons_zero, List.getElem?_cons_succ, Option.some.injEq] at ho; subst ho; refine ⟨?_, Or.inl ⟨by rfl, fun W hSW => ?_⟩, ?_⟩; rotate_left; (focus (go_simp; first | done | with_reducible rfl)); try simp only [Act.put, List.setIfInBounds_toArray, List.set_cons_zero, List.set_cons_succ])
    (refine wpSeq_fix rfl rfl ?_; intro o ho; simp only [List.getElem?_toArray, List.getElem?_cons_zero, List.getElem?_cons_succ, Option.some.injEq] at ho; subst ho; intro K hK)
    go_simp
    (refine hK.out _ _ (fun _ => ⟨HS7.out.sb.cell 4, HS7.out.sb.cell 5, HS7.out.sb.cell 10⟩) ?_; clear hK K; try simp only [Act.put, List.setIfInBounds_toArray, List.set_cons_zero, List.set_cons_succ])
    clear hu2 hc2 hf2 HS6 HF6
    generalize w6.setCell ⟨G.rb, k, none⟩ (.int .i64 why) = w7 at HS7 HF7 ⊢
    refine wpSeq_done ?_
    have d8 : w7.cell? ⟨b, 8, none⟩ = some (.slice G.T s.tr.length G.ct) := HS7.out.sb.cell 8
    have z8 := HS7.out.sb.frozen 8
    have HS8 := Lib.hid (HS7.out.after (stepA w7 (.cells #[.int .i64 x] 3)))
    have HF8 := Lib.hid (HF7.out.trans (SFr.of_below (stepA w7 (.cells #[.int .i64 x] 3)) o) (Olds.refl _ _))
    obtain ⟨i0, hi0, hz0, hz1, hz2⟩ := info_parts intInfo
    go_wp2_with ((at_builtin; go_loud (refine wpList_append_own_at (o := ⟨some 48, _, _, _, _, _⟩) _ rfl (.tmp 45) (.tmp 47) _ rfl base 3 i0 _ 1 8 Try.underlying25 hi0 hz0 hz1 hz2 rfl (by omega) (.slice G.T s.tr.length G.ct) s.tr.length (i64s s.lits) rfl HS8.out.tr _ 1 1 [.int .i64 x] rfl rfl (cells_new w7 [.int .i64 x] 3) (i64s_one [x]) (by unfold maxLen; omega) (by omega) HS8.out.base_le ?_); intro v9 w9 ho9 hg9 _ hat9; go_loud (obtain ⟨T', ct', rfl, hct⟩ := own_form ho9); go_loud (have HP := Lib.hid (HS8.out.push_tr (x := x) (r := why) ho9 hg9 hat9)); go_loud (have e9 : w9.cell? ⟨b, 8, none⟩ = some (.slice G.T s.tr.length G.ct) := (World.cell?_of_block (hg9.block b (HS8.out.ol _ _ HS8.out.so).2 (fun e => (by have := HS8.out.tro b e.symm; rw [HS8.out.so] at this; cases this)))).trans (HS8.out.sb.cell 8)); go_loud (have z9 : w9.frozen? ⟨b, 8, none⟩ = false := (World.frozen?_of_block (hg9.block b (HS8.out.ol _ _ HS8.out.so).2 (fun e => (by have := HS8.out.tro b e.symm; rw [HS8.out.so] at this; cases this)))).trans (HS8.out.sb.frozen 8)); clear d8 z8 ho9 hg9 hat9))
    go_end0
    rw [HPP.out]
    refine ⟨rfl, T', ct', _, ?_, fun j hj => HP.out.2.1 j (Nat.lt_of_lt_of_le hj HF8.out.size), HF8.out.trans HP.out.2.2 (Olds.refl _ _)⟩
    unfold SG.put
    rw [HK.out]
    exact HP.out.1
  · skip
    have hS4 : SMem (w.setCell ⟨G.vb, k, none⟩ (.int .i64 1)) base b n s { G with V := G.V.set k (sgn x) } o := by
      rw [show sgn x = 1 by unfold sgn; rw [if_neg hneg]]
      have h1 := HS.out.set_v k 1

      exact h1
    have hF4 := (SFr.refl o w).set (i := k) (.int .i64 1) (.inr (show o G.vb ≠ none by rw [HS.out.v.own]; simp))
    go_wp2_with fail
    have HS4 : Hid (SMem ((w.setCell ⟨G.vb, k, none⟩ (.int .i64 1))) base b n s { G with V := G.V.set k (sgn x) } o) := Lib.hid hS4
    have HF4 : Hid (SFr o w ((w.setCell ⟨G.vb, k, none⟩ (.int .i64 1)))) := Lib.hid hF4
    clear hS4 hF4 c3 hc hf
    generalize (w.setCell ⟨G.vb, k, none⟩ (.int .i64 1)) = w4 at HS4 HF4 ⊢
    refine wp_region_noPanic ?_
    refine wp_region_seq (fun W => W.cell? ⟨b, 4, none⟩ = some (.slice (some ⟨G.lb, 0, none⟩) (n + 1) (n + 1)) ∧ W.cell? ⟨b, 5, none⟩ = some (.slice (some ⟨G.rb, 0, none⟩) (n + 1) (n + 1)) ∧ W.cell? ⟨b, 10, none⟩ = some (.slice G.L s.lims.length G.cl)) [0, 4, 5, 9, 10, 15, 1, 2, 3, 6, 7, 8, 11, 12, 13, 14, 16, 17, 18, 19] [0, 1, 2, 3, 4, 5, 6, 7, 8, 9, 10, 11, 12, 13, 14, 15, 16, 18] [] (by kernel_rfl) (by kernel_rfl) rfl (by kernel_rfl) (by kernel_rfl) (fun _ _ _ _ _ h => h) ?_ (fun hSS => ?_)
    · exact ⟨HS4.out.sb.cell 4, HS4.out.sb.cell 5, HS4.out.sb.cell 10⟩
    clear hSS
    have HS5 := Lib.hid (HS4.out.after (stepD1 w4))
    have HF5 := Lib.hid (HF4.out.trans (SFr.of_below (stepD1 w4) o) (Olds.refl _ _))
    clear HS4 HF4
    generalize w4.drew = w5 at HS5 HF5 ⊢
    obtain ⟨u1, hu1⟩ := HS5.out.l.ex (i := k) (by omega)
    have hc1 := HS5.out.l.cell hu1
    have hf1 := HS5.out.l.blk.frozen k
    have HS6 := Lib.hid (HS5.out.set_l k (s.lims.length : Int))
    have HF6 := Lib.hid (HF5.out.set (i := k) (.int .i64 (s.lims.length : Int)) (.inr (show o G.lb ≠ none by rw [HS5.out.l.own]; simp)))
    (refine wpSeq_mov rfl rfl ?_; intro o ho; simp only [List.getElem?_toArray, List.getElem?_cons_zero, List.getElem?_cons_succ, Option.some.injEq] at ho; subst ho; refine ⟨?_, Or.inl ⟨by rfl, fun W hSW => ?_⟩, ?_⟩; rotate_left; (focus (go_simp; first | done | with_reducible rfl)); try simp only [Act.put, List.setIfInBounds_toArray, List.set_cons_zero, List.set_cons_succ])
    (refine wpSeq_mov rfl rfl ?_; intro o ho; simp only [List.getElem?_toArray, List.getElem?_cons_zero, List.getElem?_cons_succ, Option.some.injEq] at ho; subst ho; refine ⟨?_, Or.inl ⟨by rfl, fun W hSW => ?_⟩, ?_⟩; rotate_left; (focus (go_simp; first | done | with_reducible rfl)); try simp only [Act.put, List.setIfInBounds_toArray, List.set_cons_zero, List.set_cons_succ])
    (refine wpSeq_mov rfl rfl ?_; intro o ho; simp only [List.getElem?_toArray, List.getElem?_cons_zero, List.getElem?_cons_succ, Option.some.injEq] at ho; subst ho; refine ⟨?_, Or.inl ⟨by rfl, fun W hSW => ?_⟩, ?_⟩; rotate_left; (focus (go_simp; first | done | with_reducible rfl)); try simp only [Act.put, List.setIfInBounds_toArray, List.set_cons_zero, List.set_cons_succ])
    (refine wpSeq_mov rfl rfl ?_; intro o ho; simp only [List.getElem?_toArray, List.getElem?_cons_zero, List.getElem?_cons_succ, Option.some.injEq] at ho; subst ho; refine ⟨?_, Or.inl ⟨by rfl, fun W hSW => ?_⟩, ?_⟩; rotate_left; (focus (go_simp; first | done | with_reducible rfl)); try simp only [Act.put, List.setIfInBounds_toArray, List.set_cons_zero, List.set_cons_succ])
    (refine wpSeq_mov rfl rfl ?_; intro o ho; simp only [List.getElem?_toArray, List.getElem?_cons_zero, List.getElem?_cons_succ, Option.some.injEq] at ho; subst ho; refine ⟨?_, Or.inl ⟨by rfl, fun W hSW => ?_⟩, ?_⟩; rotate_left; (focus (go_simp; first | done | with_reducible rfl)); try simp only [Act.put, List.setIfInBounds_toArray, List.set_cons_zero, List.set_cons_succ])
    (refine wpSeq_mov rfl rfl ?_; intro o ho; simp only [List.getElem?_toArray, List.getElem?_cons_zero, List.getElem?_cons_succ, Option.some.injEq] at ho; subst ho; refine ⟨?_, Or.inl ⟨by rfl, fun W hSW => ?_⟩, ?_⟩; rotate_left; (focus (go_simp; first | done | with_reducible rfl)); try simp only [Act.put, List.setIfInBounds_toArray, List.set_cons_zero, List.set_cons_succ])
    (refine wpSeq_mov rfl rfl ?_; intro o ho; simp only [List.getElem?_toArray, List.getElem?_cons_zero, List.getElem?_cons_succ, Option.some.injEq] at ho; subst ho; refine ⟨?_, Or.inl ⟨by rfl, fun W hSW => ?_⟩, ?_⟩; rotate_left; (focus (go_simp; first | done | with_reducible rfl)); try simp only [Act.put, List.setIfInBounds_toArray, List.set_cons_zero, List.set_cons_succ])
    (refine wpSeq_mov rfl rfl ?_; intro o ho; simp only [List.getElem?_toArray, List.getElem?_cons_zero, List.getElem?_cons_succ, Option.some.injEq] at ho; subst ho; refine ⟨?_, Or.inl ⟨by rfl, fun W hSW => ?_⟩, ?_⟩; rotate_left; (focus (go_simp; first | done | with_reducible rfl)); try simp only [Act.put, List.setIfInBounds_toArray, List.set_cons_zero, List.set_cons_succ])
    (refine wpSeq_mov rfl rfl ?_; intro o ho; simp only [List.getElem?_toArray, List.getElem?_cons_zero, List.getElem?_cons_succ, Option.some.injEq] at ho; subst ho; refine ⟨?_, Or.inl ⟨by rfl, fun W hSW => ?_⟩, ?_⟩; rotate_left; (focus (go_simp; first | done | with_reducible rfl)); try simp only [Act.put, List.setIfInBounds_toArray, List.set_cons_zero, List.set_cons_succ])
    (refine wpSeq_mov rfl rfl ?_; intro o ho; simp only [List.getElem?_toArray, List.getElem?_cons_zero, List.getElem?_cons_succ, Option.some.injEq] at ho; subst ho; refine ⟨?_, Or.inl ⟨by rfl, fun W hSW => ?_⟩, ?_⟩; rotate_left; (focus (go_simp; first | done | with_reducible rfl)); try simp only [Act.put, List.setIfInBounds_toArray, List.set_cons_zero, List.set_cons_succ])
    (refine wpSeq_mov rfl rfl ?_; intro o ho; simp only [List.getElem?_toArray, List.getElem?_cons_zero, List.getElem?_cons_succ, Option.some.injEq] at ho; subst ho; refine ⟨?_, Or.inl ⟨by rfl, fun W hSW => ?_⟩, ?_⟩; rotate_left; (focus (go_simp; first | done | with_reducible rfl)); try simp only [Act.put, List.setIfInBounds_toArray, List.set_cons_zero, List.set_cons_succ])
    (refine wpSeq_mov rfl rfl ?_; intro o ho; simp only [List.getElem?_toArray, List.getElem?_cons_zero, List.getElem?_cons_succ, Option.some.injEq] at ho; subst ho; refine ⟨?_, Or.inl ⟨by rfl, fun W hSW => ?_⟩, ?_⟩; rotate_left; (focus (go_simp; first | done | with_reducible rfl)); try simp only [Act.put, List.setIfInBounds_toArray, List.set_cons_zero, List.set_cons_succ])
    (refine wpSeq_mov rfl rfl ?_; intro o ho; simp only [List.getElem?_toArray, List.getElem?_cons_zero, List.getElem?_cons_succ, Option.some.injEq] at ho; subst ho; refine ⟨?_, Or.inl ⟨by rfl, fun W hSW => ?_⟩, ?_⟩; rotate_left; (focus (go_simp; first | done | with_reducible rfl)); try simp only [Act.put, List.setIfInBounds_toArray, List.set_cons_zero, List.set_cons_succ])
    (refine wpSeq_mov rfl rfl ?_; intro o ho; simp only [List.getElem?_toArray, List.getElem?_cons_zero, List.getElem?_cons_succ, Option.some.injEq] at ho; subst ho; refine ⟨?_, Or.inl ⟨by rfl, fun W hSW => ?_⟩, ?_⟩; rotate_left; (focus (go_simp; first | done | with_reducible rfl)); try simp only [Act.put, List.setIfInBounds_toArray, List.set_cons_zero, List.set_cons_succ])
    (refine wpSeq_mov rfl rfl ?_; intro o ho; simp only [List.getElem?_toArray, List.getElem?_cons_zero, List.getElem?_cons_succ, Option.some.injEq] at ho; subst ho; refine ⟨?_, Or.inl ⟨by rfl, fun W hSW => ?_⟩, ?_⟩; rotate_left; (focus (go_simp; first | done | with_reducible rfl)); try simp only [Act.put, List.setIfInBounds_toArray, List.set_cons_zero, List.set_cons_succ])
    (refine wpSeq_mov rfl rfl ?_; intro o ho; simp only [List.getElem?_toArray, List.getElem?_cons_zero, List.getElem?_cons_succ, Option.some.injEq] at ho; subst ho; refine ⟨?_, Or.inl ⟨by rfl, fun W hSW => ?_⟩, ?_⟩; rotate_left; (focus (go_simp; first | done | with_reducible rfl)); try simp only [Act.put, List.setIfInBounds_toArray, List.set_cons_zero, List.set_cons_succ])
    (refine wpSeq_mov rfl rfl ?_; intro o ho; simp only [List.getElem?_toArray, List.getElem?_cons_zero, List.getElem?_cons_succ, Option.some.injEq] at ho; subst ho; refine ⟨?_, Or.inl ⟨by rfl, fun W hSW => ?_⟩, ?_⟩; rotate_left; (focus (go_simp; first | done | with_reducible rfl)); try simp only [Act.put, List.setIfInBounds_toArray, List.set_cons_zero, List.set_cons_succ])
    (refine wpSeq_fix rfl rfl ?_; intro o ho; simp only [List.getElem?_toArray, List.getElem?_cons_zero, List.getElem?_cons_succ, Option.some.injEq] at ho; subst ho; intro K hK)
    go_simp
    (refine hK.out _ _ (fun _ => ⟨HS6.out.sb.cell 4, HS6.out.sb.cell 5, HS6.out.sb.cell 10⟩) ?_; clear hK K; try simp only [Act.put, List.setIfInBounds_toArray, List.set_cons_zero, List.set_cons_succ])
    clear hu1 hc1 hf1 HS5 HF5
    generalize w5.setCell ⟨G.lb, k, none⟩ (.int .i64 (s.lims.length : Int)) = w6 at HS6 HF6 ⊢
    obtain ⟨u2, hu2⟩ := HS6.out.r.ex (i := k) (by omega)
    have hc2 := HS6.out.r.cell hu2
    have hf2 := HS6.out.r.blk.frozen k
    have HS7 := Lib.hid (HS6.out.set_r k why)
    have HF7 := Lib.hid (HF6.out.set (i := k) (.int .i64 why) (.inr (show o G.rb ≠ none by rw [HS6.out.r.own]; simp)))
    (refine wpSeq_mov rfl rfl ?_; intro o ho; simp only [List.getElem?_toArray, List.getElem?_cons_zero, List.getElem?_cons_succ, Option.some.injEq] at ho; subst ho; refine ⟨?_, Or.inl ⟨by rfl, fun W hSW => ?_⟩, ?_⟩; rotate_left; (focus (go_simp; first | done | with_reducible rfl)); try simp only [Act.put, List.setIfInBounds_toArray, List.set_cons_zero, List.set_cons_succ])
    (refine wpSeq_fix rfl rfl ?_; intro o ho; simp only [List.getElem?_toArray, List.getElem?_cons_zero, List.getElem?_cons_succ, Option.some.injEq] at ho; subst ho; intro K hK)
    go_simp
    (refine hK.out _ _ (fun _ => ⟨HS7.out.sb.cell 4, HS7.out.sb.cell 5, HS7.out.sb.cell 10⟩) ?_; clear hK K; try simp only [Act.put, List.setIfInBounds_toArray, List.set_cons_zero, List.set_cons_succ])
    clear hu2 hc2 hf2 HS6 HF6
    generalize w6.setCell ⟨G.rb, k, none⟩ (.int .i64 why) = w7 at HS7 HF7 ⊢
    refine wpSeq_done ?_
    have d8 : w7.cell? ⟨b, 8, none⟩ = some (.slice G.T s.tr.length G.ct) := HS7.out.sb.cell 8
    have z8 := HS7.out.sb.frozen 8
    have HS8 := Lib.hid (HS7.out.after (stepA w7 (.cells #[.int .i64 x] 3)))
    have HF8 := Lib.hid (HF7.out.trans (SFr.of_below (stepA w7 (.cells #[.int .i64 x] 3)) o) (Olds.refl _ _))
    obtain ⟨i0, hi0, hz0, hz1, hz2⟩ := info_parts intInfo
    go_wp2_with ((at_builtin; go_loud (refine wpList_append_own_at (o := ⟨some 48, _, _, _, _, _⟩) _ rfl (.tmp 45) (.tmp 47) _ rfl base 3 i0 _ 1 8 Try.underlying25 hi0 hz0 hz1 hz2 rfl (by omega) (.slice G.T s.tr.length G.ct) s.tr.length (i64s s.lits) rfl HS8.out.tr _ 1 1 [.int .i64 x] rfl rfl (cells_new w7 [.int .i64 x] 3) (i64s_one [x]) (by unfold maxLen; omega) (by omega) HS8.out.base_le ?_); intro v9 w9 ho9 hg9 _ hat9; go_loud (obtain ⟨T', ct', rfl, hct⟩ := own_form ho9); go_loud (have HP := Lib.hid (HS8.out.push_tr (x := x) (r := why) ho9 hg9 hat9)); go_loud (have e9 : w9.cell? ⟨b, 8, none⟩ = some (.slice G.T s.tr.length G.ct) := (World.cell?_of_block (hg9.block b (HS8.out.ol _ _ HS8.out.so).2 (fun e => (by have := HS8.out.tro b e.symm; rw [HS8.out.so] at this; cases this)))).trans (HS8.out.sb.cell 8)); go_loud (have z9 : w9.frozen? ⟨b, 8, none⟩ = false := (World.frozen?_of_block (hg9.block b (HS8.out.ol _ _ HS8.out.so).2 (fun e => (by have := HS8.out.tro b e.symm; rw [HS8.out.so] at this; cases this)))).trans (HS8.out.sb.frozen 8)); clear d8 z8 ho9 hg9 hat9))
    go_end0
    rw [HPP.out]
    refine ⟨rfl, T', ct', _, ?_, fun j hj => HP.out.2.1 j (Nat.lt_of_lt_of_le hj HF8.out.size), HF8.out.trans HP.out.2.2 (Olds.refl _ _)⟩
    unfold SG.put
    rw [HK.out]
    exact HP.out.1

end Go.Proofs.Ytbkmgblijncjhaa

set_option linter.unusedVariables false
set_option linter.unusedSimpArgs false
namespace Go.Proofs.Ytbkmgblijncjhaa
open Go.RowKit Go.Maps

section
variable {w : World} {base b n : Nat} {F : List (List Int)} {s : SS} {G : SG} {o : Owns}
theorem set_at {L : List Int} {i : Nat} (u : Int) (h : i < L.length) : (L.set i u)[i]? = some u := List.getElem?_set_self h
theorem set_ne {L : List Int} {i j : Nat} {u : Int} (h : i ≠ j) : (L.set i u)[j]? = L[j]? := List.getElem?_set_ne h
theorem SRel.put (hr : SRel n s G) (h : SMem w base b n s G o) (hll : ∀ l ∈ s.lims, l ≤ s.tr.length) {x why : Int} (h0 : x ≠ 0) (hx : x.natAbs ≤ n) (hu : x ∉ s.lits) (hu2 : -x ∉ s.lits) (T : Option Addr) (ct : Nat) : SRel n (s.put x why) (G.put s x why T ct) := by
  have hne : ∀ (i : Nat) (y : Int), s.lits[i]? = some y → x.natAbs ≠ y.natAbs := fun i y hy e => by
    have hm := List.mem_of_getElem? hy
    have e2 : y = x ∨ y = -x := by omega
    rcases e2 with rfl | rfl
    · exact hu hm
    · exact hu2 hm
  refine ⟨fun v h1 h2 => ?_, fun i y hy => ?_, fun i y r hy => ?_, ⟨hr.ui.mem, hr.ui.len⟩⟩
  · show (G.V.set x.natAbs (sgn x))[v]? = _
    rw [put_lits]
    by_cases e : x.natAbs = v
    · rw [e, set_at _ (by rw [h.v.len]; omega)]
      congr 1
      unfold sgn valL
      by_cases hneg : x < 0
      · have e1 : (v : Int) = -x := by omega
        rw [if_pos hneg, e1, Int.neg_neg, if_neg (by simp [hu2]; omega), if_pos (by simp)]
      · have e1 : (v : Int) = x := by omega
        rw [if_neg hneg, e1, if_pos (by simp)]
    · rw [set_ne e, hr.vv v h1 h2]
      congr 1
      unfold valL
      have e1 : (v : Int) ≠ x := by omega
      have e2 : -(v : Int) ≠ x := by omega
      simp [e1, e2]
  · rw [put_lits] at hy
    show (G.LV.set x.natAbs (s.lims.length : Int))[y.natAbs]? = some (levAt s.lims i : Int)
    rcases get_snoc hy with ⟨h1, h2⟩ | ⟨h1, h2⟩
    · rw [set_ne (hne i y h2), hr.lv i y h2]
    · subst h2
      rw [set_at _ (by rw [h.l.len]; omega), h1, lev_all fun l hl => by
        have := hll l hl
        rw [show s.lits.length = s.tr.length from List.length_map ..]
        exact this]
  · show (G.RV.set x.natAbs why)[y.natAbs]? = some r
    rcases get_snoc hy with ⟨h1, h2⟩ | ⟨h1, h2⟩
    · rw [set_ne (hne i y (lits_get.2 ⟨r, h2⟩)), hr.rv i y r h2]
    · cases h2
      exact set_at _ (by rw [h.r.len]; omega)
theorem clause_len (hi : Inv n F s) {c : List Int} (hc : c ∈ s.cls) : c.length ≤ n := by
  have := length_le_of_nodup n (c.map Int.natAbs) (hi.nd c hc) (fun v hv => by
    obtain ⟨x, hx, rfl⟩ := List.mem_map.1 hv
    have := hi.rng c hc x hx
    omega)
  rwa [List.length_map] at this
/-- A clause's slice. -/
theorem SMem.clause (h : SMem w base b n s G o) {k : Nat} {c : List Int} (hk : s.cls[k]? = some c) : ∃ (q p : Nat) (A : Option Addr) (cp : Nat), G.C = some ⟨q, p, none⟩ ∧ w.cell? ⟨q, p + k, none⟩ = some (.slice A c.length cp) ∧ Vals w w.heap.size A (i64s c) ∧ c.length ≤ cp := by
  have hkl := (List.getElem?_eq_some_iff.1 hk).1
  obtain ⟨A, hA⟩ : ∃ A, G.CS[k]? = some A := ⟨_, List.getElem?_eq_getElem (by rw [h.csl]; exact hkl)⟩
  obtain ⟨h1, h2, _⟩ := h.cl k c A hk hA
  obtain ⟨q, p, e, _, hc⟩ := Vals.of_own h.cs k (clV (c, A)) (by
    rw [List.getElem?_map, List.getElem?_zip_eq_some (z := (c, A)) |>.2 ⟨hk, hA⟩]
    rfl)
  exact ⟨q, p, A.1, A.2, e, hc, h1, h2⟩
end
end Go.Proofs.Ytbkmgblijncjhaa

set_option linter.unusedVariables false
set_option linter.unusedSimpArgs false
namespace Go.Proofs.Ytbkmgblijncjhaa
open Go.RowKit Go.Maps

/-- What stands of the solver, on a way that began with s. -/
structure FolSt (w wr : World) (base b n : Nat) (F : List (List Int)) (A : List Int) (s : SS) (G : SG) (o : Owns) (s' : SS) (G' : SG) (o' : Owns) : Prop where
  m : SMem wr base b n s' G' o'
  r : SRel n s' G'
  i : Inv n F s'
  wa : Wat s'
  g : GInv A s'
  cls : s'.cls = s.cls
  lims : s'.lims = s.lims
  phi : s.phi n ≤ s'.phi n
  mu : s'.mu n ≤ s.mu n
  und : G'.und = G.und
  U : G'.U = G.U
  dead : G'.dead = G.dead
  un : G'.un = G.un
  olds : Olds w o o'
  fr : SFr o w wr
  w2 : W2 s → W2 s'
  wl : WL s → WL s'
  l0 : lvl0 s ≤ lvl0 s'
section
variable {w wr w' : World} {base b n : Nat} {F : List (List Int)} {A : List Int} {s s' : SS} {G G' : SG} {o o' o'' : Owns}
theorem FolSt.start (h : SMem w base b n s G o) (hr : SRel n s G) (hi : Inv n F s) (hw : Wat s) (hg : GInv A s) : FolSt w w base b n F A s G o s G o :=
  ⟨h, hr, hi, hw, hg, rfl, rfl, Nat.le_refl _, Nat.le_refl _, rfl, rfl, rfl, rfl, Olds.refl _ _, SFr.refl _ _, id, id, Nat.le_refl _⟩
theorem FolSt.after (h : FolSt w wr base b n F A s G o s' G' o') (hb : Below wr.heap.size wr w') : FolSt w w' base b n F A s G o s' G' o' :=
  { h with m := h.m.after hb, fr := h.fr.trans (SFr.of_below hb o') h.olds }
theorem FolSt.put (h : FolSt w wr base b n F A s G o s' G' o') {k : Nat} {c : List Int} {x : Int} (hc : s'.cls[k]? = some c) (hx : x ∈ c) (hf : ∀ y ∈ c, y ≠ x → -y ∈ s'.lits) (hu : x ∉ s'.lits) (hu2 : -x ∉ s'.lits)
    {T : Option Addr} {ct : Nat} (hm : SMem w' base b n (s'.put x (k : Int)) (G'.put s' x (k : Int) T ct) o'') (ho : Olds wr o' o'') (hfr : SFr o' wr w') : FolSt w w' base b n F A s G o (s'.put x (k : Int)) (G'.put s' x (k : Int) T ct) o'' := by
  have hx2 := h.i.rng c (List.mem_of_getElem? hc) x hx
  have hi2 := h.i.put hc hx hf hu hu2
  have hl : s'.tr.length < n := by
    have := hi2.len
    simp [SS.put] at this
    omega
  have hp := h.i.phi_put (x := x) (r := (k : Int)) hl
  exact ⟨hm, h.r.put h.m (fun l hl => Nat.le_of_lt (h.i.llt l hl)) hx2.1 hx2.2 hu hu2 T ct, hi2, h.i.wat_put h.wa _ _, h.i.put_g h.g _ _, h.cls, h.lims, by have := h.phi; omega, Nat.le_of_lt (Nat.lt_of_lt_of_le (mu_of hp (phi_lt _)) h.mu), h.und, h.U, h.dead, h.un, h.olds.trans h.fr.size ho, h.fr.trans hfr h.olds, fun e => h.i.w2_put (h.w2 e) _ _, fun e => h.i.wl_put (h.wl e) _ _, Nat.le_trans h.l0 (lvl0_put _ _ _)⟩
theorem FolSt.adv (h : FolSt w wr base b n F A s G o s' G' o') (hd : s'.done < s'.tr.length) (hw : Wat s'.adv) (hw2 : W2 s' → W2 s'.adv) : FolSt w (wr.setCell ⟨b, 9, none⟩ (.int .i64 ((s'.done + 1 : Nat) : Int))) base b n F A s G o s'.adv G' o' :=
  ⟨h.m.set_done (s'.done + 1), ⟨h.r.vv, h.r.lv, h.r.rv, ⟨h.r.ui.mem, h.r.ui.len⟩⟩, h.i.adv hd, hw, h.g, h.cls, h.lims, h.phi, h.mu, h.und, h.U, h.dead, h.un, h.olds, h.fr.trans ((SFr.refl o' wr).set (i := 9) _ (.inr (by rw [h.m.so]; simp))) h.olds, fun e => hw2 (h.w2 e), fun e => h.wl e, h.l0⟩
end
/-- What follow tells. -/
def FolPost (w : World) (base b n : Nat) (F : List (List Int)) (A : List Int) (s : SS) (G : SG) (o : Owns) (e : Ending) (w' : World) : Prop :=
  ∃ (r : Int) (s' : SS) (G' : SG) (o' : Owns), e = .returned (.int .i64 r) ∧ FolSt w w' base b n F A s G o s' G' o' ∧ ((r = -1 ∧ s'.done = s'.tr.length) ∨ ∃ (k : Nat) (c : List Int), r = (k : Int) ∧ s'.cls[k]? = some c ∧ ∀ y ∈ c, -y ∈ s'.lits)

theorem sliceZero (w : World) : (zeroValue 25).run Try.prog w = .ok (.slice none 0 0) w := by kernel_rfl
set_option maxRecDepth 100000 in
set_option maxHeartbeats 4000000 in
theorem under_map {w : World} {G : SG} (hm : IMap Try.prog 3 w G.um G.un (fun x => if G.und x = [] then none else some (.slice (G.U x).1 (G.und x).length (G.U x).2))) (uz : ∀ x, G.und x = [] → G.U x = (none, 0)) {x : Int} (hx : -9223372036854775808 ≤ x ∧ x ≤ 9223372036854775807) :
    (Instr.lookup 60 (.map (some G.um)) (.int .i64 x) false).run Try.prog w = .ok (.slice (G.U x).1 (G.und x).length (G.U x).2) w := by
  rw [hm.look (e := 25) Try.underlying3 Try.underlying60 (sliceZero w) hx.1 hx.2]
  by_cases e : G.und x = []
  · rw [if_pos e, uz x e, e]
    rfl
  · rw [if_neg e]
    rfl
/-- 'under[x]'. -/
theorem SMem.under {w : World} {base b n : Nat} {s : SS} {G : SG} {o : Owns} (h : SMem w base b n s G o) {x : Int} (hx : -9223372036854775808 ≤ x ∧ x ≤ 9223372036854775807) :
    (Instr.lookup 60 (.map (some G.um)) (.int .i64 x) false).run Try.prog w = .ok (.slice (G.U x).1 (G.und x).length (G.U x).2) w := under_map h.mp h.uz hx

set_option maxRecDepth 100000 in
set_option maxHeartbeats 4000000 in
theorem follow_any {w : World} {base b n : Nat} {F : List (List Int)} {A : List Int} {s : SS} {G : SG} {o : Owns} (h : SMem w base b n s G o) (hr : SRel n s G) (hi : Inv n F s) (hw : Wat s) (hg : GInv A s) (hn : n ≤ 1000000) (hcl : s.cls.length ≤ 5000000000000) :
    Calls Try.prog 53 #[.pointer (some ⟨b, 0, none⟩)] w (FolPost w base b n F A s G o) := by
  have HST := Lib.hid (FolSt.start h hr hi hw hg)
  clear h hr hi hw hg
  go_enter Try.func53, Try.ntmps53
  go_wp2_with fail
  go_loopw [] (fun wr => ∃ (s' : SS) (G' : SG) (o' : Owns), FolSt w wr base b n F A s G o s' G' o') (fun wr => match wr.cell? ⟨b, 9, none⟩ with
    | some v => n + 1 - (intOf v).toNat
    | none => 0)
  case atStart => exact ⟨s, G, o, HST.out⟩
  case round =>
    obtain ⟨s1, G1, o1, hF⟩ := hrel
    have HF := Lib.hid hF
    clear hF HST
    have hlen := HF.out.i.len
    have hdn := HF.out.i.dn
    have HC9 : Hid (wr.cell? ⟨b, 9, none⟩ = some (.int .i64 (s1.done : Int))) := Lib.hid (HF.out.m.sb.cell 9)
    by_cases hlt : s1.done < s1.tr.length
    · obtain ⟨t, ht⟩ : ∃ t, s1.lits[s1.done]? = some t := ⟨_, List.getElem?_eq_getElem (by rw [HF.out.i.lits_len]; exact hlt)⟩
      have ht0 := HF.out.i.trng t (List.mem_of_getElem? ht)
      have hlt' : (s1.done : Int) < (s1.tr.length : Int) := by omega
      obtain ⟨q, p, eT, _, hct⟩ := Vals.of_own HF.out.m.tr s1.done (.int .i64 t) (i64s_at ht)
      have hwt : IntKind.i64.wrap (-t) = -t := IntWalk.i64_in _ (by omega)
      go_wp2_with fail
      refine wp_region_noPanic ?_
      refine wp_region_seq (fun W => W.cell? ⟨b, 9, none⟩ = some (.int .i64 (s1.done : Int)) ∧ W.cell? ⟨b, 8, none⟩ = some (.slice (some ⟨q, p, none⟩) s1.tr.length G1.ct)) [0, 4, 1, 2, 3, 5, 6, 7, 8, 9] [0, 1, 2, 3, 4, 5, 6, 7, 8, 9] [] (by kernel_rfl) (by kernel_rfl) rfl (by kernel_rfl) (by kernel_rfl) (fun _ _ _ _ _ h => h) ?_ (fun hSS => ?_)
      · exact ⟨HF.out.m.sb.cell 9, (HF.out.m.sb.cell 8).trans (by rw [← eT]; rfl)⟩
      clear hSS
      have HF2 := Lib.hid (HF.out.after (stepD1 wr))
      have hct2 : wr.drew.cell? ⟨q, p + s1.done, none⟩ = some (.int .i64 t) := hct
      clear HF hct
      generalize wr.drew = w2 at HF2 hct2 ⊢
      (refine wpSeq_mov rfl rfl ?_; intro o ho; simp only [List.getElem?_toArray, List.getElem?_cons_zero, List.getElem?_cons_succ, Option.some.injEq] at ho; subst ho; refine ⟨?_, Or.inl ⟨by rfl, fun W hSW => ?_⟩, ?_⟩; rotate_left; (focus (go_simp; first | done | with_reducible rfl)); try simp only [Act.put, List.setIfInBounds_toArray, List.set_cons_zero, List.set_cons_succ])
      (refine wpSeq_mov rfl rfl ?_; intro o ho; simp only [List.getElem?_toArray, List.getElem?_cons_zero, List.getElem?_cons_succ, Option.some.injEq] at ho; subst ho; refine ⟨?_, Or.inl ⟨by rfl, fun W hSW => ?_⟩, ?_⟩; rotate_left; (focus (go_simp; first | done | with_reducible rfl)); try simp only [Act.put, List.setIfInBounds_toArray, List.set_cons_zero, List.set_cons_succ])
      (refine wpSeq_mov rfl rfl ?_; intro o ho; simp only [List.getElem?_toArray, List.getElem?_cons_zero, List.getElem?_cons_succ, Option.some.injEq] at ho; subst ho; refine ⟨?_, Or.inl ⟨by rfl, fun W hSW => ?_⟩, ?_⟩; rotate_left; (focus (go_simp; first | done | with_reducible rfl)); try simp only [Act.put, List.setIfInBounds_toArray, List.set_cons_zero, List.set_cons_succ])
      (refine wpSeq_mov rfl rfl ?_; intro o ho; simp only [List.getElem?_toArray, List.getElem?_cons_zero, List.getElem?_cons_succ, Option.some.injEq] at ho; subst ho; refine ⟨?_, Or.inl ⟨by rfl, fun W hSW => ?_⟩, ?_⟩; rotate_left; (focus (go_simp; first | done | with_reducible rfl)); try simp only [Act.put, List.setIfInBounds_toArray, List.set_cons_zero, List.set_cons_succ])
      (refine wpSeq_mov rfl rfl ?_; intro o ho; simp only [List.getElem?_toArray, List.getElem?_cons_zero, List.getElem?_cons_succ, Option.some.injEq] at ho; subst ho; refine ⟨?_, Or.inl ⟨by rfl, fun W hSW => ?_⟩, ?_⟩; rotate_left; (focus (go_simp; first | done | with_reducible rfl)); try simp only [Act.put, List.setIfInBounds_toArray, List.set_cons_zero, List.set_cons_succ])
      (refine wpSeq_mov rfl rfl ?_; intro o ho; simp only [List.getElem?_toArray, List.getElem?_cons_zero, List.getElem?_cons_succ, Option.some.injEq] at ho; subst ho; refine ⟨?_, Or.inl ⟨by rfl, fun W hSW => ?_⟩, ?_⟩; rotate_left; (focus (go_simp; first | done | with_reducible rfl)); try simp only [Act.put, List.setIfInBounds_toArray, List.set_cons_zero, List.set_cons_succ])
      (refine wpSeq_mov rfl rfl ?_; intro o ho; simp only [List.getElem?_toArray, List.getElem?_cons_zero, List.getElem?_cons_succ, Option.some.injEq] at ho; subst ho; refine ⟨?_, Or.inl ⟨by rfl, fun W hSW => ?_⟩, ?_⟩; rotate_left; (focus (go_simp; first | done | with_reducible rfl)); try simp only [Act.put, List.setIfInBounds_toArray, List.set_cons_zero, List.set_cons_succ])
      (refine wpSeq_mov rfl rfl ?_; intro o ho; simp only [List.getElem?_toArray, List.getElem?_cons_zero, List.getElem?_cons_succ, Option.some.injEq] at ho; subst ho; refine ⟨?_, Or.inl ⟨by rfl, fun W hSW => ?_⟩, ?_⟩; rotate_left; (focus (go_simp; first | done | with_reducible rfl)); try simp only [Act.put, List.setIfInBounds_toArray, List.set_cons_zero, List.set_cons_succ])
      (refine wpSeq_mov rfl rfl ?_; intro o ho; simp only [List.getElem?_toArray, List.getElem?_cons_zero, List.getElem?_cons_succ, Option.some.injEq] at ho; subst ho; refine ⟨?_, Or.inl ⟨by rfl, fun W hSW => ?_⟩, ?_⟩; rotate_left; (focus (go_simp; first | done | with_reducible rfl)); try simp only [Act.put, List.setIfInBounds_toArray, List.set_cons_zero, List.set_cons_succ])
      (refine wpSeq_mov rfl rfl ?_; intro o ho; simp only [List.getElem?_toArray, List.getElem?_cons_zero, List.getElem?_cons_succ, Option.some.injEq] at ho; subst ho; refine ⟨?_, Or.inl ⟨by rfl, fun W hSW => ?_⟩, ?_⟩; rotate_left; (focus (go_simp; first | done | with_reducible rfl)); try simp only [Act.put, List.setIfInBounds_toArray, List.set_cons_zero, List.set_cons_succ])
      refine wpSeq_done ?_
      go_wp2_with fail
      have HLK := Lib.hid (HF2.out.m.under (x := -t) (by omega))
      rw [HF2.out.und, HF2.out.U] at HLK
      refine wp_region_noPanic ?_
      refine wp_region_seq (fun W => W.cell? ⟨b, 2, none⟩ = some (.map (some G1.um)) ∧ W.cell? ⟨b, 9, none⟩ = some (.int .i64 (s1.done : Int)) ∧ W.cell? ⟨b, 8, none⟩ = some (.slice (some ⟨q, p, none⟩) s1.tr.length G1.ct) ∧ W.cell? ⟨q, p + s1.done, none⟩ = some (.int .i64 t) ∧ (Instr.lookup 60 (.map (some G1.um)) (.int .i64 (-t)) false).run Try.prog W = .ok (.slice (G.U (-t)).1 (G.und (-t)).length (G.U (-t)).2) W) [0, 4, 8, 17, 1, 2, 3, 5, 6, 7, 9, 10, 11, 12, 13, 14, 15, 16] [0, 1, 2, 3, 4, 5, 6, 7, 8, 9, 10, 11, 12, 13, 14, 15, 16, 17] [] (by kernel_rfl) (by kernel_rfl) rfl (by kernel_rfl) (by kernel_rfl) (fun _ _ _ _ _ h => h) ?_ (fun hSS => ?_)
      · have h1 := (HF2.out.after (stepD1 w2)).m.under (x := -t) (by omega)
        rw [HF2.out.und, HF2.out.U] at h1
        exact ⟨HF2.out.m.sb.cell 2, HF2.out.m.sb.cell 9, (HF2.out.m.sb.cell 8).trans (by rw [← eT]; rfl), hct2, h1⟩
      clear hSS HLK
      have HF3 := Lib.hid (HF2.out.after (stepD1 w2))
      clear HF2 hct2
      generalize w2.drew = w3 at HF3 ⊢
      (refine wpSeq_mov rfl rfl ?_; intro o ho; simp only [List.getElem?_toArray, List.getElem?_cons_zero, List.getElem?_cons_succ, Option.some.injEq] at ho; subst ho; refine ⟨?_, Or.inl ⟨by rfl, fun W hSW => ?_⟩, ?_⟩; rotate_left; (focus (go_simp; first | done | with_reducible rfl)); try simp only [Act.put, List.setIfInBounds_toArray, List.set_cons_zero, List.set_cons_succ])
      (refine wpSeq_mov rfl rfl ?_; intro o ho; simp only [List.getElem?_toArray, List.getElem?_cons_zero, List.getElem?_cons_succ, Option.some.injEq] at ho; subst ho; refine ⟨?_, Or.inl ⟨by rfl, fun W hSW => ?_⟩, ?_⟩; rotate_left; (focus (go_simp; first | done | with_reducible rfl)); try simp only [Act.put, List.setIfInBounds_toArray, List.set_cons_zero, List.set_cons_succ])
      (refine wpSeq_mov rfl rfl ?_; intro o ho; simp only [List.getElem?_toArray, List.getElem?_cons_zero, List.getElem?_cons_succ, Option.some.injEq] at ho; subst ho; refine ⟨?_, Or.inl ⟨by rfl, fun W hSW => ?_⟩, ?_⟩; rotate_left; (focus (go_simp; first | done | with_reducible rfl)); try simp only [Act.put, List.setIfInBounds_toArray, List.set_cons_zero, List.set_cons_succ])
      (refine wpSeq_mov rfl rfl ?_; intro o ho; simp only [List.getElem?_toArray, List.getElem?_cons_zero, List.getElem?_cons_succ, Option.some.injEq] at ho; subst ho; refine ⟨?_, Or.inl ⟨by rfl, fun W hSW => ?_⟩, ?_⟩; rotate_left; (focus (go_simp; first | done | with_reducible rfl)); try simp only [Act.put, List.setIfInBounds_toArray, List.set_cons_zero, List.set_cons_succ])
      (refine wpSeq_mov rfl rfl ?_; intro o ho; simp only [List.getElem?_toArray, List.getElem?_cons_zero, List.getElem?_cons_succ, Option.some.injEq] at ho; subst ho; refine ⟨?_, Or.inl ⟨by rfl, fun W hSW => ?_⟩, ?_⟩; rotate_left; (focus (go_simp; first | done | with_reducible rfl)); try simp only [Act.put, List.setIfInBounds_toArray, List.set_cons_zero, List.set_cons_succ])
      (refine wpSeq_mov rfl rfl ?_; intro o ho; simp only [List.getElem?_toArray, List.getElem?_cons_zero, List.getElem?_cons_succ, Option.some.injEq] at ho; subst ho; refine ⟨?_, Or.inl ⟨by rfl, fun W hSW => ?_⟩, ?_⟩; rotate_left; (focus (go_simp; first | done | with_reducible rfl)); try simp only [Act.put, List.setIfInBounds_toArray, List.set_cons_zero, List.set_cons_succ])
      (refine wpSeq_mov rfl rfl ?_; intro o ho; simp only [List.getElem?_toArray, List.getElem?_cons_zero, List.getElem?_cons_succ, Option.some.injEq] at ho; subst ho; refine ⟨?_, Or.inl ⟨by rfl, fun W hSW => ?_⟩, ?_⟩; rotate_left; (focus (go_simp; first | done | with_reducible rfl)); try simp only [Act.put, List.setIfInBounds_toArray, List.set_cons_zero, List.set_cons_succ])
      (refine wpSeq_mov rfl rfl ?_; intro o ho; simp only [List.getElem?_toArray, List.getElem?_cons_zero, List.getElem?_cons_succ, Option.some.injEq] at ho; subst ho; refine ⟨?_, Or.inl ⟨by rfl, fun W hSW => ?_⟩, ?_⟩; rotate_left; (focus (go_simp; first | done | with_reducible rfl)); try simp only [Act.put, List.setIfInBounds_toArray, List.set_cons_zero, List.set_cons_succ])
      (refine wpSeq_mov rfl rfl ?_; intro o ho; simp only [List.getElem?_toArray, List.getElem?_cons_zero, List.getElem?_cons_succ, Option.some.injEq] at ho; subst ho; refine ⟨?_, Or.inl ⟨by rfl, fun W hSW => ?_⟩, ?_⟩; rotate_left; (focus (go_simp; first | done | with_reducible rfl)); try simp only [Act.put, List.setIfInBounds_toArray, List.set_cons_zero, List.set_cons_succ])
      (refine wpSeq_mov rfl rfl ?_; intro o ho; simp only [List.getElem?_toArray, List.getElem?_cons_zero, List.getElem?_cons_succ, Option.some.injEq] at ho; subst ho; refine ⟨?_, Or.inl ⟨by rfl, fun W hSW => ?_⟩, ?_⟩; rotate_left; (focus (go_simp; first | done | with_reducible rfl)); try simp only [Act.put, List.setIfInBounds_toArray, List.set_cons_zero, List.set_cons_succ])
      (refine wpSeq_mov rfl rfl ?_; intro o ho; simp only [List.getElem?_toArray, List.getElem?_cons_zero, List.getElem?_cons_succ, Option.some.injEq] at ho; subst ho; refine ⟨?_, Or.inl ⟨by rfl, fun W hSW => ?_⟩, ?_⟩; rotate_left; (focus (go_simp; first | done | with_reducible rfl)); try simp only [Act.put, List.setIfInBounds_toArray, List.set_cons_zero, List.set_cons_succ])
      (refine wpSeq_mov rfl rfl ?_; intro o ho; simp only [List.getElem?_toArray, List.getElem?_cons_zero, List.getElem?_cons_succ, Option.some.injEq] at ho; subst ho; refine ⟨?_, Or.inl ⟨by rfl, fun W hSW => ?_⟩, ?_⟩; rotate_left; (focus (go_simp; first | done | with_reducible rfl)); try simp only [Act.put, List.setIfInBounds_toArray, List.set_cons_zero, List.set_cons_succ])
      (refine wpSeq_mov rfl rfl ?_; intro o ho; simp only [List.getElem?_toArray, List.getElem?_cons_zero, List.getElem?_cons_succ, Option.some.injEq] at ho; subst ho; refine ⟨?_, Or.inl ⟨by rfl, fun W hSW => ?_⟩, ?_⟩; rotate_left; (focus (go_simp; first | done | with_reducible rfl)); try simp only [Act.put, List.setIfInBounds_toArray, List.set_cons_zero, List.set_cons_succ])
      (refine wpSeq_mov rfl rfl ?_; intro o ho; simp only [List.getElem?_toArray, List.getElem?_cons_zero, List.getElem?_cons_succ, Option.some.injEq] at ho; subst ho; refine ⟨?_, Or.inl ⟨by rfl, fun W hSW => ?_⟩, ?_⟩; rotate_left; (focus (go_simp; first | done | with_reducible rfl)); try simp only [Act.put, List.setIfInBounds_toArray, List.set_cons_zero, List.set_cons_succ])
      (refine wpSeq_mov rfl rfl ?_; intro o ho; simp only [List.getElem?_toArray, List.getElem?_cons_zero, List.getElem?_cons_succ, Option.some.injEq] at ho; subst ho; refine ⟨?_, Or.inl ⟨by rfl, fun W hSW => ?_⟩, ?_⟩; rotate_left; (focus (go_simp; first | done | with_reducible rfl)); try simp only [Act.put, List.setIfInBounds_toArray, List.set_cons_zero, List.set_cons_succ])
      (refine wpSeq_mov rfl rfl ?_; intro o ho; simp only [List.getElem?_toArray, List.getElem?_cons_zero, List.getElem?_cons_succ, Option.some.injEq] at ho; subst ho; refine ⟨?_, Or.inl ⟨by rfl, fun W hSW => ?_⟩, ?_⟩; rotate_left; (focus (go_simp; first | done | with_reducible rfl)); try simp only [Act.put, List.setIfInBounds_toArray, List.set_cons_zero, List.set_cons_succ])
      (refine wpSeq_mov rfl rfl ?_; intro o ho; simp only [List.getElem?_toArray, List.getElem?_cons_zero, List.getElem?_cons_succ, Option.some.injEq] at ho; subst ho; refine ⟨?_, Or.inl ⟨by rfl, fun W hSW => ?_⟩, ?_⟩; rotate_left; (focus (go_simp; first | done | with_reducible rfl)); try simp only [Act.put, List.setIfInBounds_toArray, List.set_cons_zero, List.set_cons_succ])
      (refine wpSeq_mov rfl rfl ?_; intro o ho; simp only [List.getElem?_toArray, List.getElem?_cons_zero, List.getElem?_cons_succ, Option.some.injEq] at ho; subst ho; refine ⟨?_, Or.inl ⟨by rfl, fun W hSW => ?_⟩, ?_⟩; rotate_left; (focus (go_simp; first | done | with_reducible rfl)); try simp only [Act.put, List.setIfInBounds_toArray, List.set_cons_zero, List.set_cons_succ])
      refine wpSeq_done ?_
      have HT := Lib.hid ht
      clear ht eT
      go_wp2_with fail
      go_loopw [41] (fun iv wi => ∃ (j : Nat) (s2 : SS) (G2 : SG) (o2 : Owns), j ≤ (G.und (-t)).length ∧ iv = .int .i64 (j : Int) ∧ FolSt w wi base b n F A s G o s2 G2 o2 ∧ s2.done = s1.done ∧ s1.done < s2.tr.length ∧ s2.lits[s1.done]? = some t ∧ ∀ i, i < j → ∀ k, (G.und (-t))[i]? = some k → ∀ c, s2.cls[k]? = some c → (∃ y ∈ c, -y ∉ s2.lits.take (s1.done + 1)) ∧ W2c s2.lits (s1.done + 1) c) (fun iv _ => (G.und (-t)).length - (intOf iv).toNat)
      case atStart => exact ⟨0, s1, G1, o1, Nat.zero_le _, rfl, HF3.out, rfl, hlt, HT.out, fun i hi => by omega⟩
      case round =>
        obtain ⟨j, s2, G2, o2, hj, rfl, hF, hd2, hl2, ht2, hdone⟩ := hrel
        have HF4 := Lib.hid hF
        have HD := Lib.hid hdone
        have HT2 := Lib.hid ht2
        have HD2 := Lib.hid hd2
        clear hF HF3 hdone ht2 hd2
        have hul : (G.und (-t)).length ≤ 5000000000000 := by
          have h1 := HF4.out.r.ui.len (-t)
          rw [HF4.out.und, HF4.out.cls] at h1
          omega
        by_cases hjl : j < (G.und (-t)).length
        · have hjl' : (j : Int) < ((G.und (-t)).length : Int) := by omega
          obtain ⟨k, hk⟩ : ∃ k, (G.und (-t))[j]? = some k := ⟨_, List.getElem?_eq_getElem hjl⟩
          have hur := HF4.out.m.ur (-t)
          rw [HF4.out.und, HF4.out.U] at hur
          obtain ⟨q2, p2, eU, _, hcu⟩ := Vals.of_own hur j (.int .i64 (k : Int)) (by unfold natV; rw [List.getElem?_map, hk]; rfl)
          have hkm : k ∈ G2.und (-t) := by rw [HF4.out.und]; exact List.mem_of_getElem? hk
          obtain ⟨c, hc, hcx⟩ := (HF4.out.r.ui.mem (-t) k).1 hkm
          have hkl : (k : Int) < (s2.cls.length : Int) := by have := (List.getElem?_eq_some_iff.1 hc).1; omega
          have hkl2 : s2.cls.length ≤ 5000000000000 := by rw [HF4.out.cls]; exact hcl
          obtain ⟨q3, p3, Ac, cp, eC, hcc, hvc, hcp⟩ := HF4.out.m.clause hc
          have hcn := clause_len HF4.out.i (List.mem_of_getElem? hc)
          have hrng := HF4.out.i.rng c (List.mem_of_getElem? hc)
          have hnb : ∀ x, ¬ (x ∈ s2.lits ∧ -x ∈ s2.lits) := fun x hx => HF4.out.i.not_both hx.1 hx.2
          have HLK := Lib.hid (look_any HF4.out.m HF4.out.r hn hnb hvc (by omega) hcp hrng)
          have c1 : wr.cell? ⟨b, 1, none⟩ = some (.slice (some ⟨q3, p3, none⟩) s2.cls.length G2.cc) := (HF4.out.m.sb.cell 1).trans (by rw [← eC]; rfl)
          have HRNG := Lib.hid hrng
          have HNB := Lib.hid hnb
          have HK := Lib.hid hk
          have HCX := Lib.hid hcx
          have HC := Lib.hid hc
          clear hur hvc hrng hnb hk hcx hc eC hkm
          rw [eU]
          go_wp2_with fail
          refine HLK.out.mono ?_
          rintro e w5 ⟨rfl, hw⟩
          have hw' := hw.symm
          subst hw'
          clear hw HLK
          obtain ⟨lf, hlf⟩ : ∃ lf, lf = lookF s2.lits c 0 := ⟨_, rfl⟩
          rw [← hlf]
          have h0c : ∀ x ∈ c, x ≠ 0 := fun x hx => (HRNG.out x hx).1
          by_cases hfl : lf.2 = true
          · have h1 := (lookF_fails c 0 h0c (by rw [← hlf]; exact hfl)).2
            rw [hfl]
            have H1 := Lib.hid h1
            clear hlf hfl h1 h0c
            go_wp2_with fail
            go_ret
            exact ⟨(k : Int), s2, G2, o2, rfl, HF4.out, .inr ⟨k, c, rfl, HC.out, H1.out⟩⟩
          · have hfl' : lf.2 = false := by simpa using hfl
            rw [hfl']
            by_cases hx0 : lf.1 = 0
            · have h1 := lookF_rest HNB.out c 0 h0c (by rw [← hlf]; exact hx0) (by rw [← hlf]; exact hfl')
              have h1b := lookF_two (L := s2.lits) c 0 h0c (nodup_of_abs (HF4.out.i.nd c (List.mem_of_getElem? HC.out))) (fun h => h0c 0 h rfl) (by rw [← hlf]; exact hx0) (by rw [← hlf]; exact hfl')
              have H2 : Hid (W2c s2.lits (s1.done + 1) c) := Lib.hid (by
                rcases h1b with h | ⟨h, _⟩ | ⟨y, a, z, b, e, f, g⟩
                · exact .inl h
                · exact absurd rfl h
                · exact .inr ⟨y, a, z, b, e, fun h => f (List.mem_of_mem_take h), fun h => g (List.mem_of_mem_take h)⟩)
              rw [hx0]
              have H1 := Lib.hid h1
              clear h1b
              clear hlf hfl h1 h0c hfl' hx0
              go_wp2_with fail
              go_roundw
              case rel =>
                refine ⟨j + 1, s2, G2, o2, by omega, by go_num, HF4.out, HD2.out, hl2, HT2.out, fun i hi k' hk' c' hc' => ?_⟩
                by_cases e : i = j
                · subst e
                  rw [HK.out] at hk'
                  cases hk'
                  rw [HC.out] at hc'
                  cases hc'
                  obtain ⟨y, hy, hn1⟩ := H1.out
                  exact ⟨⟨y, hy, fun h2 => hn1 (List.mem_of_mem_take h2)⟩, H2.out⟩
                · exact HD.out i (by omega) k' hk' c' hc'
              case measure => simp [intOf]; omega
            · rcases lookF_follows c 0 h0c (by rw [← hlf]; exact hx0) with ⟨h1, _⟩ | ⟨_, h1, h2, h3, h4⟩
              · exact absurd rfl h1
              · rw [← hlf] at h1 h2 h3 h4
                generalize lf.1 = x at *
                have hxr := HRNG.out x h1
                have HPUT := Lib.hid (put_any HF4.out.m hn (x := x) (why := (k : Int)) hxr.1 hxr.2 (by have := HF4.out.i.len; omega))
                have H4 := Lib.hid (And.intro h1 (And.intro h2 (And.intro h3 h4)))
                clear hlf hfl h0c hfl' h1 h2 h3 h4
                go_wp2_with fail
                refine HPUT.out.mono ?_
                rintro e w6 ⟨rfl, T6, ct6, o6, hm6, ho6, hf6⟩
                have hF6 := HF4.out.put HC.out H4.out.1 H4.out.2.2.2 H4.out.2.1 H4.out.2.2.1 hm6 ho6 hf6
                have HF6 := Lib.hid hF6
                clear hF6 hm6 ho6 hf6 HPUT c1
                go_wp2_with fail
                go_roundw
                case rel =>
                  have htk := HF4.out.i.take_put (x := x) (r := (k : Int)) (by rw [HD2.out]; exact hl2)
                  rw [HD2.out] at htk
                  refine ⟨j + 1, s2.put x (k : Int), _, o6, by omega, by go_num, HF6.out, HD2.out, ?_, ?_, fun i hi k' hk' c' hc' => ?_⟩
                  · simp [SS.put]
                    omega
                  · rw [put_lits, List.getElem?_append_left (by rw [HF4.out.i.lits_len]; exact hl2)]
                    exact HT2.out
                  · rw [htk]
                    have hc'' : s2.cls[k']? = some c' := hc'
                    by_cases e : i = j
                    · subst e
                      rw [HK.out] at hk'
                      cases hk'
                      rw [HC.out] at hc''
                      cases hc''
                      refine ⟨⟨x, H4.out.1, fun h2 => ?_⟩, .inl ⟨x, H4.out.1, by rw [put_lits]; simp⟩⟩
                      exact H4.out.2.2.1 (List.mem_of_mem_take h2)
                    · have h9 := HD.out i (by omega) k' hk' c' hc''
                      exact ⟨h9.1, by rw [put_lits]; exact h9.2.snoc (by rw [HF4.out.i.lits_len]; omega) x⟩
                case measure => simp [intOf]; omega
        · have hjl' : ¬ (j : Int) < ((G.und (-t)).length : Int) := by omega
          have hwa : Wat s2.adv := by
            refine HF4.out.i.wat_adv HF4.out.wa HF4.out.r.ui (t := t) (by rw [HD2.out]; exact HT2.out) fun k hk c hc => ?_
            rw [HF4.out.und] at hk
            obtain ⟨i, hik⟩ := List.getElem?_of_mem hk
            rw [HD2.out]
            exact (HD.out i (by have := (List.getElem?_eq_some_iff.1 hik).1; omega) k hik c hc).1
          have hw2a : W2 s2 → W2 s2.adv := fun hw => by
            refine HF4.out.i.w2_adv hw HF4.out.r.ui (t := t) (by rw [HD2.out]; exact HT2.out) fun k hk c hc => ?_
            rw [HF4.out.und] at hk
            obtain ⟨i, hik⟩ := List.getElem?_of_mem hk
            rw [HD2.out]
            exact (HD.out i (by have := (List.getElem?_eq_some_iff.1 hik).1; omega) k hik c hc).2
          have c9 : wr.cell? ⟨b, 9, none⟩ = some (.int .i64 (s1.done : Int)) := (HF4.out.m.sb.cell 9).trans (by rw [← HD2.out]; rfl)
          have z9 := HF4.out.m.sb.frozen 9
          have hF9 := HF4.out.adv (by rw [HD2.out]; exact hl2) hwa hw2a
          rw [HD2.out] at hF9
          have ed : ((s1.done + 1 : Nat) : Int) = (s1.done : Int) + 1 := by omega
          rw [ed] at hF9
          have HF9 := Lib.hid hF9
          clear hF9 hwa hw2a ed
          go_wp2_with fail
          go_roundw
          case rel => exact ⟨s2.adv, G2, o2, HF9.out⟩
          case measure =>
            have h1 := World.cell?_setCell_same wr ⟨b, 9, none⟩ (.int .i64 ((s1.done : Int) + 1)) c9
            rw [h1, HC9.out]
            simp [intOf]
            omega
    · have hlt' : ¬ (s1.done : Int) < (s1.tr.length : Int) := by omega
      go_wp2_with fail
      refine wp_region_noPanic ?_
      refine wp_region_seq (fun W => W.cell? ⟨b, 9, none⟩ = some (.int .i64 (s1.done : Int)) ∧ W.cell? ⟨b, 8, none⟩ = some (.slice G1.T s1.tr.length G1.ct)) [0, 4, 1, 2, 3, 5, 6, 7, 8, 9] [0, 1, 2, 3, 4, 5, 6, 7, 8, 9] [] (by kernel_rfl) (by kernel_rfl) rfl (by kernel_rfl) (by kernel_rfl) (fun _ _ _ _ _ h => h) ?_ (fun hSS => ?_)
      · exact ⟨HF.out.m.sb.cell 9, HF.out.m.sb.cell 8⟩
      clear hSS
      have HF2 := Lib.hid (HF.out.after (stepD1 wr))
      clear HF
      generalize wr.drew = w2 at HF2 ⊢
      (refine wpSeq_mov rfl rfl ?_; intro o ho; simp only [List.getElem?_toArray, List.getElem?_cons_zero, List.getElem?_cons_succ, Option.some.injEq] at ho; subst ho; refine ⟨?_, Or.inl ⟨by rfl, fun W hSW => ?_⟩, ?_⟩; rotate_left; (focus (go_simp; first | done | with_reducible rfl)); try simp only [Act.put, List.setIfInBounds_toArray, List.set_cons_zero, List.set_cons_succ])
      (refine wpSeq_mov rfl rfl ?_; intro o ho; simp only [List.getElem?_toArray, List.getElem?_cons_zero, List.getElem?_cons_succ, Option.some.injEq] at ho; subst ho; refine ⟨?_, Or.inl ⟨by rfl, fun W hSW => ?_⟩, ?_⟩; rotate_left; (focus (go_simp; first | done | with_reducible rfl)); try simp only [Act.put, List.setIfInBounds_toArray, List.set_cons_zero, List.set_cons_succ])
      (refine wpSeq_mov rfl rfl ?_; intro o ho; simp only [List.getElem?_toArray, List.getElem?_cons_zero, List.getElem?_cons_succ, Option.some.injEq] at ho; subst ho; refine ⟨?_, Or.inl ⟨by rfl, fun W hSW => ?_⟩, ?_⟩; rotate_left; (focus (go_simp; first | done | with_reducible rfl)); try simp only [Act.put, List.setIfInBounds_toArray, List.set_cons_zero, List.set_cons_succ])
      (refine wpSeq_mov rfl rfl ?_; intro o ho; simp only [List.getElem?_toArray, List.getElem?_cons_zero, List.getElem?_cons_succ, Option.some.injEq] at ho; subst ho; refine ⟨?_, Or.inl ⟨by rfl, fun W hSW => ?_⟩, ?_⟩; rotate_left; (focus (go_simp; first | done | with_reducible rfl)); try simp only [Act.put, List.setIfInBounds_toArray, List.set_cons_zero, List.set_cons_succ])
      (refine wpSeq_mov rfl rfl ?_; intro o ho; simp only [List.getElem?_toArray, List.getElem?_cons_zero, List.getElem?_cons_succ, Option.some.injEq] at ho; subst ho; refine ⟨?_, Or.inl ⟨by rfl, fun W hSW => ?_⟩, ?_⟩; rotate_left; (focus (go_simp; first | done | with_reducible rfl)); try simp only [Act.put, List.setIfInBounds_toArray, List.set_cons_zero, List.set_cons_succ])
      (refine wpSeq_mov rfl rfl ?_; intro o ho; simp only [List.getElem?_toArray, List.getElem?_cons_zero, List.getElem?_cons_succ, Option.some.injEq] at ho; subst ho; refine ⟨?_, Or.inl ⟨by rfl, fun W hSW => ?_⟩, ?_⟩; rotate_left; (focus (go_simp; first | done | with_reducible rfl)); try simp only [Act.put, List.setIfInBounds_toArray, List.set_cons_zero, List.set_cons_succ])
      (refine wpSeq_mov rfl rfl ?_; intro o ho; simp only [List.getElem?_toArray, List.getElem?_cons_zero, List.getElem?_cons_succ, Option.some.injEq] at ho; subst ho; refine ⟨?_, Or.inl ⟨by rfl, fun W hSW => ?_⟩, ?_⟩; rotate_left; (focus (go_simp; first | done | with_reducible rfl)); try simp only [Act.put, List.setIfInBounds_toArray, List.set_cons_zero, List.set_cons_succ])
      (refine wpSeq_mov rfl rfl ?_; intro o ho; simp only [List.getElem?_toArray, List.getElem?_cons_zero, List.getElem?_cons_succ, Option.some.injEq] at ho; subst ho; refine ⟨?_, Or.inl ⟨by rfl, fun W hSW => ?_⟩, ?_⟩; rotate_left; (focus (go_simp; first | done | with_reducible rfl)); try simp only [Act.put, List.setIfInBounds_toArray, List.set_cons_zero, List.set_cons_succ])
      (refine wpSeq_mov rfl rfl ?_; intro o ho; simp only [List.getElem?_toArray, List.getElem?_cons_zero, List.getElem?_cons_succ, Option.some.injEq] at ho; subst ho; refine ⟨?_, Or.inl ⟨by rfl, fun W hSW => ?_⟩, ?_⟩; rotate_left; (focus (go_simp; first | done | with_reducible rfl)); try simp only [Act.put, List.setIfInBounds_toArray, List.set_cons_zero, List.set_cons_succ])
      (refine wpSeq_mov rfl rfl ?_; intro o ho; simp only [List.getElem?_toArray, List.getElem?_cons_zero, List.getElem?_cons_succ, Option.some.injEq] at ho; subst ho; refine ⟨?_, Or.inl ⟨by rfl, fun W hSW => ?_⟩, ?_⟩; rotate_left; (focus (go_simp; first | done | with_reducible rfl)); try simp only [Act.put, List.setIfInBounds_toArray, List.set_cons_zero, List.set_cons_succ])
      refine wpSeq_done ?_
      go_wp2_with fail
      go_ret
      exact ⟨-1, s1, G1, o1, rfl, HF2.out, .inl ⟨rfl, by omega⟩⟩
end Go.Proofs.Ytbkmgblijncjhaa

set_option linter.unusedVariables false
set_option linter.unusedSimpArgs false
namespace Go.Proofs.Ytbkmgblijncjhaa
open Go.RowKit Go.Maps

/-- Append of one number, as a step of a region. -/
theorem step_append_int {ops : Array Oper} {o : Oper} {a : Act} {w : World} {K : Act → World → Prop} {Q : Exit → Act → World → Prop} {E : Prop} (hgd : o.guard = none) (s x : Operand)
    (ho : o.op = .call { callee := .builtin .append, args := #[s, x], argTypes := #[25, 25] })
    (base m : Nat) (xs : List Value) (v : Value) (hs : a.eval s = v) (hown : w.ownsRow base 3 1 v m xs)
    (g : Nat) (u : Value) (hu : u.oneCell' = true) (hx : a.eval x = .slice (some ⟨g, 0, none⟩) 1 1) (hq : Blk w g 3 #[u]) (h63 : m ≤ 5000000000000) (hbase : base ≤ w.heap.size)
    (h : ∀ A' c' w', w'.ownsRow base 3 1 (.slice A' (m + 1) c') (m + 1) (xs ++ [u]) → m + 1 ≤ c' → w.grownBy w' v.ownBlock → ((Value.slice A' (m + 1) c').ownBlock = v.ownBlock ∨ (Value.slice A' (m + 1) c').ownBlock = some w.heap.size) → K (a.put o.dst (.slice A' (m + 1) c')) w') :
    if Region.wanted o (yielded ops a.tmps) = true then Oper.wp Try.prog o a w K Q else E := by
  have hw : Region.wanted o (yielded ops a.tmps) = true := by simp [Region.wanted, hgd]
  rw [if_pos hw]
  obtain ⟨i0, hi0, hz0, hz1, hz2⟩ := info_parts intInfo
  obtain ⟨v', w', hr, h2, h3, h4, h5⟩ := run_append_own_at (P := Try.prog) w base 25 o.type 3 i0 _ 1 8 Try.underlying25 hi0 hz0 hz1 hz2 rfl (by omega) v m xs hown ⟨g, 0, none⟩ 1 1 [u] rfl (fun j y hj => by
      rw [Addr.add_lit, Nat.zero_add, hq.cell, List.getElem?_toArray]; exact hj) (fun y hy => by simp at hy; rw [hy]; exact hu) (by unfold maxLen; omega) (by omega) hbase
  obtain ⟨A', c', rfl, hc⟩ := own_form h2
  unfold Oper.wp execOp
  simp only [ho, resolve, invoke, builtin, Sem.run_bind, Sem.run_pure, Result.andThen_ok, List.map_toArray, List.map_cons, List.map_nil, hs, hx, hr]
  exact h A' c' w' h2 hc h3 h5

section
variable {w w9 : World} {base b n : Nat} {F : List (List Int)} {A : List Int} {s : SS} {G : SG} {o : Owns}
/-- A row of the solver's grows: its own cells stay. -/
theorem SMem.grown_s (h : SMem w base b n s G o) {row : Option Nat} (hg : w.grownBy w9 row) {l : Lab} (hl : l ≠ .s) (hr : ∀ k, row = some k → o k = some l) : (∀ i, w9.cell? ⟨b, i, none⟩ = w.cell? ⟨b, i, none⟩) ∧ ∀ i, w9.frozen? ⟨b, i, none⟩ = w.frozen? ⟨b, i, none⟩ := by
  have hb : w9.heap[b]? = w.heap[b]? := hg.block b (h.ol _ _ h.so).2 fun e => by
    have := hr b e.symm
    rw [h.so] at this
    exact hl (Option.some.inj this).symm
  exact ⟨fun i => by simp only [World.cell?, hb], fun i => by simp only [World.frozen?, hb]⟩
theorem SRel.lim (hr : SRel n s G) : SRel n { s with lims := s.lims ++ [s.tr.length] } G := by
  refine ⟨hr.vv, fun i x hx => ?_, hr.rv, ⟨hr.ui.mem, hr.ui.len⟩⟩
  rw [hr.lv i x hx]
  congr 2
  have hil : i < s.tr.length := by
    have := (List.getElem?_eq_some_iff.1 hx).1
    simpa [SS.lits] using this
  unfold levAt
  rw [List.countP_append]
  simp
  omega
/-- What guess leaves. -/
def GuessPost (w : World) (base b n : Nat) (s : SS) (G : SG) (o : Owns) (x : Int) (e : Ending) (w' : World) : Prop :=
  e = .returned (.tuple #[]) ∧ ∃ G' o', SMem w' base b n (s.guess x) G' o' ∧ SRel n (s.guess x) G' ∧ G'.und = G.und ∧ G'.U = G.U ∧ (G'.dead = G.dead ∧ G'.un = G.un) ∧ Olds w o o' ∧ SFr o w w'

set_option maxRecDepth 100000 in
set_option maxHeartbeats 4000000 in
theorem guess_any (h : SMem w base b n s G o) (hr : SRel n s G) (hi : Inv n F s) (hn : n ≤ 1000000) {x : Int} (h0 : x ≠ 0) (hx : x.natAbs ≤ n) (hu : x ∉ s.lits) (hu2 : -x ∉ s.lits) :
    Calls Try.prog 70 #[.pointer (some ⟨b, 0, none⟩), .int .i64 x] w (GuessPost w base b n s G o x) := by
  have hlen := hi.len
  have hll : s.lims.length ≤ 1000000 := by
    have := length_le_of_nodup s.tr.length (s.lims.map (· + 1)) (by
      exact List.pairwise_map.2 (hi.lpw.imp fun {a b} h => by omega)) (fun v hv => by
      obtain ⟨l, hl, rfl⟩ := List.mem_map.1 hv
      have := hi.llt l hl
      omega)
    rw [List.length_map] at this
    omega
  have HPP : Hid (GuessPost w base b n s G o x = fun e w' => e = .returned (.tuple #[]) ∧ ∃ G' o', SMem w' base b n (s.guess x) G' o' ∧ SRel n (s.guess x) G' ∧ G'.und = G.und ∧ G'.U = G.U ∧ (G'.dead = G.dead ∧ G'.un = G.un) ∧ Olds w o o' ∧ SFr o w w') := Lib.hid rfl
  generalize GuessPost w base b n s G o x = PP at HPP ⊢
  have HS := Lib.hid h
  have HR := Lib.hid hr
  have HI := Lib.hid hi
  clear h hr hi
  go_enter Try.func70, Try.ntmps70
  go_wp2_with fail
  refine wp_region_noPanic ?_
  refine wp_region_seq (fun W => W.cell? ⟨b, 10, none⟩ = some (.slice G.L s.lims.length G.cl) ∧ W.cell? ⟨b, 8, none⟩ = some (.slice G.T s.tr.length G.ct)) [0, 1, 5, 2, 3, 4, 6, 7, 8, 9, 10, 11, 12, 13, 14] [0, 1, 2, 3, 4, 5, 6, 7, 8, 9, 13] [14] (by kernel_rfl) (by kernel_rfl) rfl (by kernel_rfl) (by kernel_rfl) (fun _ _ _ _ _ h => h) ?_ (fun hSS => ?_)
  · exact ⟨HS.out.sb.cell 10, HS.out.sb.cell 8⟩
  clear hSS
  have HS2 := Lib.hid (HS.out.after (stepD1 w))
  have HF2 := Lib.hid (SFr.of_below (stepD1 w) o)
  generalize w.drew = w2 at HS2 HF2 ⊢
  (refine wpSeq_mov rfl rfl ?_; intro o ho; simp only [List.getElem?_toArray, List.getElem?_cons_zero, List.getElem?_cons_succ, Option.some.injEq] at ho; subst ho; refine ⟨?_, Or.inl ⟨by rfl, fun W hSW => ?_⟩, ?_⟩; rotate_left; (focus (go_simp; first | done | with_reducible rfl)); try simp only [Act.put, List.setIfInBounds_toArray, List.set_cons_zero, List.set_cons_succ])
  (refine wpSeq_mov rfl rfl ?_; intro o ho; simp only [List.getElem?_toArray, List.getElem?_cons_zero, List.getElem?_cons_succ, Option.some.injEq] at ho; subst ho; refine ⟨?_, Or.inl ⟨by rfl, fun W hSW => ?_⟩, ?_⟩; rotate_left; (focus (go_simp; first | done | with_reducible rfl)); try simp only [Act.put, List.setIfInBounds_toArray, List.set_cons_zero, List.set_cons_succ])
  (refine wpSeq_mov rfl rfl ?_; intro o ho; simp only [List.getElem?_toArray, List.getElem?_cons_zero, List.getElem?_cons_succ, Option.some.injEq] at ho; subst ho; refine ⟨?_, Or.inl ⟨by rfl, fun W hSW => ?_⟩, ?_⟩; rotate_left; (focus (go_simp; first | done | with_reducible rfl)); try simp only [Act.put, List.setIfInBounds_toArray, List.set_cons_zero, List.set_cons_succ])
  (refine wpSeq_mov rfl rfl ?_; intro o ho; simp only [List.getElem?_toArray, List.getElem?_cons_zero, List.getElem?_cons_succ, Option.some.injEq] at ho; subst ho; refine ⟨?_, Or.inl ⟨by rfl, fun W hSW => ?_⟩, ?_⟩; rotate_left; (focus (go_simp; first | done | with_reducible rfl)); try simp only [Act.put, List.setIfInBounds_toArray, List.set_cons_zero, List.set_cons_succ])
  (refine wpSeq_mov rfl rfl ?_; intro o ho; simp only [List.getElem?_toArray, List.getElem?_cons_zero, List.getElem?_cons_succ, Option.some.injEq] at ho; subst ho; refine ⟨?_, Or.inl ⟨by rfl, fun W hSW => ?_⟩, ?_⟩; rotate_left; (focus (go_simp; first | done | with_reducible rfl)); try simp only [Act.put, List.setIfInBounds_toArray, List.set_cons_zero, List.set_cons_succ])
  (refine wpSeq_mov rfl rfl ?_; intro o ho; simp only [List.getElem?_toArray, List.getElem?_cons_zero, List.getElem?_cons_succ, Option.some.injEq] at ho; subst ho; refine ⟨?_, Or.inl ⟨by rfl, fun W hSW => ?_⟩, ?_⟩; rotate_left; (focus (go_simp; first | done | with_reducible rfl)); try simp only [Act.put, List.setIfInBounds_toArray, List.set_cons_zero, List.set_cons_succ])
  (refine wpSeq_mov rfl rfl ?_; intro o ho; simp only [List.getElem?_toArray, List.getElem?_cons_zero, List.getElem?_cons_succ, Option.some.injEq] at ho; subst ho; refine ⟨?_, Or.inl ⟨by rfl, fun W hSW => ?_⟩, ?_⟩; rotate_left; (focus (go_simp; first | done | with_reducible rfl)); try simp only [Act.put, List.setIfInBounds_toArray, List.set_cons_zero, List.set_cons_succ])
  (refine wpSeq_mov rfl rfl ?_; intro o ho; simp only [List.getElem?_toArray, List.getElem?_cons_zero, List.getElem?_cons_succ, Option.some.injEq] at ho; subst ho; refine ⟨?_, Or.inl ⟨by rfl, fun W hSW => ?_⟩, ?_⟩; rotate_left; (focus (go_simp; first | done | with_reducible rfl)); try simp only [Act.put, List.setIfInBounds_toArray, List.set_cons_zero, List.set_cons_succ])
  (refine wpSeq_mov rfl rfl ?_; intro o ho; simp only [List.getElem?_toArray, List.getElem?_cons_zero, List.getElem?_cons_succ, Option.some.injEq] at ho; subst ho; refine ⟨?_, Or.inl ⟨by rfl, fun W hSW => ?_⟩, ?_⟩; rotate_left; (focus (go_simp; first | done | with_reducible rfl)); try simp only [Act.put, List.setIfInBounds_toArray, List.set_cons_zero, List.set_cons_succ])
  (refine wpSeq_mov rfl rfl ?_; intro o ho; simp only [List.getElem?_toArray, List.getElem?_cons_zero, List.getElem?_cons_succ, Option.some.injEq] at ho; subst ho; refine ⟨?_, Or.inl ⟨by rfl, fun W hSW => ?_⟩, ?_⟩; rotate_left; (focus (go_simp; first | done | with_reducible rfl)); try simp only [Act.put, List.setIfInBounds_toArray, List.set_cons_zero, List.set_cons_succ])
  (refine wpSeq_fix rfl rfl ?_; intro o ho; simp only [List.getElem?_toArray, List.getElem?_cons_zero, List.getElem?_cons_succ, Option.some.injEq] at ho; subst ho; intro K hK)
  go_simp
  have HS3 := Lib.hid (HS2.out.after (stepA w2 (.cells #[.int .i64 (s.tr.length : Int)] 3)))
  have HF3 := Lib.hid (HF2.out.trans (SFr.of_below (stepA w2 (.cells #[.int .i64 (s.tr.length : Int)] 3)) o) (Olds.refl _ _))
  (refine hK.out _ _ (fun _ => ⟨HS3.out.sb.cell 10, HS3.out.sb.cell 8⟩) ?_; clear hK K; try simp only [Act.put, List.setIfInBounds_toArray, List.set_cons_zero, List.set_cons_succ])
  (refine wpSeq_fix rfl rfl ?_; intro o ho; simp only [List.getElem?_toArray, List.getElem?_cons_zero, List.getElem?_cons_succ, Option.some.injEq] at ho; subst ho; intro K hK)
  refine step_append_int rfl (.tmp 8) (.tmp 14) rfl base s.lims.length (natV s.lims) (.slice G.L s.lims.length G.cl) rfl HS3.out.lm w2.heap.size (.int .i64 (s.tr.length : Int)) rfl rfl (Blk.new _ _ _) (by omega) HS3.out.base_le ?_
  intro A9 c9 w9 ho9 hc9 hg9 hat9
  have hcb := HS3.out.grown_s hg9 (l := .lim) (by simp) HS3.out.lmo
  have HP := Lib.hid (HS3.out.push_lm (d := s.tr.length) ho9 hg9 hat9)
  have e9 := (hcb.1 10).trans (HS3.out.sb.cell 10)
  have e8 := (hcb.1 8).trans (HS3.out.sb.cell 8)
  have z9 := (hcb.2 10).trans (HS3.out.sb.frozen 10)
  have E9 := Lib.hid e9
  clear hcb ho9 hg9 hat9
  (refine hK.out _ _ (fun _ => ⟨e9, e8⟩) ?_; clear hK K; try simp only [Act.put, List.setIfInBounds_toArray, List.set_cons_zero, List.set_cons_succ])
  (refine wpSeq_fix rfl rfl ?_; intro o ho; simp only [List.getElem?_toArray, List.getElem?_cons_zero, List.getElem?_cons_succ, Option.some.injEq] at ho; subst ho; intro K hK)
  go_simp
  (refine hK.out _ _ (fun _ => ⟨e9, e8⟩) ?_; clear hK K; try simp only [Act.put, List.setIfInBounds_toArray, List.set_cons_zero, List.set_cons_succ])
  (refine wpSeq_mov rfl rfl ?_; intro o ho; simp only [List.getElem?_toArray, List.getElem?_cons_zero, List.getElem?_cons_succ, Option.some.injEq] at ho; subst ho; refine ⟨?_, Or.inl ⟨by rfl, fun W hSW => ?_⟩, ?_⟩; rotate_left; (focus (go_simp; first | done | with_reducible rfl)); try simp only [Act.put, List.setIfInBounds_toArray, List.set_cons_zero, List.set_cons_succ])
  (refine wpSeq_fix rfl rfl ?_; intro o ho; simp only [List.getElem?_toArray, List.getElem?_cons_zero, List.getElem?_cons_succ, Option.some.injEq] at ho; subst ho; intro K hK)
  go_simp
  (refine hK.out _ _ (fun h => by simp at h) ?_; clear hK K; try simp only [Act.put, List.setIfInBounds_toArray, List.set_cons_zero, List.set_cons_succ])
  refine wpSeq_done ?_
  clear e9 e8 z9
  have HF4 := Lib.hid (HF3.out.trans HP.out.2.2 (Olds.refl _ _))
  have HO4 : Hid (Olds w o _) := Lib.hid fun k hk => HP.out.2.1 k (Nat.lt_of_lt_of_le hk HF3.out.size)
  have HPUT := Lib.hid (put_any HP.out.1 hn (x := x) (why := -1) h0 hx (by show s.tr.length ≤ _; omega))
  go_wp2_with fail
  refine HPUT.out.mono ?_
  rintro e w6 ⟨rfl, T6, ct6, o6, hm6, ho6, hf6⟩
  have hrel := (show SRel n { s with lims := s.lims ++ [s.tr.length] } { G with L := A9, cl := c9 } from ⟨HR.out.lim.vv, HR.out.lim.lv, HR.out.lim.rv, HR.out.lim.ui⟩).put HP.out.1 (fun l hl => by
    show l ≤ s.tr.length
    rcases List.mem_append.1 hl with h1 | h1
    · exact Nat.le_of_lt (HI.out.llt l h1)
    · have : l = s.tr.length := by simpa using h1
      omega) h0 hx hu hu2 T6 ct6 (why := -1)
  have HG := Lib.hid (And.intro hm6 (And.intro hrel (And.intro (HO4.out.trans HF4.out.size ho6) (HF4.out.trans hf6 HO4.out))))
  clear hm6 ho6 hf6 hrel HPUT
  go_wp2_with fail
  go_end0
  rw [HPP.out]
  exact ⟨rfl, _, o6, HG.out.1, HG.out.2.1, rfl, rfl, ⟨rfl, rfl⟩, HG.out.2.2.1, HG.out.2.2.2⟩
end
end Go.Proofs.Ytbkmgblijncjhaa

set_option linter.unusedVariables false
set_option linter.unusedSimpArgs false
namespace Go.Proofs.Ytbkmgblijncjhaa
open Go.RowKit Go.Maps

/-- A guess was made. -/
structure Guessed (w w' : World) (base b n : Nat) (s : SS) (G : SG) (o : Owns) (x : Int) (G' : SG) (o' : Owns) : Prop where
  m : SMem w' base b n (s.guess x) G' o'
  r : SRel n (s.guess x) G'
  und : G'.und = G.und
  U : G'.U = G.U
  dead : G'.dead = G.dead ∧ G'.un = G.un
  olds : Olds w o o'
  fr : SFr o w w'
  x0 : x ≠ 0
  xn : x.natAbs ≤ n
  u1 : x ∉ s.lits
  u2 : -x ∉ s.lits
/-- What assume tells. -/
def AssumePost (w : World) (base b n : Nat) (s : SS) (G : SG) (o : Owns) (l : List Int) (e : Ending) (w' : World) : Prop :=
  (e = .returned (.tuple #[.bool false, .bool false]) ∧ w' = w ∧ ∃ a ∈ l, -a ∈ s.lits) ∨
  (e = .returned (.tuple #[.bool false, .bool true]) ∧ w' = w ∧ ∀ a ∈ l, a ∈ s.lits) ∨
  (e = .returned (.tuple #[.bool true, .bool true]) ∧ ∃ x G' o', x ∈ l ∧ Guessed w w' base b n s G o x G' o')

section
variable {w : World} {base b n : Nat} {F : List (List Int)} {s : SS} {G : SG} {o : Owns}
set_option maxRecDepth 100000 in
set_option maxHeartbeats 4000000 in
theorem assume_any (h : SMem w base b n s G o) (hr : SRel n s G) (hi : Inv n F s) (hn : n ≤ 1000000) {l : List Int} {A : Option Addr} {c : Nat} (hA : Vals w w.heap.size A (i64s l)) (hll : l.length ≤ 140737488355328) (hc : l.length ≤ c) (hl : ∀ x ∈ l, x ≠ 0 ∧ x.natAbs ≤ n) :
    Calls Try.prog 68 #[.pointer (some ⟨b, 0, none⟩), .slice A l.length c] w (AssumePost w base b n s G o l) := by
  have HIS := Lib.hid (fun (x : Int) (hx : x ∈ l) => is_any h hr hn (hl x hx).1 (hl x hx).2 (fun hb => hi.not_both hb.1 hb.2))
  have HGU := Lib.hid (fun (x : Int) (hx : x ∈ l) (hu : x ∉ s.lits) (hu2 : -x ∉ s.lits) => guess_any h hr hi hn (hl x hx).1 (hl x hx).2 hu hu2)
  have HA := Lib.hid hA
  have HL := Lib.hid hl
  clear h hr hi hA hl
  go_enter Try.func68, Try.ntmps68
  go_wp2_with fail
  go_loopw [10] (fun iv wr => ∃ j : Nat, j ≤ l.length ∧ iv = .int .i64 (j : Int) ∧ wr = w ∧ ∀ i x, i < j → l[i]? = some x → x ∈ s.lits) (fun iv _ => l.length - (intOf iv).toNat)
  case atStart => exact ⟨0, Nat.zero_le _, rfl, rfl, fun i x hi => by omega⟩
  case round =>
    obtain ⟨j, hj, rfl, rfl, hd⟩ := hrel
    have HD := Lib.hid hd
    clear hd
    by_cases hlt : j < l.length
    · have hlt' : (j : Int) < (l.length : Int) := by omega
      obtain ⟨x, hx⟩ : ∃ x, l[j]? = some x := ⟨_, List.getElem?_eq_getElem hlt⟩
      have hxm := List.mem_of_getElem? hx
      obtain ⟨q, p, rfl, _, hcx⟩ := HA.out j (.int .i64 x) (i64s_at hx)
      have HCL := Lib.hid (HIS.out x hxm)
      have HX := Lib.hid hx
      clear hx
      go_wp2_with fail
      refine HCL.out.mono ?_
      rintro e w1 ⟨rfl, hw⟩
      have hw' := hw.symm
      subst hw'
      clear hw HCL
      by_cases h1 : x ∈ s.lits
      · have e1 : valL s.lits x = 1 := by unfold valL; rw [if_pos h1]
        rw [e1]
        have H1 := Lib.hid h1
        clear e1 h1
        go_wp2_with fail
        go_roundw
        case rel =>
          refine ⟨j + 1, by omega, by go_num, trivial, fun i y hi hy => ?_⟩
          by_cases e : i = j
          · subst e
            rw [HX.out] at hy
            cases hy
            exact H1.out
          · exact HD.out i y (by omega) hy
        case measure => simp [intOf]; omega
      · by_cases h2 : -x ∈ s.lits
        · have e1 : valL s.lits x = -1 := by unfold valL; rw [if_neg h1, if_pos h2]
          rw [e1]
          have H2 := Lib.hid h2
          clear e1 h1 h2
          go_wp2_with fail
          go_ret2
          exact .inl ⟨rfl, rfl, x, hxm, H2.out⟩
        · have e1 : valL s.lits x = 0 := by unfold valL; rw [if_neg h1, if_neg h2]
          rw [e1]
          have HGX := Lib.hid (HGU.out x hxm h1 h2)
          have H12 := Lib.hid (And.intro h1 h2)
          clear e1 h1 h2
          go_wp2_with fail
          refine HGX.out.mono ?_
          rintro e w2 ⟨rfl, G2, o2, h3, h4, h5, h6, h7, h8, h9⟩
          have HG2 := Lib.hid (Guessed.mk h3 h4 h5 h6 h7 h8 h9 (HL.out x hxm).1 (HL.out x hxm).2 H12.out.1 H12.out.2)
          clear h3 h4 h5 h6 h7 h8 h9 HGX
          go_wp2_with fail
          go_ret2
          exact .inr (.inr ⟨rfl, x, G2, o2, hxm, HG2.out⟩)
    · have hlt' : ¬ (j : Int) < (l.length : Int) := by omega
      go_wp2_with fail
      go_ret2
      refine .inr (.inl ⟨rfl, rfl, fun a ha => ?_⟩)
      obtain ⟨i, hi⟩ := List.getElem?_of_mem ha
      exact HD.out i a (by have := (List.getElem?_eq_some_iff.1 hi).1; omega) hi

/-- Is a variable told? -/
def ToldV (s : SS) (v : Nat) : Prop := (v : Int) ∈ s.lits ∨ -(v : Int) ∈ s.lits
theorem toldV_iff {v : Nat} : ToldV s v ↔ valL s.lits (v : Int) ≠ 0 := by
  unfold ToldV valL
  constructor
  · rintro (h | h)
    · rw [if_pos h]
      decide
    · split
      · decide
      · simp [h]
  · intro h
    split at h
    · next h1 => exact .inl h1
    · split at h
      · next h1 => exact .inr h1
      · exact absurd rfl h
def BestPost (w : World) (n : Nat) (s : SS) (e : Ending) (w' : World) : Prop :=
  ∃ v : Nat, e = .returned (.int .i64 (v : Int)) ∧ v ≤ n ∧ Below w.heap.size w w' ∧ (v = 0 → ∀ u, 1 ≤ u → u ≤ n → ToldV s u) ∧ (v ≠ 0 → ¬ ToldV s v)
set_option maxRecDepth 100000 in
set_option maxHeartbeats 4000000 in
theorem best_any (h : SMem w base b n s G o) (hr : SRel n s G) (hn : n ≤ 1000000) : Calls Try.prog 69 #[.pointer (some ⟨b, 0, none⟩)] w (BestPost w n s) := by
  have HS := Lib.hid h
  have HR := Lib.hid hr
  have hb0 : Hid (Below w.heap.size w w) := Lib.hid (Below.refl _ _)
  clear h hr
  go_enter Try.func69, Try.ntmps69
  go_wp2_with fail
  go_loopw [2, 3] (fun ov iv wr => ∃ v u : Nat, 1 ≤ v ∧ v ≤ n + 1 ∧ u ≤ n ∧ iv = .int .i64 (v : Int) ∧ ov = .int .i64 (u : Int) ∧ Below w.heap.size w wr ∧ (u = 0 → ∀ k, 1 ≤ k → k < v → ToldV s k) ∧ (u ≠ 0 → ¬ ToldV s u)) (fun _ iv _ => n + 1 - (intOf iv).toNat)
  case atStart => exact ⟨1, 0, by omega, by omega, Nat.zero_le _, rfl, rfl, hb0.out, fun _ k h1 h2 => by omega, fun h => absurd rfl h⟩
  case round =>
    obtain ⟨v, u, hv1, hvn, hun, rfl, rfl, hb, h0, h1⟩ := hrel
    have HB := Lib.hid hb
    have HS2 := Lib.hid (HS.out.after hb)
    have HU := Lib.hid (And.intro h0 h1)
    clear hb h0 h1 hb0
    have c0 : wr.cell? ⟨b, 0, none⟩ = some (.int .i64 (n : Int)) := HS2.out.sb.cell 0
    by_cases hle : v ≤ n
    · have hle' : (v : Int) ≤ (n : Int) := by omega
      have hvc : Hid (∀ W, Below wr.heap.size wr W → W.cell? ⟨G.vb, v, none⟩ = some (.int .i64 (valL s.lits (v : Int)))) := Lib.hid fun W hW => (HS2.out.after hW).v.cell (HR.out.vv v hv1 hle)
      obtain ⟨wv, hwv⟩ := HS2.out.wt.ex (i := v) hle
      obtain ⟨wu, hwu⟩ := HS2.out.wt.ex (i := u) hun
      have hwc : Hid (∀ W, Below wr.heap.size wr W → W.cell? ⟨G.wb, v, none⟩ = some (.int .i64 wv) ∧ W.cell? ⟨G.wb, u, none⟩ = some (.int .i64 wu)) := Lib.hid fun W hW => ⟨(HS2.out.after hW).wt.cell hwv, (HS2.out.after hW).wt.cell hwu⟩
      have hvn' : (v : Int) < (n : Int) + 1 := by omega
      have hun' : (u : Int) < (n : Int) + 1 := by omega
      have HTV := Lib.hid (toldV_iff (s := s) (v := v))
      generalize valL s.lits (v : Int) = y at hvc HTV
      clear hwv hwu
      go_wp2_with fail
      refine wp_region_noPanic ?_
      refine wp_region_seq (fun W => W.cell? ⟨b, 3, none⟩ = some (.slice (some ⟨G.vb, 0, none⟩) (n + 1) (n + 1)) ∧ W.cell? ⟨b, 7, none⟩ = some (.slice (some ⟨G.wb, 0, none⟩) (n + 1) (n + 1)) ∧ W.cell? ⟨G.vb, v, none⟩ = some (.int .i64 y) ∧ W.cell? ⟨G.wb, v, none⟩ = some (.int .i64 wv) ∧ W.cell? ⟨G.wb, u, none⟩ = some (.int .i64 wu)) [0, 4, 1, 2, 3, 5, 6, 7, 8, 9, 10, 11, 12, 16, 19, 23, 13, 14, 15, 17, 18, 20, 21, 22, 24, 25, 26, 27, 28] [0, 1, 2, 3, 4, 5, 6, 7, 8, 9, 10, 11, 12, 13, 14, 15, 16, 17, 18, 19, 20, 21, 22, 23, 24, 25, 26, 27, 28] [] (by kernel_rfl) (by kernel_rfl) rfl (by kernel_rfl) (by kernel_rfl) (fun _ _ _ _ _ h => h) ?_ (fun hSS => ?_)
      · exact ⟨HS2.out.sb.cell 3, HS2.out.sb.cell 7, hvc.out _ (stepD1 _), (hwc.out _ (stepD1 _)).1, (hwc.out _ (stepD1 _)).2⟩
      have HB3 := Lib.hid (step2 HB.out (stepD1 wr))
      clear hSS HS2 HB hvc hwc c0
      generalize wr.drew = w3 at HB3 ⊢
      by_cases hy : y = 0
      · have hyT : ¬ ToldV s v := fun hT => HTV.out.1 hT hy
        have HYT := Lib.hid hyT
        subst hy
        clear hyT
        by_cases hu0 : u = 0
        · subst hu0
          (refine wpSeq_mov rfl rfl ?_; intro o ho; simp only [List.getElem?_toArray, List.getElem?_cons_zero, List.getElem?_cons_succ, Option.some.injEq] at ho; subst ho; refine ⟨?_, Or.inl ⟨by rfl, fun W hSW => ?_⟩, ?_⟩; rotate_left; (focus (go_simp; first | done | with_reducible rfl)); try simp only [Act.put, List.setIfInBounds_toArray, List.set_cons_zero, List.set_cons_succ])
          (refine wpSeq_mov rfl rfl ?_; intro o ho; simp only [List.getElem?_toArray, List.getElem?_cons_zero, List.getElem?_cons_succ, Option.some.injEq] at ho; subst ho; refine ⟨?_, Or.inl ⟨by rfl, fun W hSW => ?_⟩, ?_⟩; rotate_left; (focus (go_simp; first | done | with_reducible rfl)); try simp only [Act.put, List.setIfInBounds_toArray, List.set_cons_zero, List.set_cons_succ])
          (refine wpSeq_mov rfl rfl ?_; intro o ho; simp only [List.getElem?_toArray, List.getElem?_cons_zero, List.getElem?_cons_succ, Option.some.injEq] at ho; subst ho; refine ⟨?_, Or.inl ⟨by rfl, fun W hSW => ?_⟩, ?_⟩; rotate_left; (focus (go_simp; first | done | with_reducible rfl)); try simp only [Act.put, List.setIfInBounds_toArray, List.set_cons_zero, List.set_cons_succ])
          (refine wpSeq_mov rfl rfl ?_; intro o ho; simp only [List.getElem?_toArray, List.getElem?_cons_zero, List.getElem?_cons_succ, Option.some.injEq] at ho; subst ho; refine ⟨?_, Or.inl ⟨by rfl, fun W hSW => ?_⟩, ?_⟩; rotate_left; (focus (go_simp; first | done | with_reducible rfl)); try simp only [Act.put, List.setIfInBounds_toArray, List.set_cons_zero, List.set_cons_succ])
          (refine wpSeq_mov rfl rfl ?_; intro o ho; simp only [List.getElem?_toArray, List.getElem?_cons_zero, List.getElem?_cons_succ, Option.some.injEq] at ho; subst ho; refine ⟨?_, Or.inl ⟨by rfl, fun W hSW => ?_⟩, ?_⟩; rotate_left; (focus (go_simp; first | done | with_reducible rfl)); try simp only [Act.put, List.setIfInBounds_toArray, List.set_cons_zero, List.set_cons_succ])
          (refine wpSeq_mov rfl rfl ?_; intro o ho; simp only [List.getElem?_toArray, List.getElem?_cons_zero, List.getElem?_cons_succ, Option.some.injEq] at ho; subst ho; refine ⟨?_, Or.inl ⟨by rfl, fun W hSW => ?_⟩, ?_⟩; rotate_left; (focus (go_simp; first | done | with_reducible rfl)); try simp only [Act.put, List.setIfInBounds_toArray, List.set_cons_zero, List.set_cons_succ])
          (refine wpSeq_mov rfl rfl ?_; intro o ho; simp only [List.getElem?_toArray, List.getElem?_cons_zero, List.getElem?_cons_succ, Option.some.injEq] at ho; subst ho; refine ⟨?_, Or.inl ⟨by rfl, fun W hSW => ?_⟩, ?_⟩; rotate_left; (focus (go_simp; first | done | with_reducible rfl)); try simp only [Act.put, List.setIfInBounds_toArray, List.set_cons_zero, List.set_cons_succ])
          (refine wpSeq_mov rfl rfl ?_; intro o ho; simp only [List.getElem?_toArray, List.getElem?_cons_zero, List.getElem?_cons_succ, Option.some.injEq] at ho; subst ho; refine ⟨?_, Or.inl ⟨by rfl, fun W hSW => ?_⟩, ?_⟩; rotate_left; (focus (go_simp; first | done | with_reducible rfl)); try simp only [Act.put, List.setIfInBounds_toArray, List.set_cons_zero, List.set_cons_succ])
          (refine wpSeq_mov rfl rfl ?_; intro o ho; simp only [List.getElem?_toArray, List.getElem?_cons_zero, List.getElem?_cons_succ, Option.some.injEq] at ho; subst ho; refine ⟨?_, Or.inl ⟨by rfl, fun W hSW => ?_⟩, ?_⟩; rotate_left; (focus (go_simp; first | done | with_reducible rfl)); try simp only [Act.put, List.setIfInBounds_toArray, List.set_cons_zero, List.set_cons_succ])
          (refine wpSeq_mov rfl rfl ?_; intro o ho; simp only [List.getElem?_toArray, List.getElem?_cons_zero, List.getElem?_cons_succ, Option.some.injEq] at ho; subst ho; refine ⟨?_, Or.inl ⟨by rfl, fun W hSW => ?_⟩, ?_⟩; rotate_left; (focus (go_simp; first | done | with_reducible rfl)); try simp only [Act.put, List.setIfInBounds_toArray, List.set_cons_zero, List.set_cons_succ])
          (refine wpSeq_mov rfl rfl ?_; intro o ho; simp only [List.getElem?_toArray, List.getElem?_cons_zero, List.getElem?_cons_succ, Option.some.injEq] at ho; subst ho; refine ⟨?_, Or.inl ⟨by rfl, fun W hSW => ?_⟩, ?_⟩; rotate_left; (focus (go_simp; first | done | with_reducible rfl)); try simp only [Act.put, List.setIfInBounds_toArray, List.set_cons_zero, List.set_cons_succ])
          (refine wpSeq_mov rfl rfl ?_; intro o ho; simp only [List.getElem?_toArray, List.getElem?_cons_zero, List.getElem?_cons_succ, Option.some.injEq] at ho; subst ho; refine ⟨?_, Or.inl ⟨by rfl, fun W hSW => ?_⟩, ?_⟩; rotate_left; (focus (go_simp; first | done | with_reducible rfl)); try simp only [Act.put, List.setIfInBounds_toArray, List.set_cons_zero, List.set_cons_succ])
          (refine wpSeq_mov rfl rfl ?_; intro o ho; simp only [List.getElem?_toArray, List.getElem?_cons_zero, List.getElem?_cons_succ, Option.some.injEq] at ho; subst ho; refine ⟨undef, Or.inr ⟨by rfl, rfl⟩, ?_⟩; try simp only [Act.put, List.setIfInBounds_toArray, List.set_cons_zero, List.set_cons_succ])
          (refine wpSeq_mov rfl rfl ?_; intro o ho; simp only [List.getElem?_toArray, List.getElem?_cons_zero, List.getElem?_cons_succ, Option.some.injEq] at ho; subst ho; refine ⟨undef, Or.inr ⟨by rfl, rfl⟩, ?_⟩; try simp only [Act.put, List.setIfInBounds_toArray, List.set_cons_zero, List.set_cons_succ])
          (refine wpSeq_mov rfl rfl ?_; intro o ho; simp only [List.getElem?_toArray, List.getElem?_cons_zero, List.getElem?_cons_succ, Option.some.injEq] at ho; subst ho; refine ⟨undef, Or.inr ⟨by rfl, rfl⟩, ?_⟩; try simp only [Act.put, List.setIfInBounds_toArray, List.set_cons_zero, List.set_cons_succ])
          (refine wpSeq_mov rfl rfl ?_; intro o ho; simp only [List.getElem?_toArray, List.getElem?_cons_zero, List.getElem?_cons_succ, Option.some.injEq] at ho; subst ho; refine ⟨undef, Or.inr ⟨by rfl, rfl⟩, ?_⟩; try simp only [Act.put, List.setIfInBounds_toArray, List.set_cons_zero, List.set_cons_succ])
          (refine wpSeq_mov rfl rfl ?_; intro o ho; simp only [List.getElem?_toArray, List.getElem?_cons_zero, List.getElem?_cons_succ, Option.some.injEq] at ho; subst ho; refine ⟨undef, Or.inr ⟨by rfl, rfl⟩, ?_⟩; try simp only [Act.put, List.setIfInBounds_toArray, List.set_cons_zero, List.set_cons_succ])
          (refine wpSeq_mov rfl rfl ?_; intro o ho; simp only [List.getElem?_toArray, List.getElem?_cons_zero, List.getElem?_cons_succ, Option.some.injEq] at ho; subst ho; refine ⟨undef, Or.inr ⟨by rfl, rfl⟩, ?_⟩; try simp only [Act.put, List.setIfInBounds_toArray, List.set_cons_zero, List.set_cons_succ])
          (refine wpSeq_mov rfl rfl ?_; intro o ho; simp only [List.getElem?_toArray, List.getElem?_cons_zero, List.getElem?_cons_succ, Option.some.injEq] at ho; subst ho; refine ⟨undef, Or.inr ⟨by rfl, rfl⟩, ?_⟩; try simp only [Act.put, List.setIfInBounds_toArray, List.set_cons_zero, List.set_cons_succ])
          (refine wpSeq_mov rfl rfl ?_; intro o ho; simp only [List.getElem?_toArray, List.getElem?_cons_zero, List.getElem?_cons_succ, Option.some.injEq] at ho; subst ho; refine ⟨undef, Or.inr ⟨by rfl, rfl⟩, ?_⟩; try simp only [Act.put, List.setIfInBounds_toArray, List.set_cons_zero, List.set_cons_succ])
          (refine wpSeq_mov rfl rfl ?_; intro o ho; simp only [List.getElem?_toArray, List.getElem?_cons_zero, List.getElem?_cons_succ, Option.some.injEq] at ho; subst ho; refine ⟨undef, Or.inr ⟨by rfl, rfl⟩, ?_⟩; try simp only [Act.put, List.setIfInBounds_toArray, List.set_cons_zero, List.set_cons_succ])
          (refine wpSeq_mov rfl rfl ?_; intro o ho; simp only [List.getElem?_toArray, List.getElem?_cons_zero, List.getElem?_cons_succ, Option.some.injEq] at ho; subst ho; refine ⟨undef, Or.inr ⟨by rfl, rfl⟩, ?_⟩; try simp only [Act.put, List.setIfInBounds_toArray, List.set_cons_zero, List.set_cons_succ])
          (refine wpSeq_mov rfl rfl ?_; intro o ho; simp only [List.getElem?_toArray, List.getElem?_cons_zero, List.getElem?_cons_succ, Option.some.injEq] at ho; subst ho; refine ⟨undef, Or.inr ⟨by rfl, rfl⟩, ?_⟩; try simp only [Act.put, List.setIfInBounds_toArray, List.set_cons_zero, List.set_cons_succ])
          (refine wpSeq_mov rfl rfl ?_; intro o ho; simp only [List.getElem?_toArray, List.getElem?_cons_zero, List.getElem?_cons_succ, Option.some.injEq] at ho; subst ho; refine ⟨undef, Or.inr ⟨by rfl, rfl⟩, ?_⟩; try simp only [Act.put, List.setIfInBounds_toArray, List.set_cons_zero, List.set_cons_succ])
          (refine wpSeq_mov rfl rfl ?_; intro o ho; simp only [List.getElem?_toArray, List.getElem?_cons_zero, List.getElem?_cons_succ, Option.some.injEq] at ho; subst ho; refine ⟨undef, Or.inr ⟨by rfl, rfl⟩, ?_⟩; try simp only [Act.put, List.setIfInBounds_toArray, List.set_cons_zero, List.set_cons_succ])
          (refine wpSeq_mov rfl rfl ?_; intro o ho; simp only [List.getElem?_toArray, List.getElem?_cons_zero, List.getElem?_cons_succ, Option.some.injEq] at ho; subst ho; refine ⟨undef, Or.inr ⟨by rfl, rfl⟩, ?_⟩; try simp only [Act.put, List.setIfInBounds_toArray, List.set_cons_zero, List.set_cons_succ])
          (refine wpSeq_mov rfl rfl ?_; intro o ho; simp only [List.getElem?_toArray, List.getElem?_cons_zero, List.getElem?_cons_succ, Option.some.injEq] at ho; subst ho; refine ⟨undef, Or.inr ⟨by rfl, rfl⟩, ?_⟩; try simp only [Act.put, List.setIfInBounds_toArray, List.set_cons_zero, List.set_cons_succ])
          (refine wpSeq_mov rfl rfl ?_; intro o ho; simp only [List.getElem?_toArray, List.getElem?_cons_zero, List.getElem?_cons_succ, Option.some.injEq] at ho; subst ho; refine ⟨?_, Or.inl ⟨by rfl, fun W hSW => ?_⟩, ?_⟩; rotate_left; (focus (go_simp; first | done | with_reducible rfl)); try simp only [Act.put, List.setIfInBounds_toArray, List.set_cons_zero, List.set_cons_succ])
          (refine wpSeq_mov rfl rfl ?_; intro o ho; simp only [List.getElem?_toArray, List.getElem?_cons_zero, List.getElem?_cons_succ, Option.some.injEq] at ho; subst ho; refine ⟨?_, Or.inl ⟨by rfl, fun W hSW => ?_⟩, ?_⟩; rotate_left; (focus (go_simp; first | done | with_reducible rfl)); try simp only [Act.put, List.setIfInBounds_toArray, List.set_cons_zero, List.set_cons_succ])
          refine wpSeq_done ?_
          go_wp2_with fail
          go_roundw
          case rel => exact ⟨v + 1, v, by omega, by omega, hle, by go_num, rfl, HB3.out, fun h => by omega, fun _ => HYT.out⟩
          case measure => simp [intOf]; omega
        · have hu0' : ((u : Int) == 0) = false := by simp; omega
          by_cases hww : wu < wv
          · skip
            (refine wpSeq_mov rfl rfl ?_; intro o ho; simp only [List.getElem?_toArray, List.getElem?_cons_zero, List.getElem?_cons_succ, Option.some.injEq] at ho; subst ho; refine ⟨?_, Or.inl ⟨by rfl, fun W hSW => ?_⟩, ?_⟩; rotate_left; (focus (go_simp; first | done | with_reducible rfl)); try simp only [Act.put, List.setIfInBounds_toArray, List.set_cons_zero, List.set_cons_succ])
            (refine wpSeq_mov rfl rfl ?_; intro o ho; simp only [List.getElem?_toArray, List.getElem?_cons_zero, List.getElem?_cons_succ, Option.some.injEq] at ho; subst ho; refine ⟨?_, Or.inl ⟨by rfl, fun W hSW => ?_⟩, ?_⟩; rotate_left; (focus (go_simp; first | done | with_reducible rfl)); try simp only [Act.put, List.setIfInBounds_toArray, List.set_cons_zero, List.set_cons_succ])
            (refine wpSeq_mov rfl rfl ?_; intro o ho; simp only [List.getElem?_toArray, List.getElem?_cons_zero, List.getElem?_cons_succ, Option.some.injEq] at ho; subst ho; refine ⟨?_, Or.inl ⟨by rfl, fun W hSW => ?_⟩, ?_⟩; rotate_left; (focus (go_simp; first | done | with_reducible rfl)); try simp only [Act.put, List.setIfInBounds_toArray, List.set_cons_zero, List.set_cons_succ])
            (refine wpSeq_mov rfl rfl ?_; intro o ho; simp only [List.getElem?_toArray, List.getElem?_cons_zero, List.getElem?_cons_succ, Option.some.injEq] at ho; subst ho; refine ⟨?_, Or.inl ⟨by rfl, fun W hSW => ?_⟩, ?_⟩; rotate_left; (focus (go_simp; first | done | with_reducible rfl)); try simp only [Act.put, List.setIfInBounds_toArray, List.set_cons_zero, List.set_cons_succ])
            (refine wpSeq_mov rfl rfl ?_; intro o ho; simp only [List.getElem?_toArray, List.getElem?_cons_zero, List.getElem?_cons_succ, Option.some.injEq] at ho; subst ho; refine ⟨?_, Or.inl ⟨by rfl, fun W hSW => ?_⟩, ?_⟩; rotate_left; (focus (go_simp; first | done | with_reducible rfl)); try simp only [Act.put, List.setIfInBounds_toArray, List.set_cons_zero, List.set_cons_succ])
            (refine wpSeq_mov rfl rfl ?_; intro o ho; simp only [List.getElem?_toArray, List.getElem?_cons_zero, List.getElem?_cons_succ, Option.some.injEq] at ho; subst ho; refine ⟨?_, Or.inl ⟨by rfl, fun W hSW => ?_⟩, ?_⟩; rotate_left; (focus (go_simp; first | done | with_reducible rfl)); try simp only [Act.put, List.setIfInBounds_toArray, List.set_cons_zero, List.set_cons_succ])
            (refine wpSeq_mov rfl rfl ?_; intro o ho; simp only [List.getElem?_toArray, List.getElem?_cons_zero, List.getElem?_cons_succ, Option.some.injEq] at ho; subst ho; refine ⟨?_, Or.inl ⟨by rfl, fun W hSW => ?_⟩, ?_⟩; rotate_left; (focus (go_simp; first | done | with_reducible rfl)); try simp only [Act.put, List.setIfInBounds_toArray, List.set_cons_zero, List.set_cons_succ])
            (refine wpSeq_mov rfl rfl ?_; intro o ho; simp only [List.getElem?_toArray, List.getElem?_cons_zero, List.getElem?_cons_succ, Option.some.injEq] at ho; subst ho; refine ⟨?_, Or.inl ⟨by rfl, fun W hSW => ?_⟩, ?_⟩; rotate_left; (focus (go_simp; first | done | with_reducible rfl)); try simp only [Act.put, List.setIfInBounds_toArray, List.set_cons_zero, List.set_cons_succ])
            (refine wpSeq_mov rfl rfl ?_; intro o ho; simp only [List.getElem?_toArray, List.getElem?_cons_zero, List.getElem?_cons_succ, Option.some.injEq] at ho; subst ho; refine ⟨?_, Or.inl ⟨by rfl, fun W hSW => ?_⟩, ?_⟩; rotate_left; (focus (go_simp; first | done | with_reducible rfl)); try simp only [Act.put, List.setIfInBounds_toArray, List.set_cons_zero, List.set_cons_succ])
            (refine wpSeq_mov rfl rfl ?_; intro o ho; simp only [List.getElem?_toArray, List.getElem?_cons_zero, List.getElem?_cons_succ, Option.some.injEq] at ho; subst ho; refine ⟨?_, Or.inl ⟨by rfl, fun W hSW => ?_⟩, ?_⟩; rotate_left; (focus (go_simp; first | done | with_reducible rfl)); try simp only [Act.put, List.setIfInBounds_toArray, List.set_cons_zero, List.set_cons_succ])
            (refine wpSeq_mov rfl rfl ?_; intro o ho; simp only [List.getElem?_toArray, List.getElem?_cons_zero, List.getElem?_cons_succ, Option.some.injEq] at ho; subst ho; refine ⟨?_, Or.inl ⟨by rfl, fun W hSW => ?_⟩, ?_⟩; rotate_left; (focus (go_simp; first | done | with_reducible rfl)); try simp only [Act.put, List.setIfInBounds_toArray, List.set_cons_zero, List.set_cons_succ])
            (refine wpSeq_mov rfl rfl ?_; intro o ho; simp only [List.getElem?_toArray, List.getElem?_cons_zero, List.getElem?_cons_succ, Option.some.injEq] at ho; subst ho; refine ⟨?_, Or.inl ⟨by rfl, fun W hSW => ?_⟩, ?_⟩; rotate_left; (focus (go_simp; first | done | with_reducible rfl)); try simp only [Act.put, List.setIfInBounds_toArray, List.set_cons_zero, List.set_cons_succ])
            (refine wpSeq_mov rfl rfl ?_; intro o ho; simp only [List.getElem?_toArray, List.getElem?_cons_zero, List.getElem?_cons_succ, Option.some.injEq] at ho; subst ho; refine ⟨?_, Or.inl ⟨by rfl, fun W hSW => ?_⟩, ?_⟩; rotate_left; (focus (go_simp; first | done | with_reducible rfl)); try simp only [Act.put, List.setIfInBounds_toArray, List.set_cons_zero, List.set_cons_succ])
            (refine wpSeq_mov rfl rfl ?_; intro o ho; simp only [List.getElem?_toArray, List.getElem?_cons_zero, List.getElem?_cons_succ, Option.some.injEq] at ho; subst ho; refine ⟨?_, Or.inl ⟨by rfl, fun W hSW => ?_⟩, ?_⟩; rotate_left; (focus (go_simp; first | done | with_reducible rfl)); try simp only [Act.put, List.setIfInBounds_toArray, List.set_cons_zero, List.set_cons_succ])
            (refine wpSeq_mov rfl rfl ?_; intro o ho; simp only [List.getElem?_toArray, List.getElem?_cons_zero, List.getElem?_cons_succ, Option.some.injEq] at ho; subst ho; refine ⟨?_, Or.inl ⟨by rfl, fun W hSW => ?_⟩, ?_⟩; rotate_left; (focus (go_simp; first | done | with_reducible rfl)); try simp only [Act.put, List.setIfInBounds_toArray, List.set_cons_zero, List.set_cons_succ])
            (refine wpSeq_mov rfl rfl ?_; intro o ho; simp only [List.getElem?_toArray, List.getElem?_cons_zero, List.getElem?_cons_succ, Option.some.injEq] at ho; subst ho; refine ⟨?_, Or.inl ⟨by rfl, fun W hSW => ?_⟩, ?_⟩; rotate_left; (focus (go_simp; first | done | with_reducible rfl)); try simp only [Act.put, List.setIfInBounds_toArray, List.set_cons_zero, List.set_cons_succ])
            (refine wpSeq_mov rfl rfl ?_; intro o ho; simp only [List.getElem?_toArray, List.getElem?_cons_zero, List.getElem?_cons_succ, Option.some.injEq] at ho; subst ho; refine ⟨?_, Or.inl ⟨by rfl, fun W hSW => ?_⟩, ?_⟩; rotate_left; (focus (go_simp; first | done | with_reducible rfl)); try simp only [Act.put, List.setIfInBounds_toArray, List.set_cons_zero, List.set_cons_succ])
            (refine wpSeq_mov rfl rfl ?_; intro o ho; simp only [List.getElem?_toArray, List.getElem?_cons_zero, List.getElem?_cons_succ, Option.some.injEq] at ho; subst ho; refine ⟨?_, Or.inl ⟨by rfl, fun W hSW => ?_⟩, ?_⟩; rotate_left; (focus (go_simp; first | done | with_reducible rfl)); try simp only [Act.put, List.setIfInBounds_toArray, List.set_cons_zero, List.set_cons_succ])
            (refine wpSeq_mov rfl rfl ?_; intro o ho; simp only [List.getElem?_toArray, List.getElem?_cons_zero, List.getElem?_cons_succ, Option.some.injEq] at ho; subst ho; refine ⟨?_, Or.inl ⟨by rfl, fun W hSW => ?_⟩, ?_⟩; rotate_left; (focus (go_simp; first | done | with_reducible rfl)); try simp only [Act.put, List.setIfInBounds_toArray, List.set_cons_zero, List.set_cons_succ])
            (refine wpSeq_mov rfl rfl ?_; intro o ho; simp only [List.getElem?_toArray, List.getElem?_cons_zero, List.getElem?_cons_succ, Option.some.injEq] at ho; subst ho; refine ⟨?_, Or.inl ⟨by rfl, fun W hSW => ?_⟩, ?_⟩; rotate_left; (focus (go_simp; first | done | with_reducible rfl)); try simp only [Act.put, List.setIfInBounds_toArray, List.set_cons_zero, List.set_cons_succ])
            (refine wpSeq_mov rfl rfl ?_; intro o ho; simp only [List.getElem?_toArray, List.getElem?_cons_zero, List.getElem?_cons_succ, Option.some.injEq] at ho; subst ho; refine ⟨?_, Or.inl ⟨by rfl, fun W hSW => ?_⟩, ?_⟩; rotate_left; (focus (go_simp; first | done | with_reducible rfl)); try simp only [Act.put, List.setIfInBounds_toArray, List.set_cons_zero, List.set_cons_succ])
            (refine wpSeq_mov rfl rfl ?_; intro o ho; simp only [List.getElem?_toArray, List.getElem?_cons_zero, List.getElem?_cons_succ, Option.some.injEq] at ho; subst ho; refine ⟨?_, Or.inl ⟨by rfl, fun W hSW => ?_⟩, ?_⟩; rotate_left; (focus (go_simp; first | done | with_reducible rfl)); try simp only [Act.put, List.setIfInBounds_toArray, List.set_cons_zero, List.set_cons_succ])
            (refine wpSeq_mov rfl rfl ?_; intro o ho; simp only [List.getElem?_toArray, List.getElem?_cons_zero, List.getElem?_cons_succ, Option.some.injEq] at ho; subst ho; refine ⟨?_, Or.inl ⟨by rfl, fun W hSW => ?_⟩, ?_⟩; rotate_left; (focus (go_simp; first | done | with_reducible rfl)); try simp only [Act.put, List.setIfInBounds_toArray, List.set_cons_zero, List.set_cons_succ])
            (refine wpSeq_mov rfl rfl ?_; intro o ho; simp only [List.getElem?_toArray, List.getElem?_cons_zero, List.getElem?_cons_succ, Option.some.injEq] at ho; subst ho; refine ⟨?_, Or.inl ⟨by rfl, fun W hSW => ?_⟩, ?_⟩; rotate_left; (focus (go_simp; first | done | with_reducible rfl)); try simp only [Act.put, List.setIfInBounds_toArray, List.set_cons_zero, List.set_cons_succ])
            (refine wpSeq_mov rfl rfl ?_; intro o ho; simp only [List.getElem?_toArray, List.getElem?_cons_zero, List.getElem?_cons_succ, Option.some.injEq] at ho; subst ho; refine ⟨?_, Or.inl ⟨by rfl, fun W hSW => ?_⟩, ?_⟩; rotate_left; (focus (go_simp; first | done | with_reducible rfl)); try simp only [Act.put, List.setIfInBounds_toArray, List.set_cons_zero, List.set_cons_succ])
            (refine wpSeq_mov rfl rfl ?_; intro o ho; simp only [List.getElem?_toArray, List.getElem?_cons_zero, List.getElem?_cons_succ, Option.some.injEq] at ho; subst ho; refine ⟨?_, Or.inl ⟨by rfl, fun W hSW => ?_⟩, ?_⟩; rotate_left; (focus (go_simp; first | done | with_reducible rfl)); try simp only [Act.put, List.setIfInBounds_toArray, List.set_cons_zero, List.set_cons_succ])
            (refine wpSeq_mov rfl rfl ?_; intro o ho; simp only [List.getElem?_toArray, List.getElem?_cons_zero, List.getElem?_cons_succ, Option.some.injEq] at ho; subst ho; refine ⟨?_, Or.inl ⟨by rfl, fun W hSW => ?_⟩, ?_⟩; rotate_left; (focus (go_simp; first | done | with_reducible rfl)); try simp only [Act.put, List.setIfInBounds_toArray, List.set_cons_zero, List.set_cons_succ])
            (refine wpSeq_mov rfl rfl ?_; intro o ho; simp only [List.getElem?_toArray, List.getElem?_cons_zero, List.getElem?_cons_succ, Option.some.injEq] at ho; subst ho; refine ⟨?_, Or.inl ⟨by rfl, fun W hSW => ?_⟩, ?_⟩; rotate_left; (focus (go_simp; first | done | with_reducible rfl)); try simp only [Act.put, List.setIfInBounds_toArray, List.set_cons_zero, List.set_cons_succ])
            (refine wpSeq_mov rfl rfl ?_; intro o ho; simp only [List.getElem?_toArray, List.getElem?_cons_zero, List.getElem?_cons_succ, Option.some.injEq] at ho; subst ho; refine ⟨?_, Or.inl ⟨by rfl, fun W hSW => ?_⟩, ?_⟩; rotate_left; (focus (go_simp; first | done | with_reducible rfl)); try simp only [Act.put, List.setIfInBounds_toArray, List.set_cons_zero, List.set_cons_succ])
            refine wpSeq_done ?_
            go_wp2_with fail
            go_roundw
            case rel => exact ⟨v + 1, v, by omega, by omega, hle, by go_num, rfl, HB3.out, fun h => by omega, fun _ => HYT.out⟩
            case measure => simp [intOf]; omega
          · skip
            (refine wpSeq_mov rfl rfl ?_; intro o ho; simp only [List.getElem?_toArray, List.getElem?_cons_zero, List.getElem?_cons_succ, Option.some.injEq] at ho; subst ho; refine ⟨?_, Or.inl ⟨by rfl, fun W hSW => ?_⟩, ?_⟩; rotate_left; (focus (go_simp; first | done | with_reducible rfl)); try simp only [Act.put, List.setIfInBounds_toArray, List.set_cons_zero, List.set_cons_succ])
            (refine wpSeq_mov rfl rfl ?_; intro o ho; simp only [List.getElem?_toArray, List.getElem?_cons_zero, List.getElem?_cons_succ, Option.some.injEq] at ho; subst ho; refine ⟨?_, Or.inl ⟨by rfl, fun W hSW => ?_⟩, ?_⟩; rotate_left; (focus (go_simp; first | done | with_reducible rfl)); try simp only [Act.put, List.setIfInBounds_toArray, List.set_cons_zero, List.set_cons_succ])
            (refine wpSeq_mov rfl rfl ?_; intro o ho; simp only [List.getElem?_toArray, List.getElem?_cons_zero, List.getElem?_cons_succ, Option.some.injEq] at ho; subst ho; refine ⟨?_, Or.inl ⟨by rfl, fun W hSW => ?_⟩, ?_⟩; rotate_left; (focus (go_simp; first | done | with_reducible rfl)); try simp only [Act.put, List.setIfInBounds_toArray, List.set_cons_zero, List.set_cons_succ])
            (refine wpSeq_mov rfl rfl ?_; intro o ho; simp only [List.getElem?_toArray, List.getElem?_cons_zero, List.getElem?_cons_succ, Option.some.injEq] at ho; subst ho; refine ⟨?_, Or.inl ⟨by rfl, fun W hSW => ?_⟩, ?_⟩; rotate_left; (focus (go_simp; first | done | with_reducible rfl)); try simp only [Act.put, List.setIfInBounds_toArray, List.set_cons_zero, List.set_cons_succ])
            (refine wpSeq_mov rfl rfl ?_; intro o ho; simp only [List.getElem?_toArray, List.getElem?_cons_zero, List.getElem?_cons_succ, Option.some.injEq] at ho; subst ho; refine ⟨?_, Or.inl ⟨by rfl, fun W hSW => ?_⟩, ?_⟩; rotate_left; (focus (go_simp; first | done | with_reducible rfl)); try simp only [Act.put, List.setIfInBounds_toArray, List.set_cons_zero, List.set_cons_succ])
            (refine wpSeq_mov rfl rfl ?_; intro o ho; simp only [List.getElem?_toArray, List.getElem?_cons_zero, List.getElem?_cons_succ, Option.some.injEq] at ho; subst ho; refine ⟨?_, Or.inl ⟨by rfl, fun W hSW => ?_⟩, ?_⟩; rotate_left; (focus (go_simp; first | done | with_reducible rfl)); try simp only [Act.put, List.setIfInBounds_toArray, List.set_cons_zero, List.set_cons_succ])
            (refine wpSeq_mov rfl rfl ?_; intro o ho; simp only [List.getElem?_toArray, List.getElem?_cons_zero, List.getElem?_cons_succ, Option.some.injEq] at ho; subst ho; refine ⟨?_, Or.inl ⟨by rfl, fun W hSW => ?_⟩, ?_⟩; rotate_left; (focus (go_simp; first | done | with_reducible rfl)); try simp only [Act.put, List.setIfInBounds_toArray, List.set_cons_zero, List.set_cons_succ])
            (refine wpSeq_mov rfl rfl ?_; intro o ho; simp only [List.getElem?_toArray, List.getElem?_cons_zero, List.getElem?_cons_succ, Option.some.injEq] at ho; subst ho; refine ⟨?_, Or.inl ⟨by rfl, fun W hSW => ?_⟩, ?_⟩; rotate_left; (focus (go_simp; first | done | with_reducible rfl)); try simp only [Act.put, List.setIfInBounds_toArray, List.set_cons_zero, List.set_cons_succ])
            (refine wpSeq_mov rfl rfl ?_; intro o ho; simp only [List.getElem?_toArray, List.getElem?_cons_zero, List.getElem?_cons_succ, Option.some.injEq] at ho; subst ho; refine ⟨?_, Or.inl ⟨by rfl, fun W hSW => ?_⟩, ?_⟩; rotate_left; (focus (go_simp; first | done | with_reducible rfl)); try simp only [Act.put, List.setIfInBounds_toArray, List.set_cons_zero, List.set_cons_succ])
            (refine wpSeq_mov rfl rfl ?_; intro o ho; simp only [List.getElem?_toArray, List.getElem?_cons_zero, List.getElem?_cons_succ, Option.some.injEq] at ho; subst ho; refine ⟨?_, Or.inl ⟨by rfl, fun W hSW => ?_⟩, ?_⟩; rotate_left; (focus (go_simp; first | done | with_reducible rfl)); try simp only [Act.put, List.setIfInBounds_toArray, List.set_cons_zero, List.set_cons_succ])
            (refine wpSeq_mov rfl rfl ?_; intro o ho; simp only [List.getElem?_toArray, List.getElem?_cons_zero, List.getElem?_cons_succ, Option.some.injEq] at ho; subst ho; refine ⟨?_, Or.inl ⟨by rfl, fun W hSW => ?_⟩, ?_⟩; rotate_left; (focus (go_simp; first | done | with_reducible rfl)); try simp only [Act.put, List.setIfInBounds_toArray, List.set_cons_zero, List.set_cons_succ])
            (refine wpSeq_mov rfl rfl ?_; intro o ho; simp only [List.getElem?_toArray, List.getElem?_cons_zero, List.getElem?_cons_succ, Option.some.injEq] at ho; subst ho; refine ⟨?_, Or.inl ⟨by rfl, fun W hSW => ?_⟩, ?_⟩; rotate_left; (focus (go_simp; first | done | with_reducible rfl)); try simp only [Act.put, List.setIfInBounds_toArray, List.set_cons_zero, List.set_cons_succ])
            (refine wpSeq_mov rfl rfl ?_; intro o ho; simp only [List.getElem?_toArray, List.getElem?_cons_zero, List.getElem?_cons_succ, Option.some.injEq] at ho; subst ho; refine ⟨?_, Or.inl ⟨by rfl, fun W hSW => ?_⟩, ?_⟩; rotate_left; (focus (go_simp; first | done | with_reducible rfl)); try simp only [Act.put, List.setIfInBounds_toArray, List.set_cons_zero, List.set_cons_succ])
            (refine wpSeq_mov rfl rfl ?_; intro o ho; simp only [List.getElem?_toArray, List.getElem?_cons_zero, List.getElem?_cons_succ, Option.some.injEq] at ho; subst ho; refine ⟨?_, Or.inl ⟨by rfl, fun W hSW => ?_⟩, ?_⟩; rotate_left; (focus (go_simp; first | done | with_reducible rfl)); try simp only [Act.put, List.setIfInBounds_toArray, List.set_cons_zero, List.set_cons_succ])
            (refine wpSeq_mov rfl rfl ?_; intro o ho; simp only [List.getElem?_toArray, List.getElem?_cons_zero, List.getElem?_cons_succ, Option.some.injEq] at ho; subst ho; refine ⟨?_, Or.inl ⟨by rfl, fun W hSW => ?_⟩, ?_⟩; rotate_left; (focus (go_simp; first | done | with_reducible rfl)); try simp only [Act.put, List.setIfInBounds_toArray, List.set_cons_zero, List.set_cons_succ])
            (refine wpSeq_mov rfl rfl ?_; intro o ho; simp only [List.getElem?_toArray, List.getElem?_cons_zero, List.getElem?_cons_succ, Option.some.injEq] at ho; subst ho; refine ⟨?_, Or.inl ⟨by rfl, fun W hSW => ?_⟩, ?_⟩; rotate_left; (focus (go_simp; first | done | with_reducible rfl)); try simp only [Act.put, List.setIfInBounds_toArray, List.set_cons_zero, List.set_cons_succ])
            (refine wpSeq_mov rfl rfl ?_; intro o ho; simp only [List.getElem?_toArray, List.getElem?_cons_zero, List.getElem?_cons_succ, Option.some.injEq] at ho; subst ho; refine ⟨?_, Or.inl ⟨by rfl, fun W hSW => ?_⟩, ?_⟩; rotate_left; (focus (go_simp; first | done | with_reducible rfl)); try simp only [Act.put, List.setIfInBounds_toArray, List.set_cons_zero, List.set_cons_succ])
            (refine wpSeq_mov rfl rfl ?_; intro o ho; simp only [List.getElem?_toArray, List.getElem?_cons_zero, List.getElem?_cons_succ, Option.some.injEq] at ho; subst ho; refine ⟨?_, Or.inl ⟨by rfl, fun W hSW => ?_⟩, ?_⟩; rotate_left; (focus (go_simp; first | done | with_reducible rfl)); try simp only [Act.put, List.setIfInBounds_toArray, List.set_cons_zero, List.set_cons_succ])
            (refine wpSeq_mov rfl rfl ?_; intro o ho; simp only [List.getElem?_toArray, List.getElem?_cons_zero, List.getElem?_cons_succ, Option.some.injEq] at ho; subst ho; refine ⟨?_, Or.inl ⟨by rfl, fun W hSW => ?_⟩, ?_⟩; rotate_left; (focus (go_simp; first | done | with_reducible rfl)); try simp only [Act.put, List.setIfInBounds_toArray, List.set_cons_zero, List.set_cons_succ])
            (refine wpSeq_mov rfl rfl ?_; intro o ho; simp only [List.getElem?_toArray, List.getElem?_cons_zero, List.getElem?_cons_succ, Option.some.injEq] at ho; subst ho; refine ⟨?_, Or.inl ⟨by rfl, fun W hSW => ?_⟩, ?_⟩; rotate_left; (focus (go_simp; first | done | with_reducible rfl)); try simp only [Act.put, List.setIfInBounds_toArray, List.set_cons_zero, List.set_cons_succ])
            (refine wpSeq_mov rfl rfl ?_; intro o ho; simp only [List.getElem?_toArray, List.getElem?_cons_zero, List.getElem?_cons_succ, Option.some.injEq] at ho; subst ho; refine ⟨?_, Or.inl ⟨by rfl, fun W hSW => ?_⟩, ?_⟩; rotate_left; (focus (go_simp; first | done | with_reducible rfl)); try simp only [Act.put, List.setIfInBounds_toArray, List.set_cons_zero, List.set_cons_succ])
            (refine wpSeq_mov rfl rfl ?_; intro o ho; simp only [List.getElem?_toArray, List.getElem?_cons_zero, List.getElem?_cons_succ, Option.some.injEq] at ho; subst ho; refine ⟨?_, Or.inl ⟨by rfl, fun W hSW => ?_⟩, ?_⟩; rotate_left; (focus (go_simp; first | done | with_reducible rfl)); try simp only [Act.put, List.setIfInBounds_toArray, List.set_cons_zero, List.set_cons_succ])
            (refine wpSeq_mov rfl rfl ?_; intro o ho; simp only [List.getElem?_toArray, List.getElem?_cons_zero, List.getElem?_cons_succ, Option.some.injEq] at ho; subst ho; refine ⟨?_, Or.inl ⟨by rfl, fun W hSW => ?_⟩, ?_⟩; rotate_left; (focus (go_simp; first | done | with_reducible rfl)); try simp only [Act.put, List.setIfInBounds_toArray, List.set_cons_zero, List.set_cons_succ])
            (refine wpSeq_mov rfl rfl ?_; intro o ho; simp only [List.getElem?_toArray, List.getElem?_cons_zero, List.getElem?_cons_succ, Option.some.injEq] at ho; subst ho; refine ⟨?_, Or.inl ⟨by rfl, fun W hSW => ?_⟩, ?_⟩; rotate_left; (focus (go_simp; first | done | with_reducible rfl)); try simp only [Act.put, List.setIfInBounds_toArray, List.set_cons_zero, List.set_cons_succ])
            (refine wpSeq_mov rfl rfl ?_; intro o ho; simp only [List.getElem?_toArray, List.getElem?_cons_zero, List.getElem?_cons_succ, Option.some.injEq] at ho; subst ho; refine ⟨?_, Or.inl ⟨by rfl, fun W hSW => ?_⟩, ?_⟩; rotate_left; (focus (go_simp; first | done | with_reducible rfl)); try simp only [Act.put, List.setIfInBounds_toArray, List.set_cons_zero, List.set_cons_succ])
            (refine wpSeq_mov rfl rfl ?_; intro o ho; simp only [List.getElem?_toArray, List.getElem?_cons_zero, List.getElem?_cons_succ, Option.some.injEq] at ho; subst ho; refine ⟨?_, Or.inl ⟨by rfl, fun W hSW => ?_⟩, ?_⟩; rotate_left; (focus (go_simp; first | done | with_reducible rfl)); try simp only [Act.put, List.setIfInBounds_toArray, List.set_cons_zero, List.set_cons_succ])
            (refine wpSeq_mov rfl rfl ?_; intro o ho; simp only [List.getElem?_toArray, List.getElem?_cons_zero, List.getElem?_cons_succ, Option.some.injEq] at ho; subst ho; refine ⟨?_, Or.inl ⟨by rfl, fun W hSW => ?_⟩, ?_⟩; rotate_left; (focus (go_simp; first | done | with_reducible rfl)); try simp only [Act.put, List.setIfInBounds_toArray, List.set_cons_zero, List.set_cons_succ])
            (refine wpSeq_mov rfl rfl ?_; intro o ho; simp only [List.getElem?_toArray, List.getElem?_cons_zero, List.getElem?_cons_succ, Option.some.injEq] at ho; subst ho; refine ⟨?_, Or.inl ⟨by rfl, fun W hSW => ?_⟩, ?_⟩; rotate_left; (focus (go_simp; first | done | with_reducible rfl)); try simp only [Act.put, List.setIfInBounds_toArray, List.set_cons_zero, List.set_cons_succ])
            (refine wpSeq_mov rfl rfl ?_; intro o ho; simp only [List.getElem?_toArray, List.getElem?_cons_zero, List.getElem?_cons_succ, Option.some.injEq] at ho; subst ho; refine ⟨?_, Or.inl ⟨by rfl, fun W hSW => ?_⟩, ?_⟩; rotate_left; (focus (go_simp; first | done | with_reducible rfl)); try simp only [Act.put, List.setIfInBounds_toArray, List.set_cons_zero, List.set_cons_succ])
            refine wpSeq_done ?_
            go_wp2_with fail
            go_roundw
            case rel => exact ⟨v + 1, u, by omega, by omega, hun, by go_num, rfl, HB3.out, fun h => absurd h hu0, fun _ => HU.out.2 hu0⟩
            case measure => simp [intOf]; omega
      · have hyT : ToldV s v := HTV.out.2 hy
        have HYT := Lib.hid hyT
        have hy' : (y == 0) = false := by simpa using hy
        clear hyT
        (refine wpSeq_mov rfl rfl ?_; intro o ho; simp only [List.getElem?_toArray, List.getElem?_cons_zero, List.getElem?_cons_succ, Option.some.injEq] at ho; subst ho; refine ⟨?_, Or.inl ⟨by rfl, fun W hSW => ?_⟩, ?_⟩; rotate_left; (focus (go_simp; first | done | with_reducible rfl)); try simp only [Act.put, List.setIfInBounds_toArray, List.set_cons_zero, List.set_cons_succ])
        (refine wpSeq_mov rfl rfl ?_; intro o ho; simp only [List.getElem?_toArray, List.getElem?_cons_zero, List.getElem?_cons_succ, Option.some.injEq] at ho; subst ho; refine ⟨?_, Or.inl ⟨by rfl, fun W hSW => ?_⟩, ?_⟩; rotate_left; (focus (go_simp; first | done | with_reducible rfl)); try simp only [Act.put, List.setIfInBounds_toArray, List.set_cons_zero, List.set_cons_succ])
        (refine wpSeq_mov rfl rfl ?_; intro o ho; simp only [List.getElem?_toArray, List.getElem?_cons_zero, List.getElem?_cons_succ, Option.some.injEq] at ho; subst ho; refine ⟨?_, Or.inl ⟨by rfl, fun W hSW => ?_⟩, ?_⟩; rotate_left; (focus (go_simp; first | done | with_reducible rfl)); try simp only [Act.put, List.setIfInBounds_toArray, List.set_cons_zero, List.set_cons_succ])
        (refine wpSeq_mov rfl rfl ?_; intro o ho; simp only [List.getElem?_toArray, List.getElem?_cons_zero, List.getElem?_cons_succ, Option.some.injEq] at ho; subst ho; refine ⟨?_, Or.inl ⟨by rfl, fun W hSW => ?_⟩, ?_⟩; rotate_left; (focus (go_simp; first | done | with_reducible rfl)); try simp only [Act.put, List.setIfInBounds_toArray, List.set_cons_zero, List.set_cons_succ])
        (refine wpSeq_mov rfl rfl ?_; intro o ho; simp only [List.getElem?_toArray, List.getElem?_cons_zero, List.getElem?_cons_succ, Option.some.injEq] at ho; subst ho; refine ⟨?_, Or.inl ⟨by rfl, fun W hSW => ?_⟩, ?_⟩; rotate_left; (focus (go_simp; first | done | with_reducible rfl)); try simp only [Act.put, List.setIfInBounds_toArray, List.set_cons_zero, List.set_cons_succ])
        (refine wpSeq_mov rfl rfl ?_; intro o ho; simp only [List.getElem?_toArray, List.getElem?_cons_zero, List.getElem?_cons_succ, Option.some.injEq] at ho; subst ho; refine ⟨?_, Or.inl ⟨by rfl, fun W hSW => ?_⟩, ?_⟩; rotate_left; (focus (go_simp; first | done | with_reducible rfl)); try simp only [Act.put, List.setIfInBounds_toArray, List.set_cons_zero, List.set_cons_succ])
        (refine wpSeq_mov rfl rfl ?_; intro o ho; simp only [List.getElem?_toArray, List.getElem?_cons_zero, List.getElem?_cons_succ, Option.some.injEq] at ho; subst ho; refine ⟨?_, Or.inl ⟨by rfl, fun W hSW => ?_⟩, ?_⟩; rotate_left; (focus (go_simp; first | done | with_reducible rfl)); try simp only [Act.put, List.setIfInBounds_toArray, List.set_cons_zero, List.set_cons_succ])
        (refine wpSeq_mov rfl rfl ?_; intro o ho; simp only [List.getElem?_toArray, List.getElem?_cons_zero, List.getElem?_cons_succ, Option.some.injEq] at ho; subst ho; refine ⟨?_, Or.inl ⟨by rfl, fun W hSW => ?_⟩, ?_⟩; rotate_left; (focus (go_simp; first | done | with_reducible rfl)); try simp only [Act.put, List.setIfInBounds_toArray, List.set_cons_zero, List.set_cons_succ])
        (refine wpSeq_mov rfl rfl ?_; intro o ho; simp only [List.getElem?_toArray, List.getElem?_cons_zero, List.getElem?_cons_succ, Option.some.injEq] at ho; subst ho; refine ⟨?_, Or.inl ⟨by rfl, fun W hSW => ?_⟩, ?_⟩; rotate_left; (focus (go_simp; first | done | with_reducible rfl)); try simp only [Act.put, List.setIfInBounds_toArray, List.set_cons_zero, List.set_cons_succ])
        (refine wpSeq_mov rfl rfl ?_; intro o ho; simp only [List.getElem?_toArray, List.getElem?_cons_zero, List.getElem?_cons_succ, Option.some.injEq] at ho; subst ho; refine ⟨undef, Or.inr ⟨by rfl, rfl⟩, ?_⟩; try simp only [Act.put, List.setIfInBounds_toArray, List.set_cons_zero, List.set_cons_succ])
        (refine wpSeq_mov rfl rfl ?_; intro o ho; simp only [List.getElem?_toArray, List.getElem?_cons_zero, List.getElem?_cons_succ, Option.some.injEq] at ho; subst ho; refine ⟨undef, Or.inr ⟨by rfl, rfl⟩, ?_⟩; try simp only [Act.put, List.setIfInBounds_toArray, List.set_cons_zero, List.set_cons_succ])
        (refine wpSeq_mov rfl rfl ?_; intro o ho; simp only [List.getElem?_toArray, List.getElem?_cons_zero, List.getElem?_cons_succ, Option.some.injEq] at ho; subst ho; refine ⟨undef, Or.inr ⟨by rfl, rfl⟩, ?_⟩; try simp only [Act.put, List.setIfInBounds_toArray, List.set_cons_zero, List.set_cons_succ])
        (refine wpSeq_mov rfl rfl ?_; intro o ho; simp only [List.getElem?_toArray, List.getElem?_cons_zero, List.getElem?_cons_succ, Option.some.injEq] at ho; subst ho; refine ⟨undef, Or.inr ⟨by rfl, rfl⟩, ?_⟩; try simp only [Act.put, List.setIfInBounds_toArray, List.set_cons_zero, List.set_cons_succ])
        (refine wpSeq_mov rfl rfl ?_; intro o ho; simp only [List.getElem?_toArray, List.getElem?_cons_zero, List.getElem?_cons_succ, Option.some.injEq] at ho; subst ho; refine ⟨undef, Or.inr ⟨by rfl, rfl⟩, ?_⟩; try simp only [Act.put, List.setIfInBounds_toArray, List.set_cons_zero, List.set_cons_succ])
        (refine wpSeq_mov rfl rfl ?_; intro o ho; simp only [List.getElem?_toArray, List.getElem?_cons_zero, List.getElem?_cons_succ, Option.some.injEq] at ho; subst ho; refine ⟨undef, Or.inr ⟨by rfl, rfl⟩, ?_⟩; try simp only [Act.put, List.setIfInBounds_toArray, List.set_cons_zero, List.set_cons_succ])
        (refine wpSeq_mov rfl rfl ?_; intro o ho; simp only [List.getElem?_toArray, List.getElem?_cons_zero, List.getElem?_cons_succ, Option.some.injEq] at ho; subst ho; refine ⟨undef, Or.inr ⟨by rfl, rfl⟩, ?_⟩; try simp only [Act.put, List.setIfInBounds_toArray, List.set_cons_zero, List.set_cons_succ])
        (refine wpSeq_mov rfl rfl ?_; intro o ho; simp only [List.getElem?_toArray, List.getElem?_cons_zero, List.getElem?_cons_succ, Option.some.injEq] at ho; subst ho; refine ⟨undef, Or.inr ⟨by rfl, rfl⟩, ?_⟩; try simp only [Act.put, List.setIfInBounds_toArray, List.set_cons_zero, List.set_cons_succ])
        (refine wpSeq_mov rfl rfl ?_; intro o ho; simp only [List.getElem?_toArray, List.getElem?_cons_zero, List.getElem?_cons_succ, Option.some.injEq] at ho; subst ho; refine ⟨undef, Or.inr ⟨by rfl, rfl⟩, ?_⟩; try simp only [Act.put, List.setIfInBounds_toArray, List.set_cons_zero, List.set_cons_succ])
        (refine wpSeq_mov rfl rfl ?_; intro o ho; simp only [List.getElem?_toArray, List.getElem?_cons_zero, List.getElem?_cons_succ, Option.some.injEq] at ho; subst ho; refine ⟨undef, Or.inr ⟨by rfl, rfl⟩, ?_⟩; try simp only [Act.put, List.setIfInBounds_toArray, List.set_cons_zero, List.set_cons_succ])
        (refine wpSeq_mov rfl rfl ?_; intro o ho; simp only [List.getElem?_toArray, List.getElem?_cons_zero, List.getElem?_cons_succ, Option.some.injEq] at ho; subst ho; refine ⟨undef, Or.inr ⟨by rfl, rfl⟩, ?_⟩; try simp only [Act.put, List.setIfInBounds_toArray, List.set_cons_zero, List.set_cons_succ])
        (refine wpSeq_mov rfl rfl ?_; intro o ho; simp only [List.getElem?_toArray, List.getElem?_cons_zero, List.getElem?_cons_succ, Option.some.injEq] at ho; subst ho; refine ⟨undef, Or.inr ⟨by rfl, rfl⟩, ?_⟩; try simp only [Act.put, List.setIfInBounds_toArray, List.set_cons_zero, List.set_cons_succ])
        (refine wpSeq_mov rfl rfl ?_; intro o ho; simp only [List.getElem?_toArray, List.getElem?_cons_zero, List.getElem?_cons_succ, Option.some.injEq] at ho; subst ho; refine ⟨undef, Or.inr ⟨by rfl, rfl⟩, ?_⟩; try simp only [Act.put, List.setIfInBounds_toArray, List.set_cons_zero, List.set_cons_succ])
        (refine wpSeq_mov rfl rfl ?_; intro o ho; simp only [List.getElem?_toArray, List.getElem?_cons_zero, List.getElem?_cons_succ, Option.some.injEq] at ho; subst ho; refine ⟨undef, Or.inr ⟨by rfl, rfl⟩, ?_⟩; try simp only [Act.put, List.setIfInBounds_toArray, List.set_cons_zero, List.set_cons_succ])
        (refine wpSeq_mov rfl rfl ?_; intro o ho; simp only [List.getElem?_toArray, List.getElem?_cons_zero, List.getElem?_cons_succ, Option.some.injEq] at ho; subst ho; refine ⟨undef, Or.inr ⟨by rfl, rfl⟩, ?_⟩; try simp only [Act.put, List.setIfInBounds_toArray, List.set_cons_zero, List.set_cons_succ])
        (refine wpSeq_mov rfl rfl ?_; intro o ho; simp only [List.getElem?_toArray, List.getElem?_cons_zero, List.getElem?_cons_succ, Option.some.injEq] at ho; subst ho; refine ⟨undef, Or.inr ⟨by rfl, rfl⟩, ?_⟩; try simp only [Act.put, List.setIfInBounds_toArray, List.set_cons_zero, List.set_cons_succ])
        (refine wpSeq_mov rfl rfl ?_; intro o ho; simp only [List.getElem?_toArray, List.getElem?_cons_zero, List.getElem?_cons_succ, Option.some.injEq] at ho; subst ho; refine ⟨undef, Or.inr ⟨by rfl, rfl⟩, ?_⟩; try simp only [Act.put, List.setIfInBounds_toArray, List.set_cons_zero, List.set_cons_succ])
        (refine wpSeq_mov rfl rfl ?_; intro o ho; simp only [List.getElem?_toArray, List.getElem?_cons_zero, List.getElem?_cons_succ, Option.some.injEq] at ho; subst ho; refine ⟨undef, Or.inr ⟨by rfl, rfl⟩, ?_⟩; try simp only [Act.put, List.setIfInBounds_toArray, List.set_cons_zero, List.set_cons_succ])
        (refine wpSeq_mov rfl rfl ?_; intro o ho; simp only [List.getElem?_toArray, List.getElem?_cons_zero, List.getElem?_cons_succ, Option.some.injEq] at ho; subst ho; refine ⟨undef, Or.inr ⟨by rfl, rfl⟩, ?_⟩; try simp only [Act.put, List.setIfInBounds_toArray, List.set_cons_zero, List.set_cons_succ])
        (refine wpSeq_mov rfl rfl ?_; intro o ho; simp only [List.getElem?_toArray, List.getElem?_cons_zero, List.getElem?_cons_succ, Option.some.injEq] at ho; subst ho; refine ⟨?_, Or.inl ⟨by rfl, fun W hSW => ?_⟩, ?_⟩; rotate_left; (focus (go_simp; first | done | with_reducible rfl)); try simp only [Act.put, List.setIfInBounds_toArray, List.set_cons_zero, List.set_cons_succ])
        refine wpSeq_done ?_
        go_wp2_with fail
        go_roundw
        case rel =>
          refine ⟨v + 1, u, by omega, by omega, hun, by go_num, rfl, HB3.out, fun h k h1 h2 => ?_, HU.out.2⟩
          by_cases e : k = v
          · rw [e]
            exact HYT.out
          · exact HU.out.1 h k h1 (by omega)
        case measure => simp [intOf]; omega
    · have hle' : ¬ (v : Int) ≤ (n : Int) := by omega
      go_wp2_with fail
      go_ret
      exact ⟨u, rfl, hun, HB.out, fun h k h1 h2 => HU.out.1 h k h1 (by omega), HU.out.2⟩
end
end Go.Proofs.Ytbkmgblijncjhaa

set_option linter.unusedVariables false
set_option linter.unusedSimpArgs false
namespace Go.Proofs.Ytbkmgblijncjhaa
open Go.RowKit Go.Maps

/-- What turn tells. -/
def TurnPost (w : World) (base b n : Nat) (s : SS) (G : SG) (o : Owns) (l : List Int) (e : Ending) (w' : World) : Prop :=
  (e = .returned (.tuple #[.bool false, .bool false]) ∧ Below w.heap.size w w' ∧ ∃ a ∈ l, -a ∈ s.lits) ∨
  (e = .returned (.tuple #[.bool true, .bool true]) ∧ Below w.heap.size w w' ∧ (∀ a ∈ l, a ∈ s.lits) ∧ ∀ u, 1 ≤ u → u ≤ n → ToldV s u) ∨
  (e = .returned (.tuple #[.bool false, .bool true]) ∧ ∃ x G' o', (x ∈ l ∨ ∀ a ∈ l, a ∈ s.lits) ∧ Guessed w w' base b n s G o x G' o')

section
variable {w w1 : World} {base b n : Nat} {F : List (List Int)} {s : SS} {G : SG} {o : Owns}
set_option maxRecDepth 100000 in
set_option maxHeartbeats 4000000 in
theorem turn_any (h : SMem w base b n s G o) (hr : SRel n s G) (hi : Inv n F s) (hn : n ≤ 1000000) {l : List Int} {A : Option Addr} {c : Nat} (hA : Vals w w.heap.size A (i64s l)) (hll : l.length ≤ 140737488355328) (hc : l.length ≤ c) (hl : ∀ x ∈ l, x ≠ 0 ∧ x.natAbs ≤ n) :
    Calls Try.prog 57 #[.pointer (some ⟨b, 0, none⟩), .slice A l.length c] w (TurnPost w base b n s G o l) := by
  have HAS := Lib.hid (assume_any h hr hi hn hA hll hc hl)
  have HBE := Lib.hid (best_any h hr hn)
  have HS := Lib.hid h
  have HR := Lib.hid hr
  have HI := Lib.hid hi
  clear h hr hi hA hl
  go_enter Try.func57, Try.ntmps57
  go_wp2_with fail
  refine HAS.out.mono ?_
  rintro e w1 (⟨rfl, hw, hx⟩ | ⟨rfl, hw, hx⟩ | ⟨rfl, x, G', o', hx, hg⟩)
  · have hw' := hw.symm
    subst hw'
    have HX := Lib.hid hx
    clear hw hx HAS
    go_wp2_with fail
    go_ret2
    exact .inl ⟨rfl, Below.refl _ _, HX.out⟩
  · have hw' := hw.symm
    subst hw'
    have HX := Lib.hid hx
    clear hw hx HAS
    go_wp2_with fail
    refine HBE.out.mono ?_
    rintro e w2 ⟨v, rfl, hv, hb, h0, h1⟩
    have HB := Lib.hid hb
    have HS2 := Lib.hid (HS.out.after hb)
    have H0 := Lib.hid h0
    have H1 := Lib.hid h1
    clear hb h0 h1 HBE
    by_cases hv0 : v = 0
    · subst hv0
      go_wp2_with fail
      go_ret2
      exact .inr (.inl ⟨rfl, HB.out, HX.out, H0.out (by first | rfl | trivial)⟩)
    · have hv0' : ((v : Int) == 0) = false := by simp; omega
      have hwn : IntKind.i64.wrap (-(v : Int)) = -(v : Int) := IntWalk.i64_in _ (by omega)
      have hvn : (v : Int) < (n : Int) + 1 := by omega
      have c6 : w2.cell? ⟨b, 6, none⟩ = some (.slice (some ⟨G.ob, 0, none⟩) (n + 1) (n + 1)) := HS2.out.sb.cell 6
      obtain ⟨u, hu⟩ := HS2.out.ot.ex (i := v) hv
      have hcu := HS2.out.ot.cell hu
      have hnt := H1.out hv0
      have hu1 : (v : Int) ∉ s.lits := fun h => hnt (.inl h)
      have hu2 : -(v : Int) ∉ s.lits := fun h => hnt (.inr h)
      have HGP := Lib.hid (guess_any HS2.out HR.out HI.out hn (x := (v : Int)) (by omega) (by omega) hu1 hu2)
      have HGN := Lib.hid (guess_any HS2.out HR.out HI.out hn (x := -(v : Int)) (by omega) (by omega) hu2 (by rw [Int.neg_neg]; exact hu1))
      have HU := Lib.hid (And.intro hu1 hu2)
      clear hu hnt hu1 hu2
      by_cases hu : 0 < u
      · go_wp2_with fail
        refine HGP.out.mono ?_
        rintro e w3 ⟨rfl, G2, o2, h3, h4, h5, h6, h7, h8, h9⟩
        have HG2 := Lib.hid (Guessed.mk (w := w) h3 h4 h5 h6 h7 (fun k hk => h8 k (Nat.lt_of_lt_of_le hk HB.out.size)) ((SFr.of_below HB.out o).trans h9 (Olds.refl _ _)) (by omega) (by omega) HU.out.1 HU.out.2)
        clear h3 h4 h5 h6 h7 h8 h9 HGP HGN c6 hcu
        go_wp2_with fail
        go_ret2
        exact .inr (.inr ⟨rfl, _, G2, o2, .inr HX.out, HG2.out⟩)
      · go_wp2_with fail
        refine HGN.out.mono ?_
        rintro e w3 ⟨rfl, G2, o2, h3, h4, h5, h6, h7, h8, h9⟩
        have HG2 := Lib.hid (Guessed.mk (w := w) h3 h4 h5 h6 h7 (fun k hk => h8 k (Nat.lt_of_lt_of_le hk HB.out.size)) ((SFr.of_below HB.out o).trans h9 (Olds.refl _ _)) (by omega) (by omega) HU.out.2 (by rw [Int.neg_neg]; exact HU.out.1))
        clear h3 h4 h5 h6 h7 h8 h9 HGP HGN c6 hcu
        go_wp2_with fail
        go_ret2
        exact .inr (.inr ⟨rfl, _, G2, o2, .inr HX.out, HG2.out⟩)
  · have HG := Lib.hid hg
    have HX := Lib.hid hx
    clear hg hx HAS HBE
    go_wp2_with fail
    go_ret2
    exact .inr (.inr ⟨rfl, x, G', o', .inl HX.out, HG.out⟩)
theorem boolInfo15 : (Try.prog.info? 4).map (fun i => (i.zero, i.size, i.bytes)) = some (some (.bool false), 1, 1) := by kernel_rfl
def boolV (xs : List Bool) : List Value := xs.map (.bool ·)
/-- A row of truth values, all false. -/
theorem make_falses15 (n : Nat) (hn : n ≤ 1000000) : ∃ cs : Array Value, cs = (boolV (List.replicate n false)).toArray ∧
    ∀ w : World, (Instr.makeSlice 28 (.int .i64 (n : Int)) (.int .i64 (n : Int))).run Try.prog w = .ok (.slice (some ⟨w.heap.size, 0, none⟩) n n) (w.alloc (.cells cs 4)) := by
  refine ⟨_, rfl, fun w => ?_⟩
  obtain ⟨i, hi, hz, hs, hb⟩ := info_parts boolInfo15
  have hr := run_make (P := Try.prog) w 28 4 i (.bool false) Try.underlying28 hi hz .i64 .i64 (n : Int) (n : Int) (by omega) (Int.le_refl _) (by rw [hb]; omega) (by omega)
  rw [hs, Nat.mul_one] at hr
  have e : madeCells (Value.bool false).cells n = (boolV (List.replicate n false)).toArray := by
    apply Array.ext'
    apply List.ext_getElem?
    intro i
    simp [madeCells, boolV, Value.cells, List.getElem?_replicate, List.getElem?_range]
    split <;> simp_all [Nat.mod_one]
  simp only [Int.toNat_natCast] at hr
  rw [e] at hr
  exact hr
theorem boolV_set (m : List Bool) (i : Nat) (u : Bool) : ((boolV m).toArray).setIfInBounds i (.bool u) = (boolV (m.set i u)).toArray := by
  simp [boolV, List.map_set]
/-- The model as a list. -/
def modelL (n : Nat) (s : SS) : List Bool := (List.range n).map fun i => modelOf s (i + 1)
theorem valL_pos {v : Nat} : decide (0 < valL s.lits (v : Int)) = modelOf s v := by
  unfold modelOf valL
  by_cases h : (v : Int) ∈ s.lits
  · simp [h]
  · by_cases h2 : -(v : Int) ∈ s.lits <;> simp [h, h2]
def ModelPost (w : World) (n : Nat) (s : SS) (e : Ending) (w' : World) : Prop :=
  ∃ g, e = .returned (.slice (some ⟨g, 0, none⟩) n n) ∧ w.heap.size ≤ g ∧ Below w.heap.size w w' ∧ Blk w' g 4 (boolV (modelL n s)).toArray
set_option maxRecDepth 100000 in
set_option maxHeartbeats 4000000 in
theorem model_any (h : SMem w base b n s G o) (hr : SRel n s G) (hn : n ≤ 1000000) : Calls Try.prog 58 #[.pointer (some ⟨b, 0, none⟩)] w (ModelPost w n s) := by
  have HS := Lib.hid h
  have HR := Lib.hid hr
  obtain ⟨cs0, hcs, hmk⟩ := make_falses15 n hn
  have hc0 : w.cell? ⟨b, 0, none⟩ = some (.int .i64 (n : Int)) := h.sb.cell 0
  have HCS := Lib.hid hcs
  clear h hr hcs
  go_enter Try.func58, Try.ntmps58
  go_wp2_with fail
  have HW0 := Lib.hid (stepA w (.cells cs0 4))
  have HX0 : Hid (Blk (w.alloc (.cells cs0 4)) w.heap.size 4 (boolV (List.replicate n false)).toArray) := Lib.hid (by rw [HCS.out]; exact Blk.new w _ _)
  obtain ⟨g, hg⟩ : ∃ g, g = w.heap.size := ⟨_, rfl⟩
  have HG := Lib.hid hg
  rw [← hg] at HX0 ⊢
  generalize w.alloc (.cells cs0 4) = w1 at HW0 HX0 ⊢
  clear hg hmk hc0
  go_loopw [12] (fun iv wr => ∃ (j : Nat) (m : List Bool), j ≤ n ∧ iv = .int .i64 (j : Int) ∧ Below w.heap.size w wr ∧ Blk wr g 4 (boolV m).toArray ∧ m.length = n ∧ ∀ i, i < j → m[i]? = some (modelOf s (i + 1))) (fun iv _ => n - (intOf iv).toNat)
  case atStart => exact ⟨0, _, Nat.zero_le _, rfl, HW0.out, HX0.out, by simp, fun i hi => by omega⟩
  case round =>
    obtain ⟨j, m, hj, rfl, hb, hX, hm, hd⟩ := hrel
    have HB := Lib.hid hb
    have HX := Lib.hid hX
    have HD := Lib.hid hd
    have HM := Lib.hid hm
    have HS2 := Lib.hid (HS.out.after hb)
    clear hb hX hd hm HW0 HX0
    by_cases hlt : j < n
    · have hlt' : (j : Int) < (n : Int) := by omega
      have hjn : (j : Int) + 1 < (n : Int) + 1 := by omega
      have hj0 : 0 ≤ (j : Int) + 1 := by omega
      have c3 : wr.cell? ⟨b, 3, none⟩ = some (.slice (some ⟨G.vb, 0, none⟩) (n + 1) (n + 1)) := HS2.out.sb.cell 3
      have hcv := HS2.out.v.cell (HR.out.vv (j + 1) (by omega) (by omega))
      have hgx := HX.out.frozen j
      have hgc : wr.cell? ⟨g, j, none⟩ = some (.bool (m.getD j false)) := by
        rw [HX.out.cell, List.getElem?_toArray]
        unfold boolV
        rw [List.getElem?_map, List.getD_eq_getElem?_getD, List.getElem?_eq_getElem (by rw [HM.out]; exact hlt)]
        rfl
      have HVP := Lib.hid (valL_pos (s := s) (v := j + 1))
      generalize valL s.lits ((j + 1 : Nat) : Int) = y at hcv HVP
      generalize m.getD j false = u0 at hgc
      go_wp2_with fail
      rw [HVP.out]
      refine ⟨⟨j + 1, m.set j (modelOf s (j + 1)), by omega, by go_num, HB.out.setCell (p := ⟨g, j, none⟩) (by rw [HG.out]; exact Nat.le_refl _) _, ?_, by simpa using HM.out, fun i hi => ?_⟩, by simp [intOf]; omega⟩
      · rw [← boolV_set]
        exact HX.out.set_ j _
      · by_cases e : j = i
        · subst e
          exact List.getElem?_set_self (by rw [HM.out]; exact hlt)
        · rw [List.getElem?_set_ne e]
          exact HD.out i (by omega)
    · have hlt' : ¬ (j : Int) < (n : Int) := by omega
      have em : m = modelL n s := by
        apply List.ext_getElem?
        intro i
        by_cases hi : i < n
        · rw [HD.out i (by omega)]
          simp [modelL, hi]
        · rw [List.getElem?_eq_none (by rw [HM.out]; omega), List.getElem?_eq_none (by simp [modelL]; omega)]
      have HX2 : Hid (Blk wr g 4 (boolV (modelL n s)).toArray) := Lib.hid (by rw [← em]; exact HX.out)
      clear em
      go_wp2_with fail
      go_ret
      exact ⟨g, rfl, by rw [HG.out]; exact Nat.le_refl _, HB.out, HX2.out⟩
end
end Go.Proofs.Ytbkmgblijncjhaa

set_option linter.unusedVariables false
set_option linter.unusedSimpArgs false
namespace Go.Proofs.Ytbkmgblijncjhaa
open Go.RowKit Go.Maps

section
variable {w w' : World} {base b n : Nat} {F : List (List Int)} {s : SS} {G : SG} {o : Owns}
theorem sc_ne15 {W : World} {b i j : Nat} {u : Value} (h : i ≠ j) : (W.setCell ⟨b, i, none⟩ u).cell? ⟨b, j, none⟩ = W.cell? ⟨b, j, none⟩ := World.cell?_setCell_other _ _ _ _ (by first | (simp; done) | (simp; omega))
theorem own_take {e : TypeId} {A : Option Addr} {m c p : Nat} {xs : List Value} (h : w.ownsRow base e 1 (.slice A m c) m xs) (hp : p ≤ m) : w.ownsRow base e 1 (.slice A p c) p (xs.take p) := by
  obtain ⟨hl, h2⟩ := h
  refine ⟨by rw [List.length_take]; omega, ?_⟩
  rcases h2 with ⟨hv, h0⟩ | ⟨g, cap, cur, hv, hg, hh, hnc, hcm, hcs, htk⟩
  · injection hv with h1 h2 h3
    have hp0 : p = 0 := by omega
    subst hp0
    exact .inl ⟨by rw [h1, h3], rfl⟩
  · injection hv with h1 h2 h3
    subst h1 h3
    refine .inr ⟨g, c, cur, rfl, hg, hh, by omega, hcm, hcs, ?_⟩
    rw [← htk, List.take_take]
    congr 1
    omega
theorem own_some {e : TypeId} {A : Option Addr} {m c : Nat} {xs : List Value} (h : w.ownsRow base e 1 (.slice A m c) m xs) (hm : 0 < m) : ∃ g, A = some ⟨g, 0, none⟩ ∧ m ≤ c := by
  rcases h.2 with ⟨hv, h0⟩ | ⟨g, cap, cur, hv, hg, hh, hnc, hcm, hcs, htk⟩
  · omega
  · injection hv with h1 h2 h3
    subst h3
    exact ⟨g, h1, hnc⟩
theorem slice_from (W : World) (q at_ len cap : Nat) (h1 : at_ < len) (h2 : len ≤ cap) : (Instr.slice 25 (.slice (some ⟨q, 0, none⟩) len cap) (some (.int .i64 (at_ : Int))) none none).run Try.prog W = .ok (.slice (some ⟨q, at_, none⟩) (len - at_) (cap - at_)) W := by
  have h3 : (at_ : Int) ≤ (len : Int) := by omega
  have h4 : ¬ cap = at_ := by omega
  have h5 : ¬ cap - at_ = 0 := by omega
  by_cases h0 : at_ = 0
  · subst h0
    simp [go_sem, Try.underlying25, h5, h4, Addr.add]
  · simp [go_sem, Try.underlying25, h3, h4, h5, h0, Addr.add]
theorem slice_to (W : World) (q at_ len cap : Nat) (h1 : at_ ≤ cap) : (Instr.slice 25 (.slice (some ⟨q, 0, none⟩) len cap) none (some (.int .i64 (at_ : Int))) none).run Try.prog W = .ok (.slice (some ⟨q, 0, none⟩) at_ cap) W := by
  have h3 : (at_ : Int) ≤ (cap : Int) := by omega
  simp [go_sem, Try.underlying25, h3]
theorem SMem.cut_tr (h : SMem w base b n s G o) {p : Nat} (hp : p ≤ s.tr.length) : SMem (w.setCell ⟨b, 8, none⟩ (.slice G.T p G.ct)) base b n { s with tr := s.tr.take p } G o := by
  have hk := lab_set (w := w) (i := 8) (u := .slice G.T p G.ct) h.so
  have hs := set_size (w := w) b 8 (.slice G.T p G.ct)
  have hl : ({ s with tr := s.tr.take p } : SS).tr.length = p := by
    show (s.tr.take p).length = p
    rw [List.length_take]
    omega
  have hsb : Blk (w.setCell ⟨b, 8, none⟩ (.slice G.T p G.ct)) b 68 (sCells n { s with tr := s.tr.take p } G) := by
    have h1 := h.sb.set_ 8 (.slice G.T p G.ct)
    have e : (sCells n s G).setIfInBounds 8 (.slice G.T p G.ct) = sCells n { s with tr := s.tr.take p } G := by
      unfold sCells
      rw [hl]
      rfl
    rwa [e] at h1
  have hrow : (w.setCell ⟨b, 8, none⟩ (.slice G.T p G.ct)).ownsRow base 3 1 (.slice G.T ({ s with tr := s.tr.take p } : SS).tr.length G.ct) ({ s with tr := s.tr.take p } : SS).tr.length (i64s (SS.lits { s with tr := s.tr.take p })) := by
    rw [hl]
    have h1 := row_keep (own_take h.tr hp) fun k e => hk k _ (h.tro k (by rw [← e]; cases G.T <;> rfl)) (by simp)
    have e : (i64s s.lits).take p = i64s (SS.lits { s with tr := s.tr.take p }) := by simp [i64s, natV, SS.lits, List.map_take]
    rwa [e] at h1
  have hro : ∀ k, (Value.slice G.T ({ s with tr := s.tr.take p } : SS).tr.length G.ct).ownBlock = some k → o k = some .tr := fun k e => h.tro k (by rw [← e]; cases G.T <;> rfl)
  exact ⟨hsb, h.so, h.v.keep (hk _ _ h.v.own (by simp)) rfl, h.l.keep (hk _ _ h.l.own (by simp)) rfl, h.r.keep (hk _ _ h.r.own (by simp)) rfl, h.ot.keep (hk _ _ h.ot.own (by simp)) rfl, h.wt.keep (hk _ _ h.wt.own (by simp)) rfl, hrow, hro, row_keep h.lm fun k e => hk _ _ (h.lmo k e) (by simp), h.lmo, row_keep h.cs fun k e => hk _ _ (h.cso k e) (by simp), h.cso, h.csl, fun i c A h1 h2 => cl_keep (h.cl i c A h1 h2) hs fun k e => hk _ _ e (by simp), h.mp.same (hk _ _ h.mpo (by simp)), h.mpo, fun x => row_keep (h.ur x) fun k e => hk _ _ (h.uro x k e) (by simp), h.uro, h.uz, fun k lb e => ⟨(h.ol k lb e).1, Nat.lt_of_lt_of_le (h.ol k lb e).2 hs⟩⟩
theorem SMem.cut_lm (h : SMem w base b n s G o) {p : Nat} (hp : p ≤ s.lims.length) : SMem (w.setCell ⟨b, 10, none⟩ (.slice G.L p G.cl)) base b n { s with lims := s.lims.take p } G o := by
  have hk := lab_set (w := w) (i := 10) (u := .slice G.L p G.cl) h.so
  have hs := set_size (w := w) b 10 (.slice G.L p G.cl)
  have hl : ({ s with lims := s.lims.take p } : SS).lims.length = p := by
    show (s.lims.take p).length = p
    rw [List.length_take]
    omega
  have hsb : Blk (w.setCell ⟨b, 10, none⟩ (.slice G.L p G.cl)) b 68 (sCells n { s with lims := s.lims.take p } G) := by
    have h1 := h.sb.set_ 10 (.slice G.L p G.cl)
    have e : (sCells n s G).setIfInBounds 10 (.slice G.L p G.cl) = sCells n { s with lims := s.lims.take p } G := by
      unfold sCells
      rw [hl]
      rfl
    rwa [e] at h1
  have hrow : (w.setCell ⟨b, 10, none⟩ (.slice G.L p G.cl)).ownsRow base 3 1 (.slice G.L ({ s with lims := s.lims.take p } : SS).lims.length G.cl) ({ s with lims := s.lims.take p } : SS).lims.length (natV (s.lims.take p)) := by
    rw [hl]
    have h1 := row_keep (own_take h.lm hp) fun k e => hk k _ (h.lmo k (by rw [← e]; cases G.L <;> rfl)) (by simp)
    have e : (natV s.lims).take p = natV (s.lims.take p) := by simp [i64s, natV, SS.lits, List.map_take]
    rwa [e] at h1
  have hro : ∀ k, (Value.slice G.L ({ s with lims := s.lims.take p } : SS).lims.length G.cl).ownBlock = some k → o k = some .lim := fun k e => h.lmo k (by rw [← e]; cases G.L <;> rfl)
  exact ⟨hsb, h.so, h.v.keep (hk _ _ h.v.own (by simp)) rfl, h.l.keep (hk _ _ h.l.own (by simp)) rfl, h.r.keep (hk _ _ h.r.own (by simp)) rfl, h.ot.keep (hk _ _ h.ot.own (by simp)) rfl, h.wt.keep (hk _ _ h.wt.own (by simp)) rfl, row_keep h.tr fun k e => hk _ _ (h.tro k e) (by simp), h.tro, hrow, hro, row_keep h.cs fun k e => hk _ _ (h.cso k e) (by simp), h.cso, h.csl, fun i c A h1 h2 => cl_keep (h.cl i c A h1 h2) hs fun k e => hk _ _ e (by simp), h.mp.same (hk _ _ h.mpo (by simp)), h.mpo, fun x => row_keep (h.ur x) fun k e => hk _ _ (h.uro x k e) (by simp), h.uro, h.uz, fun k lb e => ⟨(h.ol k lb e).1, Nat.lt_of_lt_of_le (h.ol k lb e).2 hs⟩⟩

/-- What back leaves. -/
def BackPost (w : World) (base b n : Nat) (s : SS) (G : SG) (o : Owns) (lv p : Nat) (e : Ending) (w' : World) : Prop :=
  e = .returned (.tuple #[]) ∧ ∃ G', SMem w' base b n (s.back lv p) G' o ∧ SRel n (s.back lv p) G' ∧ G'.und = G.und ∧ G'.U = G.U ∧ (G'.dead = G.dead ∧ G'.un = G.un) ∧ SFr o w w'
/-- In back's loop: j literals are taken back. -/
structure BackL (w wr : World) (base b n : Nat) (s : SS) (G : SG) (o : Owns) (p j : Nat) (G' : SG) : Prop where
  m : SMem wr base b n s G' o
  vv : ∀ v : Nat, 1 ≤ v → v ≤ n → G'.V[v]? = some (valL (s.lits.take p ++ s.lits.drop (p + j)) v)
  rv : ∀ (i : Nat) (x r : Int), i < p → s.tr[i]? = some (x, r) → G'.RV[x.natAbs]? = some r
  lv : G'.LV = G.LV
  und : G'.und = G.und
  U : G'.U = G.U
  dead : G'.dead = G.dead ∧ G'.un = G.un
  T : G'.T = G.T
  ct : G'.ct = G.ct
  L : G'.L = G.L
  fr : SFr o w wr
theorem mem_rest {p j : Nat} {x y : Int} (hi : Inv n F s) (hx : s.lits[p + j]? = some x) : y ∈ s.lits.take p ++ s.lits.drop (p + (j + 1)) ↔ y ∈ s.lits.take p ++ s.lits.drop (p + j) ∧ y ≠ x := by
  have hl := (List.getElem?_eq_some_iff.1 hx).1
  have e : s.lits.drop (p + j) = x :: s.lits.drop (p + (j + 1)) := by
    rw [List.drop_eq_getElem_cons hl]
    congr 1
    exact Option.some.inj ((List.getElem?_eq_getElem hl).symm.trans hx)
  have hn : ∀ i, s.lits[i]? = some x → i = p + j := fun i hi' => nodup_inj hi.tnd hi' hx rfl
  rw [e]
  simp only [List.mem_append, List.mem_cons]
  constructor
  · rintro (h1 | h1)
    · refine ⟨.inl h1, fun e2 => ?_⟩
      subst e2
      obtain ⟨i, h2, h3⟩ := mem_take_iff.1 h1
      have := hn i h3
      omega
    · refine ⟨.inr (.inr h1), fun e2 => ?_⟩
      subst e2
      obtain ⟨i, hi'⟩ := List.getElem?_of_mem h1
      rw [List.getElem?_drop] at hi'
      have := hn _ hi'
      omega
  · rintro ⟨h1 | h1 | h1, h2⟩
    · exact .inl h1
    · exact absurd h1 h2
    · exact .inr h1
theorem BackL.step {wr : World} {p j : Nat} {G1 : SG} (h : BackL w wr base b n s G o p j G1) (hi : Inv n F s) {x u : Int} (hx : s.lits[p + j]? = some x) {w2 : World}
    (hm : SMem w2 base b n s { G1 with OV := G1.OV.set x.natAbs u, V := G1.V.set x.natAbs 0, RV := G1.RV.set x.natAbs (-1) } o) (hf : SFr o w w2) : BackL w w2 base b n s G o p (j + 1) { G1 with OV := G1.OV.set x.natAbs u, V := G1.V.set x.natAbs 0, RV := G1.RV.set x.natAbs (-1) } := by
  have hxr := hi.trng x (List.mem_of_getElem? hx)
  refine ⟨hm, fun v h1 h2 => ?_, fun i y r h1 h2 => ?_, h.lv, h.und, h.U, h.dead, h.T, h.ct, h.L, hf⟩
  · show (G1.V.set x.natAbs 0)[v]? = _
    have hmem := fun y => mem_rest (y := y) hi hx
    by_cases e : x.natAbs = v
    · rw [e, set_at _ (by rw [h.m.v.len]; omega)]
      congr 1
      unfold valL
      have hnx : ∀ y : Int, y.natAbs = v → y ∉ s.lits.take p ++ s.lits.drop (p + (j + 1)) := fun y hy hmy => by
        obtain ⟨h3, h4⟩ := (hmem y).1 hmy
        have h5 : y ∈ s.lits := by
          rcases List.mem_append.1 h3 with h6 | h6
          · exact List.mem_of_mem_take h6
          · exact List.mem_of_mem_drop h6
        have e2 : y = -x := by omega
        rw [e2] at h5
        exact hi.not_both (List.mem_of_getElem? hx) h5
      rw [if_neg (hnx _ (by omega)), if_neg (hnx _ (by omega))]
    · rw [set_ne e, h.vv v h1 h2]
      congr 1
      unfold valL
      have h3 : ((v : Int) ∈ s.lits.take p ++ s.lits.drop (p + (j + 1))) ↔ (v : Int) ∈ s.lits.take p ++ s.lits.drop (p + j) := by
        rw [hmem]
        exact ⟨fun h => h.1, fun h => ⟨h, by omega⟩⟩
      have h4 : (-(v : Int) ∈ s.lits.take p ++ s.lits.drop (p + (j + 1))) ↔ -(v : Int) ∈ s.lits.take p ++ s.lits.drop (p + j) := by
        rw [hmem]
        exact ⟨fun h => h.1, fun h => ⟨h, by omega⟩⟩
      simp only [h3, h4]
  · show (G1.RV.set x.natAbs (-1))[y.natAbs]? = some r
    rw [set_ne, h.rv i y r h1 h2]
    intro e
    have := nodup_inj hi.tnd hx (lits_get.2 ⟨r, h2⟩) e
    omega

set_option maxRecDepth 100000 in
set_option maxHeartbeats 4000000 in
theorem back_any (h : SMem w base b n s G o) (hr : SRel n s G) (hi : Inv n F s) (hn : n ≤ 1000000) {lv p : Nat} (hp : s.lims[lv]? = some p) :
    Calls Try.prog 56 #[.pointer (some ⟨b, 0, none⟩), .int .i64 (lv : Int)] w (BackPost w base b n s G o lv p) := by
  have hlv := (List.getElem?_eq_some_iff.1 hp).1
  have hpl := hi.llt p (List.mem_of_getElem? hp)
  have hlen := hi.len
  obtain ⟨qt, eT, hct⟩ := own_some h.tr (by omega)
  obtain ⟨ql, eL, hcl⟩ := own_some h.lm (by omega)
  have hlc : w.cell? ⟨ql, 0 + lv, none⟩ = some (.int .i64 (p : Int)) := by
    obtain ⟨q, p', e, _, hc⟩ := Vals.of_own h.lm lv (.int .i64 (p : Int)) (by unfold natV; rw [List.getElem?_map, hp]; rfl)
    rw [eL] at e
    cases e
    exact hc
  have c10 : w.cell? ⟨b, 10, none⟩ = some (.slice (some ⟨ql, 0, none⟩) s.lims.length G.cl) := (h.sb.cell 10).trans (by rw [← eL]; rfl)
  have c8 : w.cell? ⟨b, 8, none⟩ = some (.slice (some ⟨qt, 0, none⟩) s.tr.length G.ct) := (h.sb.cell 8).trans (by rw [← eT]; rfl)
  rw [Nat.zero_add] at hlc
  have hlv' : (lv : Int) < (s.lims.length : Int) := by omega
  have HSF := Lib.hid (fun W => slice_from W qt p s.tr.length G.ct hpl hct)
  have hsf := fun W => slice_from W qt p s.tr.length G.ct hpl hct
  have H0 : Hid (BackL w w base b n s G o p 0 G) := Lib.hid ⟨h, fun v h1 h2 => by rw [Nat.add_zero, List.take_append_drop]; exact hr.vv v h1 h2, fun i x r _ => hr.rv i x r, rfl, rfl, rfl, ⟨rfl, rfl⟩, rfl, rfl, rfl, SFr.refl _ _⟩
  have HR := Lib.hid hr
  have HI := Lib.hid hi
  have HT := Lib.hid eT
  have HLm := Lib.hid eL
  have HP := Lib.hid hp
  have HCT := Lib.hid hct
  have HCL := Lib.hid hcl
  clear h hr hi eT eL hp hct hcl HSF
  go_enter Try.func56, Try.ntmps56
  go_wp2_with fail
  clear c10 c8 hlc hsf
  go_loopw [29] (fun iv wr => ∃ (j : Nat) (G1 : SG), j ≤ s.tr.length - p ∧ iv = .int .i64 (j : Int) ∧ BackL w wr base b n s G o p j G1) (fun iv _ => s.tr.length - p - (intOf iv).toNat)
  case atStart => exact ⟨0, G, Nat.zero_le _, rfl, H0.out⟩
  case round =>
    obtain ⟨j, G1, hj, rfl, hB⟩ := hrel
    have HB := Lib.hid hB
    clear hB H0
    by_cases hlt : j < s.tr.length - p
    · have hlt' : (j : Int) < ((s.tr.length - p : Nat) : Int) := by omega
      obtain ⟨x, hx⟩ : ∃ x, s.lits[p + j]? = some x := ⟨_, List.getElem?_eq_getElem (by rw [HI.out.lits_len]; omega)⟩
      have hxr := HI.out.trng x (List.mem_of_getElem? hx)
      have hcx : wr.cell? ⟨qt, p + j, none⟩ = some (.int .i64 x) := by
        obtain ⟨q, p', e, _, hc⟩ := Vals.of_own HB.out.m.tr (p + j) (.int .i64 x) (i64s_at hx)
        rw [HB.out.T, HT.out] at e
        cases e
        rw [Nat.zero_add] at hc
        exact hc
      have HX := Lib.hid hx
      have HAB := Lib.hid (abs_any x wr (by omega))
      obtain ⟨k, hk⟩ : ∃ k : Nat, x.natAbs = k := ⟨_, rfl⟩
      rw [hk] at HAB
      have hkn : (k : Int) < (n : Int) + 1 := by omega
      have hkn' : k ≤ n := by omega
      have HK := Lib.hid hk
      clear hx hk
      go_wp2_with fail
      refine HAB.out.mono ?_
      rintro e w1 ⟨rfl, hw⟩
      have hw' := hw.symm
      subst hw'
      clear hw HAB hcx
      obtain ⟨y0, hy0⟩ := HB.out.m.v.ex (i := k) hkn'
      have HY := Lib.hid hy0
      clear hy0
      go_wp2_with fail
      refine wp_region_noPanic ?_
      refine wp_region_seqG (fun W => W.cell? ⟨G1.vb, k, none⟩ = some (.int .i64 y0)) (fun W => W.cell? ⟨b, 6, none⟩ = some (.slice (some ⟨G1.ob, 0, none⟩) (n + 1) (n + 1)) ∧ W.cell? ⟨b, 3, none⟩ = some (.slice (some ⟨G1.vb, 0, none⟩) (n + 1) (n + 1)) ∧ W.cell? ⟨b, 5, none⟩ = some (.slice (some ⟨G1.rb, 0, none⟩) (n + 1) (n + 1))) [0, 4, 5, 9, 10, 14, 15, 19, 1, 2, 3, 6, 7, 8, 11, 12, 13, 16, 17, 18, 20, 21, 22, 23, 24, 25, 26, 27] [21] [0, 1, 2, 3, 4, 5, 6, 7, 8, 9, 10, 11, 12, 13, 14, 15, 16, 17, 18, 19, 20, 22, 24, 26] [25, 27] [] (by kernel_rfl) (by kernel_rfl) rfl (by kernel_rfl) (by kernel_rfl) (by kernel_rfl) (fun _ _ _ _ _ h => h) ?_ (fun hSS hRR => ?_)
      · exact ⟨HB.out.m.v.cell HY.out, HB.out.m.sb.cell 6, HB.out.m.sb.cell 3, HB.out.m.sb.cell 5⟩
      clear hSS hRR
      have HM2 := Lib.hid (HB.out.m.after (stepD1 wr))
      have HF2 := Lib.hid (HB.out.fr.trans (SFr.of_below (stepD1 wr) o) (Olds.refl _ _))
      generalize wr.drew = w2 at HM2 HF2 ⊢
      obtain ⟨u1, hu1⟩ := HM2.out.ot.ex (i := k) hkn'
      have d1 := HM2.out.ot.cell hu1
      have f1 := HM2.out.ot.blk.frozen k
      have HM3 := Lib.hid (HM2.out.set_ot k y0)
      have HF3 := Lib.hid (HF2.out.set (i := k) (.int .i64 y0) (.inr (show o G1.ob ≠ none by rw [HM2.out.ot.own]; simp)))
      clear hu1
      (refine wpSeqG_movR rfl rfl rfl ?_; intro o ho; simp only [List.getElem?_toArray, List.getElem?_cons_zero, List.getElem?_cons_succ, Option.some.injEq] at ho; subst ho; refine ⟨?_, Or.inl ⟨by rfl, fun W hSW => ?_⟩, ?_⟩; rotate_left; (focus (go_simp; first | done | with_reducible rfl)); try simp only [Act.put, List.setIfInBounds_toArray, List.set_cons_zero, List.set_cons_succ])
      (refine wpSeqG_movR rfl rfl rfl ?_; intro o ho; simp only [List.getElem?_toArray, List.getElem?_cons_zero, List.getElem?_cons_succ, Option.some.injEq] at ho; subst ho; refine ⟨?_, Or.inl ⟨by rfl, fun W hSW => ?_⟩, ?_⟩; rotate_left; (focus (go_simp; first | done | with_reducible rfl)); try simp only [Act.put, List.setIfInBounds_toArray, List.set_cons_zero, List.set_cons_succ])
      (refine wpSeqG_movR rfl rfl rfl ?_; intro o ho; simp only [List.getElem?_toArray, List.getElem?_cons_zero, List.getElem?_cons_succ, Option.some.injEq] at ho; subst ho; refine ⟨?_, Or.inl ⟨by rfl, fun W hSW => ?_⟩, ?_⟩; rotate_left; (focus (go_simp; first | done | with_reducible rfl)); try simp only [Act.put, List.setIfInBounds_toArray, List.set_cons_zero, List.set_cons_succ])
      (refine wpSeqG_movR rfl rfl rfl ?_; intro o ho; simp only [List.getElem?_toArray, List.getElem?_cons_zero, List.getElem?_cons_succ, Option.some.injEq] at ho; subst ho; refine ⟨?_, Or.inl ⟨by rfl, fun W hSW => ?_⟩, ?_⟩; rotate_left; (focus (go_simp; first | done | with_reducible rfl)); try simp only [Act.put, List.setIfInBounds_toArray, List.set_cons_zero, List.set_cons_succ])
      (refine wpSeqG_movR rfl rfl rfl ?_; intro o ho; simp only [List.getElem?_toArray, List.getElem?_cons_zero, List.getElem?_cons_succ, Option.some.injEq] at ho; subst ho; refine ⟨?_, Or.inl ⟨by rfl, fun W hSW => ?_⟩, ?_⟩; rotate_left; (focus (go_simp; first | done | with_reducible rfl)); try simp only [Act.put, List.setIfInBounds_toArray, List.set_cons_zero, List.set_cons_succ])
      (refine wpSeqG_movR rfl rfl rfl ?_; intro o ho; simp only [List.getElem?_toArray, List.getElem?_cons_zero, List.getElem?_cons_succ, Option.some.injEq] at ho; subst ho; refine ⟨?_, Or.inl ⟨by rfl, fun W hSW => ?_⟩, ?_⟩; rotate_left; (focus (go_simp; first | done | with_reducible rfl)); try simp only [Act.put, List.setIfInBounds_toArray, List.set_cons_zero, List.set_cons_succ])
      (refine wpSeqG_movR rfl rfl rfl ?_; intro o ho; simp only [List.getElem?_toArray, List.getElem?_cons_zero, List.getElem?_cons_succ, Option.some.injEq] at ho; subst ho; refine ⟨?_, Or.inl ⟨by rfl, fun W hSW => ?_⟩, ?_⟩; rotate_left; (focus (go_simp; first | done | with_reducible rfl)); try simp only [Act.put, List.setIfInBounds_toArray, List.set_cons_zero, List.set_cons_succ])
      (refine wpSeqG_movR rfl rfl rfl ?_; intro o ho; simp only [List.getElem?_toArray, List.getElem?_cons_zero, List.getElem?_cons_succ, Option.some.injEq] at ho; subst ho; refine ⟨?_, Or.inl ⟨by rfl, fun W hSW => ?_⟩, ?_⟩; rotate_left; (focus (go_simp; first | done | with_reducible rfl)); try simp only [Act.put, List.setIfInBounds_toArray, List.set_cons_zero, List.set_cons_succ])
      (refine wpSeqG_movR rfl rfl rfl ?_; intro o ho; simp only [List.getElem?_toArray, List.getElem?_cons_zero, List.getElem?_cons_succ, Option.some.injEq] at ho; subst ho; refine ⟨?_, Or.inl ⟨by rfl, fun W hSW => ?_⟩, ?_⟩; rotate_left; (focus (go_simp; first | done | with_reducible rfl)); try simp only [Act.put, List.setIfInBounds_toArray, List.set_cons_zero, List.set_cons_succ])
      (refine wpSeqG_movR rfl rfl rfl ?_; intro o ho; simp only [List.getElem?_toArray, List.getElem?_cons_zero, List.getElem?_cons_succ, Option.some.injEq] at ho; subst ho; refine ⟨?_, Or.inl ⟨by rfl, fun W hSW => ?_⟩, ?_⟩; rotate_left; (focus (go_simp; first | done | with_reducible rfl)); try simp only [Act.put, List.setIfInBounds_toArray, List.set_cons_zero, List.set_cons_succ])
      (refine wpSeqG_movR rfl rfl rfl ?_; intro o ho; simp only [List.getElem?_toArray, List.getElem?_cons_zero, List.getElem?_cons_succ, Option.some.injEq] at ho; subst ho; refine ⟨?_, Or.inl ⟨by rfl, fun W hSW => ?_⟩, ?_⟩; rotate_left; (focus (go_simp; first | done | with_reducible rfl)); try simp only [Act.put, List.setIfInBounds_toArray, List.set_cons_zero, List.set_cons_succ])
      (refine wpSeqG_movR rfl rfl rfl ?_; intro o ho; simp only [List.getElem?_toArray, List.getElem?_cons_zero, List.getElem?_cons_succ, Option.some.injEq] at ho; subst ho; refine ⟨?_, Or.inl ⟨by rfl, fun W hSW => ?_⟩, ?_⟩; rotate_left; (focus (go_simp; first | done | with_reducible rfl)); try simp only [Act.put, List.setIfInBounds_toArray, List.set_cons_zero, List.set_cons_succ])
      (refine wpSeqG_movR rfl rfl rfl ?_; intro o ho; simp only [List.getElem?_toArray, List.getElem?_cons_zero, List.getElem?_cons_succ, Option.some.injEq] at ho; subst ho; refine ⟨?_, Or.inl ⟨by rfl, fun W hSW => ?_⟩, ?_⟩; rotate_left; (focus (go_simp; first | done | with_reducible rfl)); try simp only [Act.put, List.setIfInBounds_toArray, List.set_cons_zero, List.set_cons_succ])
      (refine wpSeqG_movR rfl rfl rfl ?_; intro o ho; simp only [List.getElem?_toArray, List.getElem?_cons_zero, List.getElem?_cons_succ, Option.some.injEq] at ho; subst ho; refine ⟨?_, Or.inl ⟨by rfl, fun W hSW => ?_⟩, ?_⟩; rotate_left; (focus (go_simp; first | done | with_reducible rfl)); try simp only [Act.put, List.setIfInBounds_toArray, List.set_cons_zero, List.set_cons_succ])
      (refine wpSeqG_movR rfl rfl rfl ?_; intro o ho; simp only [List.getElem?_toArray, List.getElem?_cons_zero, List.getElem?_cons_succ, Option.some.injEq] at ho; subst ho; refine ⟨?_, Or.inl ⟨by rfl, fun W hSW => ?_⟩, ?_⟩; rotate_left; (focus (go_simp; first | done | with_reducible rfl)); try simp only [Act.put, List.setIfInBounds_toArray, List.set_cons_zero, List.set_cons_succ])
      (refine wpSeqG_movR rfl rfl rfl ?_; intro o ho; simp only [List.getElem?_toArray, List.getElem?_cons_zero, List.getElem?_cons_succ, Option.some.injEq] at ho; subst ho; refine ⟨?_, Or.inl ⟨by rfl, fun W hSW => ?_⟩, ?_⟩; rotate_left; (focus (go_simp; first | done | with_reducible rfl)); try simp only [Act.put, List.setIfInBounds_toArray, List.set_cons_zero, List.set_cons_succ])
      (refine wpSeqG_movR rfl rfl rfl ?_; intro o ho; simp only [List.getElem?_toArray, List.getElem?_cons_zero, List.getElem?_cons_succ, Option.some.injEq] at ho; subst ho; refine ⟨?_, Or.inl ⟨by rfl, fun W hSW => ?_⟩, ?_⟩; rotate_left; (focus (go_simp; first | done | with_reducible rfl)); try simp only [Act.put, List.setIfInBounds_toArray, List.set_cons_zero, List.set_cons_succ])
      (refine wpSeqG_movR rfl rfl rfl ?_; intro o ho; simp only [List.getElem?_toArray, List.getElem?_cons_zero, List.getElem?_cons_succ, Option.some.injEq] at ho; subst ho; refine ⟨?_, Or.inl ⟨by rfl, fun W hSW => ?_⟩, ?_⟩; rotate_left; (focus (go_simp; first | done | with_reducible rfl)); try simp only [Act.put, List.setIfInBounds_toArray, List.set_cons_zero, List.set_cons_succ])
      (refine wpSeqG_movR rfl rfl rfl ?_; intro o ho; simp only [List.getElem?_toArray, List.getElem?_cons_zero, List.getElem?_cons_succ, Option.some.injEq] at ho; subst ho; refine ⟨?_, Or.inl ⟨by rfl, fun W hSW => ?_⟩, ?_⟩; rotate_left; (focus (go_simp; first | done | with_reducible rfl)); try simp only [Act.put, List.setIfInBounds_toArray, List.set_cons_zero, List.set_cons_succ])
      (refine wpSeqG_movR rfl rfl rfl ?_; intro o ho; simp only [List.getElem?_toArray, List.getElem?_cons_zero, List.getElem?_cons_succ, Option.some.injEq] at ho; subst ho; refine ⟨?_, Or.inl ⟨by rfl, fun W hSW => ?_⟩, ?_⟩; rotate_left; (focus (go_simp; first | done | with_reducible rfl)); try simp only [Act.put, List.setIfInBounds_toArray, List.set_cons_zero, List.set_cons_succ])
      (refine wpSeqG_movR rfl rfl rfl ?_; intro o ho; simp only [List.getElem?_toArray, List.getElem?_cons_zero, List.getElem?_cons_succ, Option.some.injEq] at ho; subst ho; refine ⟨?_, Or.inl ⟨by rfl, fun W hSW => ?_⟩, ?_⟩; rotate_left; (focus (go_simp; first | done | with_reducible rfl)); try simp only [Act.put, List.setIfInBounds_toArray, List.set_cons_zero, List.set_cons_succ])
      (refine wpSeqG_mov rfl rfl ?_; intro o ho; simp only [List.getElem?_toArray, List.getElem?_cons_zero, List.getElem?_cons_succ, Option.some.injEq] at ho; subst ho; refine ⟨?_, Or.inl ⟨by rfl, fun W hSW => ?_⟩, ?_⟩; rotate_left; (focus (go_simp; first | done | with_reducible rfl)); try simp only [Act.put, List.setIfInBounds_toArray, List.set_cons_zero, List.set_cons_succ])
      (refine wpSeqG_movR rfl rfl rfl ?_; intro o ho; simp only [List.getElem?_toArray, List.getElem?_cons_zero, List.getElem?_cons_succ, Option.some.injEq] at ho; subst ho; refine ⟨?_, Or.inl ⟨by rfl, fun W hSW => ?_⟩, ?_⟩; rotate_left; (focus (go_simp; first | done | with_reducible rfl)); try simp only [Act.put, List.setIfInBounds_toArray, List.set_cons_zero, List.set_cons_succ])
      (refine wpSeqG_fix rfl rfl rfl ?_; intro o ho; simp only [List.getElem?_toArray, List.getElem?_cons_zero, List.getElem?_cons_succ, Option.some.injEq] at ho; subst ho; intro K hK)
      go_simp
      (refine hK.out _ _ (fun _ _ => HM3.out.v.cell HY.out) (fun _ _ => ⟨HM3.out.sb.cell 6, HM3.out.sb.cell 3, HM3.out.sb.cell 5⟩) ?_; clear hK K; try simp only [Act.put, List.setIfInBounds_toArray, List.set_cons_zero, List.set_cons_succ])
      clear d1 f1 HM2 HF2
      generalize w2.setCell ⟨G1.ob, k, none⟩ (.int .i64 y0) = w3 at HM3 HF3 ⊢
      obtain ⟨u2, hu2⟩ := HM3.out.v.ex (i := k) hkn'
      have d2 := HM3.out.v.cell hu2
      have f2 := HM3.out.v.blk.frozen k
      have HM4 := Lib.hid (HM3.out.set_v k 0)
      have HF4 := Lib.hid (HF3.out.set (i := k) (.int .i64 0) (.inr (show o G1.vb ≠ none by rw [HM3.out.v.own]; simp)))
      clear hu2
      (refine wpSeqG_movR rfl rfl rfl ?_; intro o ho; simp only [List.getElem?_toArray, List.getElem?_cons_zero, List.getElem?_cons_succ, Option.some.injEq] at ho; subst ho; refine ⟨?_, Or.inl ⟨by rfl, fun W hSW => ?_⟩, ?_⟩; rotate_left; (focus (go_simp; first | done | with_reducible rfl)); try simp only [Act.put, List.setIfInBounds_toArray, List.set_cons_zero, List.set_cons_succ])
      (refine wpSeqG_fix rfl rfl rfl ?_; intro o ho; simp only [List.getElem?_toArray, List.getElem?_cons_zero, List.getElem?_cons_succ, Option.some.injEq] at ho; subst ho; intro K hK)
      go_simp
      (refine hK.out _ _ (fun h => by simp at h) (fun _ _ => ⟨HM4.out.sb.cell 6, HM4.out.sb.cell 3, HM4.out.sb.cell 5⟩) ?_; clear hK K; try simp only [Act.put, List.setIfInBounds_toArray, List.set_cons_zero, List.set_cons_succ])
      clear d2 f2 HM3 HF3
      generalize w3.setCell ⟨G1.vb, k, none⟩ (.int .i64 0) = w4 at HM4 HF4 ⊢
      obtain ⟨u3, hu3⟩ := HM4.out.r.ex (i := k) hkn'
      have d3 := HM4.out.r.cell hu3
      have f3 := HM4.out.r.blk.frozen k
      have HM5 := Lib.hid (HM4.out.set_r k (-1))
      have HF5 := Lib.hid (HF4.out.set (i := k) (.int .i64 (-1)) (.inr (show o G1.rb ≠ none by rw [HM4.out.r.own]; simp)))
      clear hu3
      (refine wpSeqG_movR rfl rfl rfl ?_; intro o ho; simp only [List.getElem?_toArray, List.getElem?_cons_zero, List.getElem?_cons_succ, Option.some.injEq] at ho; subst ho; refine ⟨?_, Or.inl ⟨by rfl, fun W hSW => ?_⟩, ?_⟩; rotate_left; (focus (go_simp; first | done | with_reducible rfl)); try simp only [Act.put, List.setIfInBounds_toArray, List.set_cons_zero, List.set_cons_succ])
      (refine wpSeqG_fix rfl rfl rfl ?_; intro o ho; simp only [List.getElem?_toArray, List.getElem?_cons_zero, List.getElem?_cons_succ, Option.some.injEq] at ho; subst ho; intro K hK)
      go_simp
      (refine hK.out _ _ (fun h => by simp at h) (fun _ _ => ⟨HM5.out.sb.cell 6, HM5.out.sb.cell 3, HM5.out.sb.cell 5⟩) ?_; clear hK K; try simp only [Act.put, List.setIfInBounds_toArray, List.set_cons_zero, List.set_cons_succ])
      clear d3 f3 HM4 HF4
      generalize w4.setCell ⟨G1.rb, k, none⟩ (.int .i64 (-1)) = w5 at HM5 HF5 ⊢
      refine wpSeqG_done ?_
      go_wp2_with fail
      go_roundw
      case rel =>
        have hm := HM5.out
        rw [← HK.out] at hm
        exact ⟨_, _, .int .i64 ((j + 1 : Nat) : Int), ⟨j + 1, by omega, rfl, _, HB.out.step HI.out HX.out hm HF5.out⟩, rfl, rfl, by go_num⟩
      case measure => simp [intOf]; omega
    · have hlt' : ¬ (j : Int) < ((s.tr.length - p : Nat) : Int) := by omega
      have hjE : j = s.tr.length - p := by omega
      have hvv : ∀ v : Nat, 1 ≤ v → v ≤ n → G1.V[v]? = some (valL (s.lits.take p) v) := fun v h1 h2 => by
        have h3 := HB.out.vv v h1 h2
        rw [List.drop_eq_nil_of_le (by rw [HI.out.lits_len]; omega), List.append_nil] at h3
        exact h3
      have HVV := Lib.hid hvv
      have hst := fun W => slice_to W qt p s.tr.length G1.ct (by rw [HB.out.ct]; have := HCT.out; omega)
      have hst2 := fun W => slice_to W ql lv s.lims.length G1.cl (by have := own_cap HB.out.m.lm; omega)
      have eL1 : G1.L = some ⟨ql, 0, none⟩ := by rw [HB.out.L, HLm.out]
      have eT1 : G1.T = some ⟨qt, 0, none⟩ := by rw [HB.out.T, HT.out]
      have EL1 := Lib.hid eL1
      have ET1 := Lib.hid eT1
      clear hvv hjE eL1 eT1
      go_wp2_with fail
      refine wp_region_noPanic ?_
      refine wp_region_seqG (fun W => W.cell? ⟨b, 8, none⟩ = some (.slice (some ⟨qt, 0, none⟩) s.tr.length G1.ct) ∧ W.cell? ⟨b, 10, none⟩ = some (.slice (some ⟨ql, 0, none⟩) s.lims.length G1.cl)) (fun _ => True) [0, 1, 2, 3, 7, 9, 13, 15, 4, 5, 6, 8, 10, 11, 12, 14, 16, 17, 18, 19, 20, 21, 22, 23, 24] [6, 12] [0, 1, 2, 3, 4, 5, 7, 8, 9, 10, 11, 13, 14, 15, 17, 20, 23] [18, 21] [] (by kernel_rfl) (by kernel_rfl) rfl (by kernel_rfl) (by kernel_rfl) (by kernel_rfl) (fun _ _ _ _ _ h => h) ?_ (fun hSS hRR => ?_)
      · exact ⟨⟨(HB.out.m.sb.cell 8).trans (by rw [← ET1.out]; rfl), (HB.out.m.sb.cell 10).trans (by rw [← EL1.out]; rfl)⟩, trivial⟩
      clear hSS hRR
      have HM2 := Lib.hid (HB.out.m.after (stepD1 wr))
      have HF2 := Lib.hid (HB.out.fr.trans (SFr.of_below (stepD1 wr) o) (Olds.refl _ _))
      generalize wr.drew = w2 at HM2 HF2 ⊢
      (refine wpSeqG_movR rfl rfl rfl ?_; intro o ho; simp only [List.getElem?_toArray, List.getElem?_cons_zero, List.getElem?_cons_succ, Option.some.injEq] at ho; subst ho; refine ⟨?_, Or.inl ⟨by rfl, fun W hSW => ?_⟩, ?_⟩; rotate_left; (focus (go_simp; first | done | with_reducible rfl)); try simp only [Act.put, List.setIfInBounds_toArray, List.set_cons_zero, List.set_cons_succ])
      (refine wpSeqG_movR rfl rfl rfl ?_; intro o ho; simp only [List.getElem?_toArray, List.getElem?_cons_zero, List.getElem?_cons_succ, Option.some.injEq] at ho; subst ho; refine ⟨?_, Or.inl ⟨by rfl, fun W hSW => ?_⟩, ?_⟩; rotate_left; (focus (go_simp; first | done | with_reducible rfl)); try simp only [Act.put, List.setIfInBounds_toArray, List.set_cons_zero, List.set_cons_succ])
      (refine wpSeqG_movR rfl rfl rfl ?_; intro o ho; simp only [List.getElem?_toArray, List.getElem?_cons_zero, List.getElem?_cons_succ, Option.some.injEq] at ho; subst ho; refine ⟨?_, Or.inl ⟨by rfl, fun W hSW => ?_⟩, ?_⟩; rotate_left; (focus (go_simp; first | done | with_reducible rfl)); try simp only [Act.put, List.setIfInBounds_toArray, List.set_cons_zero, List.set_cons_succ])
      (refine wpSeqG_movR rfl rfl rfl ?_; intro o ho; simp only [List.getElem?_toArray, List.getElem?_cons_zero, List.getElem?_cons_succ, Option.some.injEq] at ho; subst ho; refine ⟨?_, Or.inl ⟨by rfl, fun W hSW => ?_⟩, ?_⟩; rotate_left; (focus (go_simp; first | done | with_reducible rfl)); try simp only [Act.put, List.setIfInBounds_toArray, List.set_cons_zero, List.set_cons_succ])
      (refine wpSeqG_movR rfl rfl rfl ?_; intro o ho; simp only [List.getElem?_toArray, List.getElem?_cons_zero, List.getElem?_cons_succ, Option.some.injEq] at ho; subst ho; refine ⟨?_, Or.inl ⟨by rfl, fun W hSW => ?_⟩, ?_⟩; rotate_left; (focus (go_simp; first | done | with_reducible rfl)); try simp only [Act.put, List.setIfInBounds_toArray, List.set_cons_zero, List.set_cons_succ])
      (refine wpSeqG_movR rfl rfl rfl ?_; intro o ho; simp only [List.getElem?_toArray, List.getElem?_cons_zero, List.getElem?_cons_succ, Option.some.injEq] at ho; subst ho; refine ⟨?_, Or.inl ⟨by rfl, fun W hSW => ?_⟩, ?_⟩; rotate_left; (focus (go_simp; first | done | with_reducible rfl)); try simp only [Act.put, List.setIfInBounds_toArray, List.set_cons_zero, List.set_cons_succ])
      (refine wpSeqG_movR rfl rfl rfl ?_; intro o ho; simp only [List.getElem?_toArray, List.getElem?_cons_zero, List.getElem?_cons_succ, Option.some.injEq] at ho; subst ho; refine ⟨?_, Or.inl ⟨by rfl, fun W hSW => ?_⟩, ?_⟩; rotate_left; (focus (go_simp; first | done | with_reducible rfl)); try simp only [Act.put, List.setIfInBounds_toArray, List.set_cons_zero, List.set_cons_succ])
      (refine wpSeqG_movR rfl rfl rfl ?_; intro o ho; simp only [List.getElem?_toArray, List.getElem?_cons_zero, List.getElem?_cons_succ, Option.some.injEq] at ho; subst ho; refine ⟨?_, Or.inl ⟨by rfl, fun W hSW => ?_⟩, ?_⟩; rotate_left; (focus (go_simp; first | done | with_reducible rfl)); try simp only [Act.put, List.setIfInBounds_toArray, List.set_cons_zero, List.set_cons_succ])
      (refine wpSeqG_movR rfl rfl rfl ?_; intro o ho; simp only [List.getElem?_toArray, List.getElem?_cons_zero, List.getElem?_cons_succ, Option.some.injEq] at ho; subst ho; refine ⟨?_, Or.inl ⟨by rfl, fun W hSW => ?_⟩, ?_⟩; rotate_left; (focus (go_simp; first | done | with_reducible rfl)); try simp only [Act.put, List.setIfInBounds_toArray, List.set_cons_zero, List.set_cons_succ])
      (refine wpSeqG_movR rfl rfl rfl ?_; intro o ho; simp only [List.getElem?_toArray, List.getElem?_cons_zero, List.getElem?_cons_succ, Option.some.injEq] at ho; subst ho; refine ⟨?_, Or.inl ⟨by rfl, fun W hSW => ?_⟩, ?_⟩; rotate_left; (focus (go_simp; first | done | with_reducible rfl)); try simp only [Act.put, List.setIfInBounds_toArray, List.set_cons_zero, List.set_cons_succ])
      (refine wpSeqG_mov rfl rfl ?_; intro o ho; simp only [List.getElem?_toArray, List.getElem?_cons_zero, List.getElem?_cons_succ, Option.some.injEq] at ho; subst ho; refine ⟨?_, Or.inl ⟨by rfl, fun W hSW => ?_⟩, ?_⟩; rotate_left; (focus (go_simp; first | done | with_reducible rfl)); try simp only [Act.put, List.setIfInBounds_toArray, List.set_cons_zero, List.set_cons_succ])
      (refine wpSeqG_movR rfl rfl rfl ?_; intro o ho; simp only [List.getElem?_toArray, List.getElem?_cons_zero, List.getElem?_cons_succ, Option.some.injEq] at ho; subst ho; refine ⟨?_, Or.inl ⟨by rfl, fun W hSW => ?_⟩, ?_⟩; rotate_left; (focus (go_simp; first | done | with_reducible rfl)); try simp only [Act.put, List.setIfInBounds_toArray, List.set_cons_zero, List.set_cons_succ])
      (refine wpSeqG_movR rfl rfl rfl ?_; intro o ho; simp only [List.getElem?_toArray, List.getElem?_cons_zero, List.getElem?_cons_succ, Option.some.injEq] at ho; subst ho; refine ⟨?_, Or.inl ⟨by rfl, fun W hSW => ?_⟩, ?_⟩; rotate_left; (focus (go_simp; first | done | with_reducible rfl)); try simp only [Act.put, List.setIfInBounds_toArray, List.set_cons_zero, List.set_cons_succ])
      (refine wpSeqG_movR rfl rfl rfl ?_; intro o ho; simp only [List.getElem?_toArray, List.getElem?_cons_zero, List.getElem?_cons_succ, Option.some.injEq] at ho; subst ho; refine ⟨?_, Or.inl ⟨by rfl, fun W hSW => ?_⟩, ?_⟩; rotate_left; (focus (go_simp; first | done | with_reducible rfl)); try simp only [Act.put, List.setIfInBounds_toArray, List.set_cons_zero, List.set_cons_succ])
      (refine wpSeqG_mov rfl rfl ?_; intro o ho; simp only [List.getElem?_toArray, List.getElem?_cons_zero, List.getElem?_cons_succ, Option.some.injEq] at ho; subst ho; refine ⟨?_, Or.inl ⟨by rfl, fun W hSW => ?_⟩, ?_⟩; rotate_left; (focus (go_simp; first | done | with_reducible rfl)); try simp only [Act.put, List.setIfInBounds_toArray, List.set_cons_zero, List.set_cons_succ])
      (refine wpSeqG_movR rfl rfl rfl ?_; intro o ho; simp only [List.getElem?_toArray, List.getElem?_cons_zero, List.getElem?_cons_succ, Option.some.injEq] at ho; subst ho; refine ⟨?_, Or.inl ⟨by rfl, fun W hSW => ?_⟩, ?_⟩; rotate_left; (focus (go_simp; first | done | with_reducible rfl)); try simp only [Act.put, List.setIfInBounds_toArray, List.set_cons_zero, List.set_cons_succ])
      (refine wpSeqG_fix rfl rfl rfl ?_; intro o ho; simp only [List.getElem?_toArray, List.getElem?_cons_zero, List.getElem?_cons_succ, Option.some.injEq] at ho; subst ho; intro K hK)
      go_simp
      (refine hK.out _ _ (fun _ h => h) (fun _ h => h) ?_; clear hK K; try simp only [Act.put, List.setIfInBounds_toArray, List.set_cons_zero, List.set_cons_succ])
      have d8 : w2.cell? ⟨b, 8, none⟩ = some (.slice (some ⟨qt, 0, none⟩) s.tr.length G1.ct) := (HM2.out.sb.cell 8).trans (by rw [← ET1.out]; rfl)
      have z8 := HM2.out.sb.frozen 8
      have hm3 := HM2.out.cut_tr (p := p) (by omega)
      rw [ET1.out] at hm3
      have HM3 := Lib.hid hm3
      have HF3 := Lib.hid (HF2.out.set (i := 8) (.slice (some ⟨qt, 0, none⟩) p G1.ct) (.inr (show o b ≠ none by rw [HM2.out.so]; simp)))
      clear hm3
      (refine wpSeqG_movR rfl rfl rfl ?_; intro o ho; simp only [List.getElem?_toArray, List.getElem?_cons_zero, List.getElem?_cons_succ, Option.some.injEq] at ho; subst ho; refine ⟨?_, Or.inl ⟨by rfl, fun W hSW => ?_⟩, ?_⟩; rotate_left; (focus (go_simp; first | done | with_reducible rfl)); try simp only [Act.put, List.setIfInBounds_toArray, List.set_cons_zero, List.set_cons_succ])
      (refine wpSeqG_fix rfl rfl rfl ?_; intro o ho; simp only [List.getElem?_toArray, List.getElem?_cons_zero, List.getElem?_cons_succ, Option.some.injEq] at ho; subst ho; intro K hK)
      go_simp
      (refine hK.out _ _ (fun h => by simp at h) (fun _ h => h) ?_; clear hK K; try simp only [Act.put, List.setIfInBounds_toArray, List.set_cons_zero, List.set_cons_succ])
      clear d8 z8 HM2 HF2
      generalize w2.setCell ⟨b, 8, none⟩ (.slice (some ⟨qt, 0, none⟩) p G1.ct) = w3 at HM3 HF3 ⊢
      (refine wpSeqG_fix rfl rfl rfl ?_; intro o ho; simp only [List.getElem?_toArray, List.getElem?_cons_zero, List.getElem?_cons_succ, Option.some.injEq] at ho; subst ho; intro K hK)
      go_simp
      (refine hK.out _ _ (fun _ h => h) (fun _ h => h) ?_; clear hK K; try simp only [Act.put, List.setIfInBounds_toArray, List.set_cons_zero, List.set_cons_succ])
      have d10 : w3.cell? ⟨b, 10, none⟩ = some (.slice (some ⟨ql, 0, none⟩) s.lims.length G1.cl) := (HM3.out.sb.cell 10).trans (by rw [← EL1.out]; rfl)
      have z10 := HM3.out.sb.frozen 10
      have hm4 := HM3.out.cut_lm (p := lv) (by show lv ≤ s.lims.length; omega)
      rw [EL1.out] at hm4
      have HM4 := Lib.hid hm4
      have HF4 := Lib.hid (HF3.out.set (i := 10) (.slice (some ⟨ql, 0, none⟩) lv G1.cl) (.inr (show o b ≠ none by rw [HM3.out.so]; simp)))
      clear hm4
      (refine wpSeqG_movR rfl rfl rfl ?_; intro o ho; simp only [List.getElem?_toArray, List.getElem?_cons_zero, List.getElem?_cons_succ, Option.some.injEq] at ho; subst ho; refine ⟨?_, Or.inl ⟨by rfl, fun W hSW => ?_⟩, ?_⟩; rotate_left; (focus (go_simp; first | done | with_reducible rfl)); try simp only [Act.put, List.setIfInBounds_toArray, List.set_cons_zero, List.set_cons_succ])
      (refine wpSeqG_fix rfl rfl rfl ?_; intro o ho; simp only [List.getElem?_toArray, List.getElem?_cons_zero, List.getElem?_cons_succ, Option.some.injEq] at ho; subst ho; intro K hK)
      go_simp
      (refine hK.out _ _ (fun h => by simp at h) (fun _ h => h) ?_; clear hK K; try simp only [Act.put, List.setIfInBounds_toArray, List.set_cons_zero, List.set_cons_succ])
      clear d10 z10 HM3 HF3
      generalize w3.setCell ⟨b, 10, none⟩ (.slice (some ⟨ql, 0, none⟩) lv G1.cl) = w4 at HM4 HF4 ⊢
      (refine wpSeqG_fix rfl rfl rfl ?_; intro o ho; simp only [List.getElem?_toArray, List.getElem?_cons_zero, List.getElem?_cons_succ, Option.some.injEq] at ho; subst ho; intro K hK)
      go_simp
      (refine hK.out _ _ (fun _ h => h) (fun _ h => h) ?_; clear hK K; try simp only [Act.put, List.setIfInBounds_toArray, List.set_cons_zero, List.set_cons_succ])
      (refine wpSeqG_movR rfl rfl rfl ?_; intro o ho; simp only [List.getElem?_toArray, List.getElem?_cons_zero, List.getElem?_cons_succ, Option.some.injEq] at ho; subst ho; refine ⟨?_, Or.inl ⟨by rfl, fun W hSW => ?_⟩, ?_⟩; rotate_left; (focus (go_simp; first | done | with_reducible rfl)); try simp only [Act.put, List.setIfInBounds_toArray, List.set_cons_zero, List.set_cons_succ])
      have d9 := HM4.out.sb.cell 9
      have z9 := HM4.out.sb.frozen 9
      have HM5 := Lib.hid (HM4.out.set_done p)
      have HF5 := Lib.hid (HF4.out.set (i := 9) (.int .i64 (p : Int)) (.inr (show o b ≠ none by rw [HM4.out.so]; simp)))
      (refine wpSeqG_fix rfl rfl rfl ?_; intro o ho; simp only [List.getElem?_toArray, List.getElem?_cons_zero, List.getElem?_cons_succ, Option.some.injEq] at ho; subst ho; intro K hK)
      go_simp
      (refine hK.out _ _ (fun _ h => ⟨(sc_ne15 (by decide)).trans h.1, (sc_ne15 (by decide)).trans h.2⟩) (fun _ h => h) ?_; clear hK K; try simp only [Act.put, List.setIfInBounds_toArray, List.set_cons_zero, List.set_cons_succ])
      clear d9 z9 HM4 HF4
      refine wpSeqG_done ?_
      go_wp2_with fail
      go_end0
      refine ⟨rfl, G1, HM5.out, ⟨fun v h1 h2 => ?_, fun i y hy => ?_, fun i y r hy => ?_, ⟨?_, ?_⟩⟩, HB.out.und, HB.out.U, HB.out.dead, HF5.out⟩
      · rw [back_lits]
        exact HVV.out v h1 h2
      · rw [back_lits] at hy
        rw [List.getElem?_take] at hy
        split at hy
        · next hip =>
          rw [HB.out.lv, HR.out.lv i y hy]
          congr 2
          show levAt s.lims i = levAt (s.lims.take lv) i
          unfold levAt
          conv => lhs; rw [← List.take_append_drop lv s.lims]
          have h0 : (s.lims.drop lv).countP (fun l => decide (l ≤ i)) = 0 := List.countP_eq_zero.2 fun l hl => by
            obtain ⟨m, hm⟩ := List.getElem?_of_mem hl
            rw [List.getElem?_drop] at hm
            have h4 : ¬ l < p := fun h5 => by
              have := (pw_lt HI.out.lpw hm HP.out).2 h5
              omega
            simp
            omega
          rw [List.countP_append, h0, Nat.add_zero]
        · cases hy
      · have hy' : (s.tr.take p)[i]? = some (y, r) := hy
        rw [List.getElem?_take] at hy'
        split at hy'
        · next hip => exact HB.out.rv i y r hip hy'
        · cases hy'
      · intro x k
        rw [HB.out.und]
        exact HR.out.ui.mem x k
      · intro x
        rw [HB.out.und]
        exact HR.out.ui.len x
end
end Go.Proofs.Ytbkmgblijncjhaa

set_option linter.unusedVariables false
set_option linter.unusedSimpArgs false
namespace Go.Proofs.Ytbkmgblijncjhaa
open Go.RowKit Go.Maps

section
variable {w w' w9 w10 : World} {base b n : Nat} {s : SS} {G : SG} {o o' : Owns}
/-- A block of no label becomes a clause's. -/
def ownC (o : Owns) (A : Option Addr) : Owns := fun k => match A with
  | some a => if k = a.block then some .cl else o k
  | none => o k
theorem ownC_at {k p : Nat} : ownC o (some ⟨k, p, none⟩) k = some .cl := if_pos rfl
theorem ownC_ne {A : Option Addr} {j : Nat} (h : ∀ k p, A = some ⟨k, p, none⟩ → j ≠ k) (hA : ∀ a, A = some a → a.spot = none) : ownC o A j = o j := by
  cases A with
  | none => rfl
  | some a =>
    have h1 := hA a rfl
    obtain ⟨k, p, q⟩ := a
    cases h1
    exact if_neg (h k p rfl)
theorem SMem.relabel (h : SMem w base b n s G o) {A : Option Addr} (hA : ∀ a, A = some a → a.spot = none ∧ base ≤ a.block ∧ a.block < w.heap.size ∧ o a.block = none) : SMem w base b n s G (ownC o A) := by
  cases A with
  | none => exact h
  | some a =>
    obtain ⟨h1, h2, h3, h4⟩ := hA a rfl
    have hO : ∀ k l, o k = some l → ownC o (some a) k = some l := fun k l e => by
      refine (if_neg fun e2 => ?_).trans e
      rw [e2, h4] at e
      cases e
    exact ⟨h.sb, hO _ _ h.so, ⟨h.v.blk, h.v.len, hO _ _ h.v.own⟩, ⟨h.l.blk, h.l.len, hO _ _ h.l.own⟩, ⟨h.r.blk, h.r.len, hO _ _ h.r.own⟩, ⟨h.ot.blk, h.ot.len, hO _ _ h.ot.own⟩, ⟨h.wt.blk, h.wt.len, hO _ _ h.wt.own⟩, h.tr, fun k e => hO _ _ (h.tro k e), h.lm, fun k e => hO _ _ (h.lmo k e), h.cs, fun k e => hO _ _ (h.cso k e), h.csl,
      fun i c A h1 h2 => cl_own (h.cl i c A h1 h2) fun k e => hO _ _ e, h.mp, hO _ _ h.mpo, h.ur, fun x k e => hO _ _ (h.uro x k e), h.uz, fun k l e => by
      unfold ownC at e
      simp only at e
      split at e
      · next e2 => rw [e2]; exact ⟨h2, h3⟩
      · exact h.ol k l e⟩
/-- One clause more, behind an append. -/
theorem SMem.push_cs (h : SMem w base b n s G o) {d : List Int} {Ad : Option Addr × Nat} {A' : Option Addr} {c' : Nat} (hd : Vals w w.heap.size Ad.1 (i64s d) ∧ d.length ≤ Ad.2 ∧ ∀ k p, Ad.1 = some ⟨k, p, none⟩ → o k = some .cl)
    (ho : w9.ownsRow base 25 1 (.slice A' (s.cls.length + 1) c') (s.cls.length + 1) ((s.cls.zip G.CS).map clV ++ [clV (d, Ad)])) (hg : w.grownBy w9 (Value.slice G.C s.cls.length G.cc).ownBlock)
    (hat : (Value.slice A' (s.cls.length + 1) c').ownBlock = (Value.slice G.C s.cls.length G.cc).ownBlock ∨ (Value.slice A' (s.cls.length + 1) c').ownBlock = some w.heap.size) :
    SMem (w9.setCell ⟨b, 1, none⟩ (.slice A' (s.cls.length + 1) c')) base b n (s.add d) { G with C := A', cc := c', CS := G.CS ++ [Ad] } (ownR o (.slice A' (s.cls.length + 1) c') .cls) ∧ Olds w o (ownR o (.slice A' (s.cls.length + 1) c') .cls) ∧ SFr o w (w9.setCell ⟨b, 1, none⟩ (.slice A' (s.cls.length + 1) c')) := by
  have hO := ownR_old (w := w) h.cso hat
  have hbl := (h.ol _ _ h.so).2
  have hb9 : w9.heap[b]? = w.heap[b]? := hg.block b hbl fun e => by
    have := h.cso b e.symm
    rw [h.so] at this
    cases this
  have hs : w.heap.size ≤ (w9.setCell ⟨b, 1, none⟩ (.slice A' (s.cls.length + 1) c')).heap.size := by
    have := hg.size
    simpa [World.setCell] using this
  have hk : ∀ k lb, o k = some lb → lb ≠ .s → lb ≠ .cls → (w9.setCell ⟨b, 1, none⟩ (.slice A' (s.cls.length + 1) c')).heap[k]? = w.heap[k]? := fun k lb e h1 h2 => by
    refine (Below.heap_setCell w9 ⟨b, 1, none⟩ _ k ?_).trans (hg.block k (h.ol _ _ e).2 fun e2 => ?_)
    · show k ≠ b
      intro e2
      subst e2
      rw [h.so] at e
      exact h1 (Option.some.inj e).symm
    · have := h.cso k e2.symm
      rw [e] at this
      exact h2 (Option.some.inj this)
  have hsb : Blk (w9.setCell ⟨b, 1, none⟩ (.slice A' (s.cls.length + 1) c')) b 68 (sCells n (s.add d) { G with C := A', cc := c', CS := G.CS ++ [Ad] }) := by
    have h1 : Blk w9 b 68 (sCells n s G) := hb9.trans h.sb
    have h2 := h1.set_ 1 (.slice A' (s.cls.length + 1) c')
    have e : (sCells n s G).setIfInBounds 1 (.slice A' (s.cls.length + 1) c') = sCells n (s.add d) { G with C := A', cc := c', CS := G.CS ++ [Ad] } := by
      simp [sCells, SS.add]
    rwa [e] at h2
  have hnb : ∀ k, (Value.slice A' (s.cls.length + 1) c').ownBlock = some k → k ≠ b := fun k e e2 => by
    subst e2
    have h1 := hO k hbl
    unfold ownR at h1
    rw [if_pos e, h.so] at h1
    cases h1
  have hrow0 : (w9.setCell ⟨b, 1, none⟩ (.slice A' (s.cls.length + 1) c')).ownsRow base 25 1 (.slice A' (s.cls.length + 1) c') (s.cls.length + 1) ((s.cls.zip G.CS).map clV ++ [clV (d, Ad)]) := row_keep ho fun k e => Below.heap_setCell w9 ⟨b, 1, none⟩ _ k (hnb k e)
  have hrow : (w9.setCell ⟨b, 1, none⟩ (.slice A' (s.cls.length + 1) c')).ownsRow base 25 1 (.slice A' ((s.add d)).cls.length c') ((s.add d)).cls.length ((((s.add d)).cls.zip (G.CS ++ [Ad])).map clV) := by
    have e : ((((s.add d)).cls.zip (G.CS ++ [Ad])).map clV) = (s.cls.zip G.CS).map clV ++ [clV (d, Ad)] := by
      show ((s.cls ++ [d]).zip (G.CS ++ [Ad])).map clV = _
      rw [List.zip_append h.csl.symm]
      simp
    rw [e]
    simpa [SS.add] using hrow0
  have hcl : ∀ (i : Nat) (c : List Int) (A : Option Addr × Nat), ((s.add d)).cls[i]? = some c → (G.CS ++ [Ad])[i]? = some A → Vals (w9.setCell ⟨b, 1, none⟩ (.slice A' (s.cls.length + 1) c')) (w9.setCell ⟨b, 1, none⟩ (.slice A' (s.cls.length + 1) c')).heap.size A.1 (i64s c) ∧ c.length ≤ A.2 ∧ ∀ k p, A.1 = some ⟨k, p, none⟩ → ownR o (.slice A' (s.cls.length + 1) c') .cls k = some .cl := fun i c A h1 h2 => by
    have h3 : Vals w w.heap.size A.1 (i64s c) ∧ c.length ≤ A.2 ∧ ∀ k p, A.1 = some ⟨k, p, none⟩ → o k = some .cl := by
      rcases get_snoc h1 with ⟨h4, h5⟩ | ⟨h4, h5⟩
      · rw [List.getElem?_append_left (by rw [h.csl]; exact h4)] at h2
        exact h.cl i c A h5 h2
      · rw [h4, List.getElem?_append_right (by rw [h.csl]; exact Nat.le_refl _), h.csl, Nat.sub_self] at h2
        cases h2
        rw [h5]
        exact hd
    exact cl_own (cl_keep h3 hs fun k e => hk _ _ e (by simp) (by simp)) fun k e => (hO k (h.ol _ _ e).2).trans e
  have hol : ∀ k lb, ownR o (.slice A' (s.cls.length + 1) c') .cls k = some lb → base ≤ k ∧ k < (w9.setCell ⟨b, 1, none⟩ (.slice A' (s.cls.length + 1) c')).heap.size := fun k lb e => by
    unfold ownR at e
    split at e
    · next e1 =>
      have := hrow0.lt k e1
      omega
    · have := h.ol k lb e
      omega
  refine ⟨⟨hsb, (hO _ (h.ol _ _ h.so).2).trans h.so, h.v.keep (hk _ _ h.v.own (by simp) (by simp)) (hO _ (h.ol _ _ h.v.own).2), h.l.keep (hk _ _ h.l.own (by simp) (by simp)) (hO _ (h.ol _ _ h.l.own).2), h.r.keep (hk _ _ h.r.own (by simp) (by simp)) (hO _ (h.ol _ _ h.r.own).2), h.ot.keep (hk _ _ h.ot.own (by simp) (by simp)) (hO _ (h.ol _ _ h.ot.own).2), h.wt.keep (hk _ _ h.wt.own (by simp) (by simp)) (hO _ (h.ol _ _ h.wt.own).2), row_keep h.tr fun k e => hk _ _ (h.tro k e) (by simp) (by simp), fun k e => (hO k (h.ol _ _ (h.tro k e)).2).trans (h.tro k e), row_keep h.lm fun k e => hk _ _ (h.lmo k e) (by simp) (by simp), fun k e => (hO k (h.ol _ _ (h.lmo k e)).2).trans (h.lmo k e), hrow, fun k e => if_pos (show _ = some k from (by rw [← e]; cases A' <;> rfl)), (by simp [SS.add, h.csl]), hcl, h.mp.same (hk _ _ h.mpo (by simp) (by simp)), (hO _ (h.ol _ _ h.mpo).2).trans h.mpo, fun x => row_keep (h.ur x) fun k e => hk _ _ (h.uro x k e) (by simp) (by simp), fun x k e => (hO k (h.ol _ _ (h.uro x k e)).2).trans (h.uro x k e), h.uz, hol⟩, hO, ?_⟩
  refine ((SFr.refl o w).grown hg fun k e => .inr ?_).set _ (.inr ?_)
  · rw [h.cso k e]
    simp
  · rw [h.so]
    simp
/-- One number more under x, behind an append. -/
theorem SMem.push_und (h : SMem w base b n s G o) {x : Int} {k : Nat} (hx : -9223372036854775808 ≤ x ∧ x ≤ 9223372036854775807) (hun : G.un < maxLen) {A' : Option Addr} {c' : Nat} (ho : w9.ownsRow base 3 1 (.slice A' ((G.und x).length + 1) c') ((G.und x).length + 1) (natV (G.und x) ++ [.int .i64 (k : Int)])) (hg : w.grownBy w9 (Value.slice (G.U x).1 (G.und x).length (G.U x).2).ownBlock)
    (hat : (Value.slice A' ((G.und x).length + 1) c').ownBlock = (Value.slice (G.U x).1 (G.und x).length (G.U x).2).ownBlock ∨ (Value.slice A' ((G.und x).length + 1) c').ownBlock = some w.heap.size) :
    ∃ w10 o', (Instr.mapUpdate 60 (.map (some G.um)) (.int .i64 x) (.slice A' ((G.und x).length + 1) c')).run Try.prog w9 = .ok () w10 ∧ SMem w10 base b n s { G with U := fun y => if y = x then (A', c') else G.U y, und := fun y => if y = x then G.und x ++ [k] else G.und y, un := G.un + 1 } o' ∧ Olds w o o' ∧ SFr o w w10 := by
  have hO := ownR_old (w := w) (h.uro x) hat
  have hum : ∀ j, (Value.slice (G.U x).1 (G.und x).length (G.U x).2).ownBlock = some j → j ≠ G.um := fun j e e2 => by
    have := h.uro x j e
    rw [e2, h.mpo] at this
    cases this
  have hm9 : IMap Try.prog 3 w9 G.um G.un _ := h.mp.same (hg.block _ (h.ol _ _ h.mpo).2 fun e => hum _ e.symm rfl)
  obtain ⟨w10, hr, hm, hgm⟩ := hm9.store Try.underlying3 Try.underlying60 hun hx.1 hx.2 (.slice A' ((G.und x).length + 1) c')
  refine ⟨w10, ownR o (.slice A' ((G.und x).length + 1) c') (.und x), hr, ?_, hO, ?_⟩
  · have hs : w.heap.size ≤ w10.heap.size := Nat.le_trans hg.size hgm.size
    have hk : ∀ j lb, o j = some lb → lb ≠ .und x → lb ≠ .map → w10.heap[j]? = w.heap[j]? := fun j lb e h1 h2 => by
      have hj := (h.ol _ _ e).2
      refine (hgm.block j (Nat.lt_of_lt_of_le hj hg.size) fun e2 => ?_).trans (hg.block j hj fun e2 => ?_)
      · cases e2
        rw [h.mpo] at e
        exact h2 (Option.some.inj e).symm
      · have := h.uro x j e2.symm
        rw [e] at this
        exact h1 (Option.some.inj this)
    have hnm : ∀ j, (Value.slice A' ((G.und x).length + 1) c').ownBlock = some j → j ≠ G.um := fun j e e2 => by
      subst e2
      have h1 := hO G.um (h.ol _ _ h.mpo).2
      unfold ownR at h1
      rw [if_pos e, h.mpo] at h1
      cases h1
    have hrow : w10.ownsRow base 3 1 (.slice A' ((G.und x).length + 1) c') ((G.und x).length + 1) (natV (G.und x) ++ [.int .i64 (k : Int)]) := row_keep ho fun j e => hgm.block j (ho.lt j e).2 fun e2 => hnm j e (Option.some.inj e2)
    have hmp : IMap Try.prog 3 w10 G.um (G.un + 1) (fun y => if (if y = x then G.und x ++ [k] else G.und y) = [] then none else some (.slice (if y = x then (A', c') else G.U y).1 (if y = x then G.und x ++ [k] else G.und y).length (if y = x then (A', c') else G.U y).2)) := hm.congr fun y => by
      unfold putI
      by_cases e : y = x
      · subst e
        simp
      · simp only [e, if_false]
    have hur : ∀ y, w10.ownsRow base 3 1 (.slice (if y = x then (A', c') else G.U y).1 (if y = x then G.und x ++ [k] else G.und y).length (if y = x then (A', c') else G.U y).2) (if y = x then G.und x ++ [k] else G.und y).length (natV (if y = x then G.und x ++ [k] else G.und y)) := fun y => by
      by_cases e : y = x
      · simp only [e, if_true]
        have e1 : natV (G.und x ++ [k]) = natV (G.und x) ++ [.int .i64 (k : Int)] := by simp [natV]
        rw [e1]
        simpa using hrow
      · simp only [e, if_false]
        exact row_keep (h.ur y) fun j e2 => hk _ _ (h.uro y j e2) (by simpa using e) (by simp)
    have huro : ∀ y j, (Value.slice (if y = x then (A', c') else G.U y).1 (if y = x then G.und x ++ [k] else G.und y).length (if y = x then (A', c') else G.U y).2).ownBlock = some j → ownR o (.slice A' ((G.und x).length + 1) c') (.und x) j = some (.und y) := fun y j e2 => by
      by_cases e : y = x
      · subst e
        simp only [if_true] at e2
        exact if_pos (show _ = some j from (by rw [← e2]; cases A' <;> rfl))
      · simp only [e, if_false] at e2
        have h1 := h.uro y j e2
        exact (hO j (h.ol _ _ h1).2).trans h1
    have huz : ∀ y, (if y = x then G.und x ++ [k] else G.und y) = [] → (if y = x then (A', c') else G.U y) = (none, 0) := fun y e2 => by
      by_cases e : y = x
      · simp [e] at e2
      · simp only [e, if_false] at e2 ⊢
        exact h.uz y e2
    have hol : ∀ j lb, ownR o (.slice A' ((G.und x).length + 1) c') (.und x) j = some lb → base ≤ j ∧ j < w10.heap.size := fun j lb e => by
      unfold ownR at e
      split at e
      · next e1 =>
        have := hrow.lt j e1
        omega
      · have := h.ol j lb e
        omega
    exact ⟨(hk _ _ h.so (by simp) (by simp)).trans h.sb, (hO _ (h.ol _ _ h.so).2).trans h.so, h.v.keep (hk _ _ h.v.own (by simp) (by simp)) (hO _ (h.ol _ _ h.v.own).2), h.l.keep (hk _ _ h.l.own (by simp) (by simp)) (hO _ (h.ol _ _ h.l.own).2), h.r.keep (hk _ _ h.r.own (by simp) (by simp)) (hO _ (h.ol _ _ h.r.own).2), h.ot.keep (hk _ _ h.ot.own (by simp) (by simp)) (hO _ (h.ol _ _ h.ot.own).2), h.wt.keep (hk _ _ h.wt.own (by simp) (by simp)) (hO _ (h.ol _ _ h.wt.own).2), row_keep h.tr fun k e => hk _ _ (h.tro k e) (by simp) (by simp), fun k e => (hO k (h.ol _ _ (h.tro k e)).2).trans (h.tro k e), row_keep h.lm fun k e => hk _ _ (h.lmo k e) (by simp) (by simp), fun k e => (hO k (h.ol _ _ (h.lmo k e)).2).trans (h.lmo k e), row_keep h.cs fun k e => hk _ _ (h.cso k e) (by simp) (by simp), fun k e => (hO k (h.ol _ _ (h.cso k e)).2).trans (h.cso k e), h.csl, fun i c A h1 h2 => cl_own (cl_keep (h.cl i c A h1 h2) hs fun k e => hk _ _ e (by simp) (by simp)) fun k e => (hO k (h.ol _ _ e).2).trans e, hmp, (hO _ (h.ol _ _ h.mpo).2).trans h.mpo, hur, huro, huz, hol⟩
  · refine ((SFr.refl o w).grown hg fun j e => .inr ?_).grown hgm fun j e => .inr ?_
    · rw [h.uro x j e]
      simp
    · cases e
      rw [h.mpo]
      simp
end
end Go.Proofs.Ytbkmgblijncjhaa
